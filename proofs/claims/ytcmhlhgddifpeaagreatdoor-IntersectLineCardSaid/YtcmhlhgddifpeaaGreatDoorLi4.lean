/-
  A part of the proof: the machine, the contracts of the functions and the plain laws, merged from smaller texts.
-/
import Derived.Test.YtcmhlhgddifpeaaGreatDoorLi3
section
set_option linter.unusedVariables false
set_option linter.unusedSimpArgs false
set_option linter.unusedSectionVars false
set_option maxRecDepth 4000
namespace Go.Eng
open Go Go.Proofs Go.IntWalk
def spFU64 : List Value → Option Value
  | [.int .u64 n] => if 0 ≤ n ∧ n < 18446744073709551616 then some (.string ⟨⟨bl n.toNat⟩⟩) else none
  | _ => none
def c70 : ICode :=
  (.seq (.reg [⟨(some 2), none, (.mv (.c (.string ⟨⟨[]⟩⟩)))⟩])
  (.seq (.reg [⟨(some 3), none, (.mv (.t 0))⟩, ⟨(some 4), none, (.conv .u32 (.t 3))⟩, ⟨(some 5), none, (.mv (.t 0))⟩, ⟨(some 6), none, (.bin .shr (.t 5) (.c (.int .u64 32)))⟩, ⟨(some 7), none, (.conv .u32 (.t 6))⟩, ⟨(some 8), none, (.bslice 118 1 2 [(.int .u32 0), (.int .u32 0)] [(0, 1, (.t 4)), (1, 1, (.t 7))])⟩, ⟨(some 9), none, (.call 113 [(.t 8)])⟩, ⟨(some 2), none, (.mv (.t 9))⟩])
  .ret))
theorem tr70 : trFun Tryz.prog 70 = some ⟨10, [.t 2], c70⟩ := by kernel_rfl
theorem ok_nFU64 : SpecOK Tryz.prog 70 (flat spFU64) := by
  refine flat_run (env_cons ok_nmag (env_nil _)) mixed tr70 ?_
  intro args v h N hG
  unfold spFU64 at hG
  split at hG
  case h_2 => cases hG
  rename_i n
  split at hG
  case isFalse => cases hG
  rename_i hl
  obtain ⟨h1, h2⟩ := hl
  cases hG
  refine ⟨rfl, by simp, ?_⟩
  obtain ⟨n, rfl⟩ := Int.eq_ofNat_of_zero_le h1
  have e1 := u32_mod n
  have e2 : (n : Int).fdiv (2 ^ min 32 IntKind.u64.bits) = ((n / 4294967296 : Nat) : Int) := by
    have : (2 : Int) ^ min 32 IntKind.u64.bits = 4294967296 := rfl
    rw [this, Int.fdiv_eq_ediv_of_nonneg _ (by omega)]; omega
  have e3 := u32_nat (n := n / 4294967296) (by omega)
  have f1 : ((n % 4294967296 : Nat) : Int) < 4294967296 := by omega
  have f2 : ((n / 4294967296 : Nat) : Int) < 4294967296 := by omega
  have f3 : n % 4294967296 + 4294967296 * (n / 4294967296 + 4294967296 * 0) = n := by omega
  simp only [c70, initT, List.zipIdx_cons, List.zipIdx_nil, List.map_cons, List.map_nil, Nat.reduceAdd]
  simp only [↓R0, R1, rdL, rdH, isCall, istep, ibin, vcells, fillI, setR, flat, okCell, isBase, List.set, List.drop, List.take, List.append, bnds, bhi, blo, srcOf, ↓reduceIte, Nat.reduceEqDiff, Nat.reduceAdd, Nat.reduceLeDiff, reduceCtorEq, Nat.reduceSub, Int.reduceEq, Int.reduceLT, Int.reduceLE, Int.reduceGT, Int.reduceGE, Int.reduceSub, Int.reduceAdd, Int.reduceMul, Int.reduceNe, Int.reduceNeg, Int.reduceToNat, Nat.reduceMul, e1, e2, e3, rdS, spMag, shows, uok, ud, f1, f2, f3, Fin, isEnd, resL, res1, iE, rE]
  exact ⟨_, rfl, rfl, fun k hk => by simp only [ne_nb hk, if_false]⟩
def spU64 : List Value → Option Value
  | [.string ⟨⟨l⟩⟩] => if l.length ≤ 1099511627776 then some (.tuple ⟨if nl l < 18446744073709551616 then [.int .u64 (nl l : Nat), .bool true] else [.int .u64 0, .bool false]⟩) else none
  | _ => none
def c109 : ICode :=
  (.seq (.reg [⟨(some 2), none, (.mv (.c (.int .u64 0)))⟩, ⟨(some 3), none, (.mv (.c (.bool false)))⟩])
  (.seq (.reg [⟨(some 6), none, (.mv (.t 0))⟩, ⟨(some 7), none, (.call 108 [(.t 6)])⟩, ⟨(some 0), none, (.mv (.t 7))⟩])
  (.seq (.seq (.reg [⟨(some 8), none, (.mv (.t 0))⟩, ⟨(some 9), none, (.lens (.t 8))⟩, ⟨(some 10), none, (.bin .gtr (.t 9) (.c (.int .i64 8)))⟩])
  (.cond (.t 10)
  (.seq (.reg [⟨(some 2), none, (.mv (.c (.int .u64 0)))⟩, ⟨(some 3), none, (.mv (.c (.bool false)))⟩])
  .ret)
  .skip))
  (.seq (.reg [⟨(some 4), none, (.mv (.c (.int .u64 0)))⟩])
  (.seq (.seq (.reg [⟨(some 11), none, (.mv (.t 0))⟩, ⟨(some 12), none, (.lens (.t 11))⟩, ⟨(some 13), none, (.mv (.c (.int .i64 0)))⟩])
  (.block 0 (.loop (.seq (.reg [⟨(some 14), none, (.bin .lss (.t 13) (.t 12))⟩])
  (.seq (.cond (.t 14)
  .skip
  (.exit 0))
  (.seq (.block 1 (.seq (.reg [⟨(some 15), none, (.mv (.t 13))⟩, ⟨(some 5), none, (.mv (.t 15))⟩])
  (.reg [⟨(some 16), none, (.mv (.t 4))⟩, ⟨(some 17), none, (.mv (.t 0))⟩, ⟨(some 18), none, (.mv (.t 5))⟩, ⟨(some 19), none, (.idstr (.t 17) (.t 18))⟩, ⟨(some 20), none, (.conv .u64 (.t 19))⟩, ⟨(some 21), none, (.mv (.t 5))⟩, ⟨(some 22), none, (.bin .mul (.c (.int .i64 8)) (.t 21))⟩, ⟨(some 23), none, (.bin .shl (.t 20) (.t 22))⟩, ⟨(some 24), none, (.bin .or (.t 16) (.t 23))⟩, ⟨(some 4), none, (.mv (.t 24))⟩])))
  (.reg [⟨(some 25), none, (.bin .add (.t 13) (.c (.int .i64 1)))⟩, ⟨(some 13), none, (.mv (.t 25))⟩])))))))
  (.seq (.reg [⟨(some 26), none, (.mv (.t 4))⟩, ⟨(some 2), none, (.mv (.t 26))⟩, ⟨(some 3), none, (.mv (.c (.bool true)))⟩])
  .ret))))))
theorem tr109 : trFun Tryz.prog 109 = some ⟨27, [.t 2, .t 3], c109⟩ := by kernel_rfl
theorem shl64 {c s : Nat} (h : c * 2 ^ s < 18446744073709551616) (hs : s ≤ 64) : IntKind.u64.wrap ((c : Int) * 2 ^ min s IntKind.u64.bits) = ((c * 2 ^ s : Nat) : Int) := by
  have : min s IntKind.u64.bits = s := Nat.min_eq_left hs
  rw [this, ← u64_nat h, Int.natCast_mul, Int.natCast_pow]; rfl
theorem ok_nU64 : SpecOK Tryz.prog 109 (flat spU64) := by
  refine flat_run (env_cons ok_nNorm (env_nil _)) mixed tr109 ?_
  intro args v h N hG
  unfold spU64 at hG
  split at hG
  case h_2 => cases hG
  rename_i l
  split at hG
  case isFalse => cases hG
  rename_i hl
  cases hG
  refine ⟨by split <;> rfl, by simp, ?_⟩
  have hL : (bl (nl l)).length ≤ 1099511627776 := Nat.le_trans (bl_length_nl l) hl
  generalize hn : nl l = n at *
  have h8 : (bl n).length ≤ 8 ↔ n < 18446744073709551616 := bl_length_le (k := 8)
  simp only [c109, initT, List.zipIdx_cons, List.zipIdx_nil, List.map_cons, List.map_nil, Nat.reduceAdd]
  by_cases c : n < 18446744073709551616
  · rw [if_pos c]
    have hle := h8.2 c
    have g : (((bl n).length : Int) > 8) = False := eq_false (by omega)
    simp only [↓R0, R1, rdL, rdH, isCall, istep, ibin, vcells, fillI, setR, flat, okCell, isBase, List.set, List.drop, List.take, List.append, bnds, bhi, blo, srcOf, ↓reduceIte, Nat.reduceEqDiff, Nat.reduceAdd, Nat.reduceLeDiff, reduceCtorEq, Nat.reduceSub, Int.reduceEq, Int.reduceLT, Int.reduceLE, Int.reduceGT, Int.reduceGE, Int.reduceSub, Int.reduceAdd, Int.reduceMul, Int.reduceNe, Int.reduceNeg, Int.reduceToNat, Nat.reduceMul, spNNorm, hl, hn, g]
    refine lp_parts (fun m tm hp nx => ∃ (i : Nat), m + i = (bl n).length ∧ tmget tm 0 = .string ⟨⟨bl n⟩⟩ ∧ tmget tm 4 = .int .u64 (nl ((bl n).take i) : Nat) ∧ tmget tm 12 = .int .i64 (bl n).length ∧ tmget tm 13 = .int .i64 i ∧
        hp = h ∧ nx = N + 0) ?_ (bl n).length ⟨0, by omega, ?_, ?_, ?_, ?_, rfl, rfl⟩
    · intro m tm hp nx ⟨i, hm, h0, h4, h12, h13, hh, hnx⟩
      subst hnx hh
      by_cases c1 : i < (bl n).length
      · obtain ⟨b, hbb⟩ : ∃ b, (bl n)[i]? = some b := ⟨_, List.getElem?_eq_getElem c1⟩
        have hts := nl_take_succ (bl n) i
        rw [hbb, Option.getD_some] at hts
        have hlt := nl_take_lt (bl n) i
        have hlt2 := nl_take_lt (bl n) (i + 1)
        have hp8 : 256 ^ i = 2 ^ (8 * i) := by rw [Nat.pow_mul]
        have hq8 : 256 ^ (i + 1) ≤ 256 ^ 8 := Nat.pow_le_pow_right (by omega) (by omega)
        rw [hts] at hlt2
        rw [hp8] at hlt hlt2 hts
        have hsum : nl ((bl n).take i) + b.toNat * 2 ^ (8 * i) < 18446744073709551616 := by
          rw [Nat.mul_comm (b.toNat)]
          exact Nat.lt_of_lt_of_le hlt2 hq8
        have e1 := u64_nat (n := b.toNat) (by have := b.toNat_lt; omega)
        have e3 : IntKind.i64.wrap (8 * (i : Int)) = ((8 * i : Nat) : Int) := by rw [i64_in _ (by omega)]; omega
        have e4 : ¬ (((8 * i : Nat) : Int) < 0) := by omega
        have e5 := shl64 (c := b.toNat) (s := 8 * i) (by omega) (by omega)
        have e6 := or_u64 hlt hsum
        have e7 : IntKind.i64.wrap ((i : Int) + 1) = ((i + 1 : Nat) : Int) := by rw [i64_in _ (by omega)]; omega
        simp only [↓R0, R1, rdL, rdH, isCall, istep, ibin, vcells, fillI, setR, flat, okCell, isBase, List.set, List.drop, List.take, List.append, bnds, bhi, blo, srcOf, ↓reduceIte, Nat.reduceEqDiff, Nat.reduceAdd, Nat.reduceLeDiff, reduceCtorEq, Nat.reduceSub, Int.reduceEq, Int.reduceLT, Int.reduceLE, Int.reduceGT, Int.reduceGE, Int.reduceSub, Int.reduceAdd, Int.reduceMul, Int.reduceNe, Int.reduceNeg, Int.reduceToNat, Nat.reduceMul, h0, h4, h12, h13, c1, hbb, e1, e3, e4, e5, e6, e7]
        refine ⟨m - 1, by omega, i + 1, by omega, ?_, rfl, rfl⟩
        rw [hts, Nat.mul_comm (b.toNat)]
      · have ei : i = (bl n).length := by omega
        subst ei
        rw [List.take_length, nl_bl] at h4
        simp only [↓R0, R1, rdL, rdH, isCall, istep, ibin, vcells, fillI, setR, flat, okCell, isBase, List.set, List.drop, List.take, List.append, bnds, bhi, blo, srcOf, ↓reduceIte, Nat.reduceEqDiff, Nat.reduceAdd, Nat.reduceLeDiff, reduceCtorEq, Nat.reduceSub, Int.reduceEq, Int.reduceLT, Int.reduceLE, Int.reduceGT, Int.reduceGE, Int.reduceSub, Int.reduceAdd, Int.reduceMul, Int.reduceNe, Int.reduceNeg, Int.reduceToNat, Nat.reduceMul, h0, h4, h12, h13, c1, Fin, isEnd, resL, res1, iE, rE]
        exact ⟨_, rfl, rfl, fun k hk => by simp only [ne_nb hk, if_false]⟩
    · (first | (simp only [↓R0, R1, rdL, rdH, isCall, istep, ibin, vcells, fillI, setR, flat, okCell, isBase, List.set, List.drop, List.take, List.append, bnds, bhi, blo, srcOf, ↓reduceIte, Nat.reduceEqDiff, Nat.reduceAdd, Nat.reduceLeDiff, reduceCtorEq, Nat.reduceSub, Int.reduceEq, Int.reduceLT, Int.reduceLE, Int.reduceGT, Int.reduceGE, Int.reduceSub, Int.reduceAdd, Int.reduceMul, Int.reduceNe, Int.reduceNeg, Int.reduceToNat, Nat.reduceMul]; done) | (simp only [↓R0, R1, rdL, rdH, isCall, istep, ibin, vcells, fillI, setR, flat, okCell, isBase, List.set, List.drop, List.take, List.append, bnds, bhi, blo, srcOf, ↓reduceIte, Nat.reduceEqDiff, Nat.reduceAdd, Nat.reduceLeDiff, reduceCtorEq, Nat.reduceSub, Int.reduceEq, Int.reduceLT, Int.reduceLE, Int.reduceGT, Int.reduceGE, Int.reduceSub, Int.reduceAdd, Int.reduceMul, Int.reduceNe, Int.reduceNeg, Int.reduceToNat, Nat.reduceMul]; rfl) | rfl)
    · (first | (simp only [↓R0, R1, rdL, rdH, isCall, istep, ibin, vcells, fillI, setR, flat, okCell, isBase, List.set, List.drop, List.take, List.append, bnds, bhi, blo, srcOf, ↓reduceIte, Nat.reduceEqDiff, Nat.reduceAdd, Nat.reduceLeDiff, reduceCtorEq, Nat.reduceSub, Int.reduceEq, Int.reduceLT, Int.reduceLE, Int.reduceGT, Int.reduceGE, Int.reduceSub, Int.reduceAdd, Int.reduceMul, Int.reduceNe, Int.reduceNeg, Int.reduceToNat, Nat.reduceMul, List.take_zero, nl]; done) | (simp only [↓R0, R1, rdL, rdH, isCall, istep, ibin, vcells, fillI, setR, flat, okCell, isBase, List.set, List.drop, List.take, List.append, bnds, bhi, blo, srcOf, ↓reduceIte, Nat.reduceEqDiff, Nat.reduceAdd, Nat.reduceLeDiff, reduceCtorEq, Nat.reduceSub, Int.reduceEq, Int.reduceLT, Int.reduceLE, Int.reduceGT, Int.reduceGE, Int.reduceSub, Int.reduceAdd, Int.reduceMul, Int.reduceNe, Int.reduceNeg, Int.reduceToNat, Nat.reduceMul, List.take_zero, nl]; rfl) | rfl)
    · (first | (simp only [↓R0, R1, rdL, rdH, isCall, istep, ibin, vcells, fillI, setR, flat, okCell, isBase, List.set, List.drop, List.take, List.append, bnds, bhi, blo, srcOf, ↓reduceIte, Nat.reduceEqDiff, Nat.reduceAdd, Nat.reduceLeDiff, reduceCtorEq, Nat.reduceSub, Int.reduceEq, Int.reduceLT, Int.reduceLE, Int.reduceGT, Int.reduceGE, Int.reduceSub, Int.reduceAdd, Int.reduceMul, Int.reduceNe, Int.reduceNeg, Int.reduceToNat, Nat.reduceMul]; done) | (simp only [↓R0, R1, rdL, rdH, isCall, istep, ibin, vcells, fillI, setR, flat, okCell, isBase, List.set, List.drop, List.take, List.append, bnds, bhi, blo, srcOf, ↓reduceIte, Nat.reduceEqDiff, Nat.reduceAdd, Nat.reduceLeDiff, reduceCtorEq, Nat.reduceSub, Int.reduceEq, Int.reduceLT, Int.reduceLE, Int.reduceGT, Int.reduceGE, Int.reduceSub, Int.reduceAdd, Int.reduceMul, Int.reduceNe, Int.reduceNeg, Int.reduceToNat, Nat.reduceMul]; rfl) | rfl)
    · (first | (simp only [↓R0, R1, rdL, rdH, isCall, istep, ibin, vcells, fillI, setR, flat, okCell, isBase, List.set, List.drop, List.take, List.append, bnds, bhi, blo, srcOf, ↓reduceIte, Nat.reduceEqDiff, Nat.reduceAdd, Nat.reduceLeDiff, reduceCtorEq, Nat.reduceSub, Int.reduceEq, Int.reduceLT, Int.reduceLE, Int.reduceGT, Int.reduceGE, Int.reduceSub, Int.reduceAdd, Int.reduceMul, Int.reduceNe, Int.reduceNeg, Int.reduceToNat, Nat.reduceMul]; done) | (simp only [↓R0, R1, rdL, rdH, isCall, istep, ibin, vcells, fillI, setR, flat, okCell, isBase, List.set, List.drop, List.take, List.append, bnds, bhi, blo, srcOf, ↓reduceIte, Nat.reduceEqDiff, Nat.reduceAdd, Nat.reduceLeDiff, reduceCtorEq, Nat.reduceSub, Int.reduceEq, Int.reduceLT, Int.reduceLE, Int.reduceGT, Int.reduceGE, Int.reduceSub, Int.reduceAdd, Int.reduceMul, Int.reduceNe, Int.reduceNeg, Int.reduceToNat, Nat.reduceMul]; rfl) | rfl)
  · rw [if_neg c]
    have g : (((bl n).length : Int) > 8) = True := eq_true (by omega)
    simp only [↓R0, R1, rdL, rdH, isCall, istep, ibin, vcells, fillI, setR, flat, okCell, isBase, List.set, List.drop, List.take, List.append, bnds, bhi, blo, srcOf, ↓reduceIte, Nat.reduceEqDiff, Nat.reduceAdd, Nat.reduceLeDiff, reduceCtorEq, Nat.reduceSub, Int.reduceEq, Int.reduceLT, Int.reduceLE, Int.reduceGT, Int.reduceGE, Int.reduceSub, Int.reduceAdd, Int.reduceMul, Int.reduceNe, Int.reduceNeg, Int.reduceToNat, Nat.reduceMul, spNNorm, hl, hn, g, Fin, isEnd, resL, res1, iE, rE]
    exact ⟨_, rfl, rfl, fun k hk => by simp only [ne_nb hk, if_false]⟩
def spNCmp : List Value → Option Value
  | [.string ⟨⟨l⟩⟩, .string ⟨⟨m⟩⟩] => if l.length ≤ 1099511627776 ∧ m.length ≤ 1099511627776 then some (.int .i64 (cmpN (nl l) (nl m))) else none
  | _ => none
def c111 : ICode :=
  (.seq (.reg [⟨(some 4), none, (.mv (.c (.int .i64 0)))⟩])
  (.seq (.reg [⟨(some 7), none, (.mv (.t 0))⟩, ⟨(some 8), none, (.call 108 [(.t 7)])⟩, ⟨(some 9), none, (.mv (.t 1))⟩, ⟨(some 10), none, (.call 108 [(.t 9)])⟩, ⟨(some 0), none, (.mv (.t 8))⟩, ⟨(some 1), none, (.mv (.t 10))⟩])
  (.seq (.seq (.reg [⟨(some 11), none, (.mv (.t 0))⟩, ⟨(some 12), none, (.lens (.t 11))⟩, ⟨(some 13), none, (.mv (.t 1))⟩, ⟨(some 14), none, (.lens (.t 13))⟩, ⟨(some 15), none, (.bin .neq (.t 12) (.t 14))⟩])
  (.cond (.t 15)
  (.seq (.seq (.reg [⟨(some 16), none, (.mv (.t 0))⟩, ⟨(some 17), none, (.lens (.t 16))⟩, ⟨(some 18), none, (.mv (.t 1))⟩, ⟨(some 19), none, (.lens (.t 18))⟩, ⟨(some 20), none, (.bin .lss (.t 17) (.t 19))⟩])
  (.cond (.t 20)
  (.seq (.reg [⟨(some 4), none, (.mv (.c (.int .i64 (-1))))⟩])
  .ret)
  .skip))
  (.seq (.reg [⟨(some 4), none, (.mv (.c (.int .i64 1)))⟩])
  .ret))
  .skip))
  (.seq (.seq (.reg [⟨(some 21), none, (.mv (.t 0))⟩, ⟨(some 22), none, (.lens (.t 21))⟩, ⟨(some 23), none, (.mv (.c (.int .i64 0)))⟩])
  (.block 0 (.loop (.seq (.reg [⟨(some 24), none, (.bin .lss (.t 23) (.t 22))⟩])
  (.seq (.cond (.t 24)
  .skip
  (.exit 0))
  (.seq (.block 1 (.seq (.reg [⟨(some 25), none, (.mv (.t 23))⟩, ⟨(some 5), none, (.mv (.t 25))⟩])
  (.seq (.reg [⟨(some 26), none, (.mv (.t 0))⟩, ⟨(some 27), none, (.lens (.t 26))⟩, ⟨(some 28), none, (.bin .sub (.t 27) (.c (.int .i64 1)))⟩, ⟨(some 29), none, (.mv (.t 5))⟩, ⟨(some 30), none, (.bin .sub (.t 28) (.t 29))⟩, ⟨(some 6), none, (.mv (.t 30))⟩])
  (.seq (.dreg [⟨(some 31), none, [], (.mv (.t 0))⟩, ⟨(some 32), none, [], (.mv (.t 6))⟩, ⟨(some 33), none, [], (.idstr (.t 31) (.t 32))⟩, ⟨(some 34), none, [], (.mv (.t 1))⟩, ⟨(some 35), none, [], (.mv (.t 6))⟩, ⟨(some 36), none, [], (.idstr (.t 34) (.t 35))⟩, ⟨(some 37), none, [], (.bin .neq (.t 33) (.t 36))⟩])
  (.cond (.t 37)
  (.seq (.seq (.dreg [⟨(some 38), none, [], (.mv (.t 0))⟩, ⟨(some 39), none, [], (.mv (.t 6))⟩, ⟨(some 40), none, [], (.idstr (.t 38) (.t 39))⟩, ⟨(some 41), none, [], (.mv (.t 1))⟩, ⟨(some 42), none, [], (.mv (.t 6))⟩, ⟨(some 43), none, [], (.idstr (.t 41) (.t 42))⟩, ⟨(some 44), none, [], (.bin .lss (.t 40) (.t 43))⟩])
  (.cond (.t 44)
  (.seq (.reg [⟨(some 4), none, (.mv (.c (.int .i64 (-1))))⟩])
  .ret)
  .skip))
  (.seq (.reg [⟨(some 4), none, (.mv (.c (.int .i64 1)))⟩])
  .ret))
  .skip)))))
  (.reg [⟨(some 45), none, (.bin .add (.t 23) (.c (.int .i64 1)))⟩, ⟨(some 23), none, (.mv (.t 45))⟩])))))))
  (.seq (.reg [⟨(some 4), none, (.mv (.c (.int .i64 0)))⟩])
  .ret)))))
theorem tr111 : trFun Tryz.prog 111 = some ⟨46, [.t 4], c111⟩ := by kernel_rfl
theorem ok_nCmp : SpecOK Tryz.prog 111 (flat spNCmp) := by
  refine flat_run (env_cons ok_nNorm (env_nil _)) mixed tr111 ?_
  intro args v h N hG
  unfold spNCmp at hG
  split at hG
  case h_2 => cases hG
  rename_i l m
  split at hG
  case isFalse => cases hG
  rename_i hl
  obtain ⟨hl, hm⟩ := hl
  cases hG
  refine ⟨rfl, by simp, ?_⟩
  have hL : (bl (nl l)).length ≤ 1099511627776 := Nat.le_trans (bl_length_nl l) hl
  have hM : (bl (nl m)).length ≤ 1099511627776 := Nat.le_trans (bl_length_nl m) hm
  generalize ha : nl l = a at *
  generalize hb : nl m = b at *
  simp only [c111, initT, List.zipIdx_cons, List.zipIdx_nil, List.map_cons, List.map_nil, Nat.reduceAdd]
  by_cases c0 : (bl a).length = (bl b).length
  · simp only [↓R0, R1, rdL, rdH, isCall, istep, ibin, vcells, fillI, setR, flat, okCell, isBase, List.set, List.drop, List.take, List.append, bnds, bhi, blo, srcOf, ↓reduceIte, Nat.reduceEqDiff, Nat.reduceAdd, Nat.reduceLeDiff, reduceCtorEq, Nat.reduceSub, Int.reduceEq, Int.reduceLT, Int.reduceLE, Int.reduceGT, Int.reduceGE, Int.reduceSub, Int.reduceAdd, Int.reduceMul, Int.reduceNe, Int.reduceNeg, Int.reduceToNat, Nat.reduceMul, spNNorm, hl, hm, ha, hb, c0, decide_not, Bool.not_true]
    refine lp_parts (fun n tm hp nx => ∃ (i : Nat), n + i = (bl b).length ∧ tmget tm 0 = .string ⟨⟨bl a⟩⟩ ∧ tmget tm 1 = .string ⟨⟨bl b⟩⟩ ∧ tmget tm 22 = .int .i64 (bl b).length ∧ tmget tm 23 = .int .i64 i ∧
        (bl a).drop n = (bl b).drop n ∧ hp = h ∧ nx = N + 0) ?_ (bl b).length ⟨0, by omega, ?_, ?_, ?_, ?_, ?_, rfl, rfl⟩
    · intro n tm hp nx ⟨i, hn, h0, h1, h22, h23, hd, hh, hnx⟩
      subst hnx hh
      by_cases c1 : i < (bl b).length
      · obtain ⟨n, rfl⟩ : ∃ n', n = n' + 1 := ⟨n - 1, by omega⟩
        obtain ⟨p, hp⟩ : ∃ p, (bl a)[n]? = some p := ⟨_, List.getElem?_eq_getElem (by omega)⟩
        obtain ⟨q, hq⟩ : ∃ q, (bl b)[n]? = some q := ⟨_, List.getElem?_eq_getElem (by omega)⟩
        have e1 : IntKind.i64.wrap (((bl b).length : Int) - 1) = (((bl b).length - 1 : Nat) : Int) := by rw [i64_in _ (by omega)]; omega
        have e2 : IntKind.i64.wrap ((((bl b).length - 1 : Nat) : Int) - (i : Int)) = (n : Int) := by rw [i64_in _ (by omega)]; omega
        have e7 : IntKind.i64.wrap ((i : Int) + 1) = ((i + 1 : Nat) : Int) := by rw [i64_in _ (by omega)]; omega
        by_cases c2 : p = q
        · subst c2
          simp only [↓R0, R1, rdL, rdH, isCall, istep, ibin, vcells, fillI, setR, flat, okCell, isBase, List.set, List.drop, List.take, List.append, bnds, bhi, blo, srcOf, ↓reduceIte, Nat.reduceEqDiff, Nat.reduceAdd, Nat.reduceLeDiff, reduceCtorEq, Nat.reduceSub, Int.reduceEq, Int.reduceLT, Int.reduceLE, Int.reduceGT, Int.reduceGE, Int.reduceSub, Int.reduceAdd, Int.reduceMul, Int.reduceNe, Int.reduceNeg, Int.reduceToNat, Nat.reduceMul, h0, h1, h22, h23, c1, c0, e1, e2, e7, hp, hq, decide_not, Bool.not_true]
          refine ⟨n, by omega, i + 1, by omega, rfl, ?_⟩
          rw [List.drop_eq_getElem_cons (by omega : n < (bl a).length), List.drop_eq_getElem_cons (by omega : n < (bl b).length), hd]
          rw [List.getElem?_eq_getElem (by omega)] at hp hq
          rw [Option.some.inj hp, Option.some.inj hq]
          exact ⟨rfl, rfl⟩
        · have c3 : ¬ ((p.toNat : Int) = (q.toNat : Int)) := fun e => c2 (UInt8.toNat_inj.1 (by omega))
          by_cases c4 : p.toNat < q.toNat
          · have hlt := nl_lt_of hp hq hd c4
            rw [nl_bl, nl_bl] at hlt
            rw [cmpN_lt hlt]
            have c3' : ¬ (p.toNat = q.toNat) := by omega
            simp only [↓R0, R1, rdL, rdH, isCall, istep, ibin, vcells, fillI, setR, flat, okCell, isBase, List.set, List.drop, List.take, List.append, bnds, bhi, blo, srcOf, ↓reduceIte, Nat.reduceEqDiff, Nat.reduceAdd, Nat.reduceLeDiff, reduceCtorEq, Nat.reduceSub, Int.reduceEq, Int.reduceLT, Int.reduceLE, Int.reduceGT, Int.reduceGE, Int.reduceSub, Int.reduceAdd, Int.reduceMul, Int.reduceNe, Int.reduceNeg, Int.reduceToNat, Nat.reduceMul, h0, h1, h22, h23, c1, c0, e1, e2, e7, hp, hq, c3, c3', c4, decide_not, Bool.not_false, Fin, isEnd, resL, res1, iE, rE]
            exact ⟨_, rfl, rfl, fun k hk => by simp only [ne_nb hk, if_false]⟩
          · have hlt := nl_lt_of hq hp hd.symm (by omega)
            rw [nl_bl, nl_bl] at hlt
            rw [cmpN_gt hlt]
            have c3' : ¬ (p.toNat = q.toNat) := by omega
            simp only [↓R0, R1, rdL, rdH, isCall, istep, ibin, vcells, fillI, setR, flat, okCell, isBase, List.set, List.drop, List.take, List.append, bnds, bhi, blo, srcOf, ↓reduceIte, Nat.reduceEqDiff, Nat.reduceAdd, Nat.reduceLeDiff, reduceCtorEq, Nat.reduceSub, Int.reduceEq, Int.reduceLT, Int.reduceLE, Int.reduceGT, Int.reduceGE, Int.reduceSub, Int.reduceAdd, Int.reduceMul, Int.reduceNe, Int.reduceNeg, Int.reduceToNat, Nat.reduceMul, h0, h1, h22, h23, c1, c0, e1, e2, e7, hp, hq, c3, c3', c4, decide_not, Bool.not_false, Fin, isEnd, resL, res1, iE, rE]
            exact ⟨_, rfl, rfl, fun k hk => by simp only [ne_nb hk, if_false]⟩
      · have en : n = 0 := by omega
        subst en
        rw [List.drop_zero, List.drop_zero] at hd
        have := bl_inj hd
        subst this
        rw [cmpN_eq]
        simp only [↓R0, R1, rdL, rdH, isCall, istep, ibin, vcells, fillI, setR, flat, okCell, isBase, List.set, List.drop, List.take, List.append, bnds, bhi, blo, srcOf, ↓reduceIte, Nat.reduceEqDiff, Nat.reduceAdd, Nat.reduceLeDiff, reduceCtorEq, Nat.reduceSub, Int.reduceEq, Int.reduceLT, Int.reduceLE, Int.reduceGT, Int.reduceGE, Int.reduceSub, Int.reduceAdd, Int.reduceMul, Int.reduceNe, Int.reduceNeg, Int.reduceToNat, Nat.reduceMul, h0, h1, h22, h23, c1, Fin, isEnd, resL, res1, iE, rE]
        exact ⟨_, rfl, rfl, fun k hk => by simp only [ne_nb hk, if_false]⟩
    · (first | (simp only [↓R0, R1, rdL, rdH, isCall, istep, ibin, vcells, fillI, setR, flat, okCell, isBase, List.set, List.drop, List.take, List.append, bnds, bhi, blo, srcOf, ↓reduceIte, Nat.reduceEqDiff, Nat.reduceAdd, Nat.reduceLeDiff, reduceCtorEq, Nat.reduceSub, Int.reduceEq, Int.reduceLT, Int.reduceLE, Int.reduceGT, Int.reduceGE, Int.reduceSub, Int.reduceAdd, Int.reduceMul, Int.reduceNe, Int.reduceNeg, Int.reduceToNat, Nat.reduceMul]; done) | (simp only [↓R0, R1, rdL, rdH, isCall, istep, ibin, vcells, fillI, setR, flat, okCell, isBase, List.set, List.drop, List.take, List.append, bnds, bhi, blo, srcOf, ↓reduceIte, Nat.reduceEqDiff, Nat.reduceAdd, Nat.reduceLeDiff, reduceCtorEq, Nat.reduceSub, Int.reduceEq, Int.reduceLT, Int.reduceLE, Int.reduceGT, Int.reduceGE, Int.reduceSub, Int.reduceAdd, Int.reduceMul, Int.reduceNe, Int.reduceNeg, Int.reduceToNat, Nat.reduceMul]; rfl) | rfl)
    · (first | (simp only [↓R0, R1, rdL, rdH, isCall, istep, ibin, vcells, fillI, setR, flat, okCell, isBase, List.set, List.drop, List.take, List.append, bnds, bhi, blo, srcOf, ↓reduceIte, Nat.reduceEqDiff, Nat.reduceAdd, Nat.reduceLeDiff, reduceCtorEq, Nat.reduceSub, Int.reduceEq, Int.reduceLT, Int.reduceLE, Int.reduceGT, Int.reduceGE, Int.reduceSub, Int.reduceAdd, Int.reduceMul, Int.reduceNe, Int.reduceNeg, Int.reduceToNat, Nat.reduceMul]; done) | (simp only [↓R0, R1, rdL, rdH, isCall, istep, ibin, vcells, fillI, setR, flat, okCell, isBase, List.set, List.drop, List.take, List.append, bnds, bhi, blo, srcOf, ↓reduceIte, Nat.reduceEqDiff, Nat.reduceAdd, Nat.reduceLeDiff, reduceCtorEq, Nat.reduceSub, Int.reduceEq, Int.reduceLT, Int.reduceLE, Int.reduceGT, Int.reduceGE, Int.reduceSub, Int.reduceAdd, Int.reduceMul, Int.reduceNe, Int.reduceNeg, Int.reduceToNat, Nat.reduceMul]; rfl) | rfl)
    · (first | (simp only [↓R0, R1, rdL, rdH, isCall, istep, ibin, vcells, fillI, setR, flat, okCell, isBase, List.set, List.drop, List.take, List.append, bnds, bhi, blo, srcOf, ↓reduceIte, Nat.reduceEqDiff, Nat.reduceAdd, Nat.reduceLeDiff, reduceCtorEq, Nat.reduceSub, Int.reduceEq, Int.reduceLT, Int.reduceLE, Int.reduceGT, Int.reduceGE, Int.reduceSub, Int.reduceAdd, Int.reduceMul, Int.reduceNe, Int.reduceNeg, Int.reduceToNat, Nat.reduceMul]; done) | (simp only [↓R0, R1, rdL, rdH, isCall, istep, ibin, vcells, fillI, setR, flat, okCell, isBase, List.set, List.drop, List.take, List.append, bnds, bhi, blo, srcOf, ↓reduceIte, Nat.reduceEqDiff, Nat.reduceAdd, Nat.reduceLeDiff, reduceCtorEq, Nat.reduceSub, Int.reduceEq, Int.reduceLT, Int.reduceLE, Int.reduceGT, Int.reduceGE, Int.reduceSub, Int.reduceAdd, Int.reduceMul, Int.reduceNe, Int.reduceNeg, Int.reduceToNat, Nat.reduceMul]; rfl) | rfl)
    · (first | (simp only [↓R0, R1, rdL, rdH, isCall, istep, ibin, vcells, fillI, setR, flat, okCell, isBase, List.set, List.drop, List.take, List.append, bnds, bhi, blo, srcOf, ↓reduceIte, Nat.reduceEqDiff, Nat.reduceAdd, Nat.reduceLeDiff, reduceCtorEq, Nat.reduceSub, Int.reduceEq, Int.reduceLT, Int.reduceLE, Int.reduceGT, Int.reduceGE, Int.reduceSub, Int.reduceAdd, Int.reduceMul, Int.reduceNe, Int.reduceNeg, Int.reduceToNat, Nat.reduceMul]; done) | (simp only [↓R0, R1, rdL, rdH, isCall, istep, ibin, vcells, fillI, setR, flat, okCell, isBase, List.set, List.drop, List.take, List.append, bnds, bhi, blo, srcOf, ↓reduceIte, Nat.reduceEqDiff, Nat.reduceAdd, Nat.reduceLeDiff, reduceCtorEq, Nat.reduceSub, Int.reduceEq, Int.reduceLT, Int.reduceLE, Int.reduceGT, Int.reduceGE, Int.reduceSub, Int.reduceAdd, Int.reduceMul, Int.reduceNe, Int.reduceNeg, Int.reduceToNat, Nat.reduceMul]; rfl) | rfl)
    · rw [← c0, List.drop_length, c0, List.drop_length]
  · by_cases c1 : (bl a).length < (bl b).length
    · rw [cmpN_lt (bl_length_lt c1)]
      simp only [↓R0, R1, rdL, rdH, isCall, istep, ibin, vcells, fillI, setR, flat, okCell, isBase, List.set, List.drop, List.take, List.append, bnds, bhi, blo, srcOf, ↓reduceIte, Nat.reduceEqDiff, Nat.reduceAdd, Nat.reduceLeDiff, reduceCtorEq, Nat.reduceSub, Int.reduceEq, Int.reduceLT, Int.reduceLE, Int.reduceGT, Int.reduceGE, Int.reduceSub, Int.reduceAdd, Int.reduceMul, Int.reduceNe, Int.reduceNeg, Int.reduceToNat, Nat.reduceMul, spNNorm, hl, hm, ha, hb, c0, c1, decide_not, Bool.not_false, Fin, isEnd, resL, res1, iE, rE]
      exact ⟨_, rfl, rfl, fun k hk => by simp only [ne_nb hk, if_false]⟩
    · rw [cmpN_gt (bl_length_lt (by omega))]
      simp only [↓R0, R1, rdL, rdH, isCall, istep, ibin, vcells, fillI, setR, flat, okCell, isBase, List.set, List.drop, List.take, List.append, bnds, bhi, blo, srcOf, ↓reduceIte, Nat.reduceEqDiff, Nat.reduceAdd, Nat.reduceLeDiff, reduceCtorEq, Nat.reduceSub, Int.reduceEq, Int.reduceLT, Int.reduceLE, Int.reduceGT, Int.reduceGE, Int.reduceSub, Int.reduceAdd, Int.reduceMul, Int.reduceNe, Int.reduceNeg, Int.reduceToNat, Nat.reduceMul, spNNorm, hl, hm, ha, hb, c0, c1, decide_not, Bool.not_false, Fin, isEnd, resL, res1, iE, rE]
      exact ⟨_, rfl, rfl, fun k hk => by simp only [ne_nb hk, if_false]⟩
def spNAdd : List Value → Option Value
  | [.string ⟨⟨l⟩⟩, .string ⟨⟨m⟩⟩] => if l.length ≤ 68719476736 ∧ m.length ≤ 68719476736 then some (.string ⟨⟨bl (nl l + nl m)⟩⟩) else none
  | _ => none
def c79 : ICode :=
  (.seq (.reg [⟨(some 4), none, (.mv (.c (.string ⟨⟨[]⟩⟩)))⟩])
  (.seq (.reg [⟨(some 11), none, (.mv (.t 0))⟩, ⟨(some 12), none, (.call 110 [(.t 11)])⟩, ⟨(some 13), none, (.mv (.t 1))⟩, ⟨(some 14), none, (.call 110 [(.t 13)])⟩, ⟨(some 5), none, (.mv (.t 12))⟩, ⟨(some 6), none, (.mv (.t 14))⟩])
  (.seq (.seq (.reg [⟨(some 15), none, (.mv (.t 5))⟩, ⟨(some 16), none, (.lensl (.t 15))⟩, ⟨(some 17), none, (.mv (.t 6))⟩, ⟨(some 18), none, (.lensl (.t 17))⟩, ⟨(some 19), none, (.bin .lss (.t 16) (.t 18))⟩])
  (.cond (.t 19)
  (.reg [⟨(some 20), none, (.mv (.t 6))⟩, ⟨(some 21), none, (.mv (.t 5))⟩, ⟨(some 5), none, (.mv (.t 20))⟩, ⟨(some 6), none, (.mv (.t 21))⟩])
  .skip))
  (.seq (.reg [⟨(some 22), none, (.mv (.t 5))⟩, ⟨(some 23), none, (.lensl (.t 22))⟩, ⟨(some 24), none, (.bin .add (.t 23) (.c (.int .i64 1)))⟩, ⟨(some 25), none, (.mkslice 118 1 4 [(.int .u32 0)] (.t 24) (.t 24))⟩, ⟨(some 7), none, (.mv (.t 25))⟩])
  (.seq (.reg [⟨(some 8), none, (.mv (.c (.int .u32 0)))⟩])
  (.seq (.seq (.reg [⟨(some 26), none, (.mv (.t 5))⟩, ⟨(some 27), none, (.lensl (.t 26))⟩, ⟨(some 28), none, (.mv (.c (.int .i64 0)))⟩])
  (.block 0 (.loop (.seq (.reg [⟨(some 29), none, (.bin .lss (.t 28) (.t 27))⟩])
  (.seq (.cond (.t 29)
  .skip
  (.exit 0))
  (.seq (.block 1 (.seq (.reg [⟨(some 30), none, (.mv (.t 28))⟩, ⟨(some 9), none, (.mv (.t 30))⟩])
  (.seq (.reg [⟨(some 10), none, (.mv (.c (.int .u32 0)))⟩])
  (.seq (.seq (.reg [⟨(some 31), none, (.mv (.t 9))⟩, ⟨(some 32), none, (.mv (.t 6))⟩, ⟨(some 33), none, (.lensl (.t 32))⟩, ⟨(some 34), none, (.bin .lss (.t 31) (.t 33))⟩])
  (.cond (.t 34)
  (.reg [⟨(some 35), none, (.mv (.t 6))⟩, ⟨(some 36), none, (.mv (.t 9))⟩, ⟨(some 37), none, (.ixsl 1 (.t 35) (.t 36))⟩, ⟨(some 38), none, (.load false 1 (.t 37))⟩, ⟨(some 10), none, (.mv (.t 38))⟩])
  .skip))
  (.reg [⟨(some 40), none, (.mv (.t 7))⟩, ⟨(some 41), none, (.mv (.t 9))⟩, ⟨(some 42), none, (.mv (.t 5))⟩, ⟨(some 43), none, (.mv (.t 9))⟩, ⟨(some 44), none, (.ixsl 1 (.t 42) (.t 43))⟩, ⟨(some 45), none, (.load false 1 (.t 44))⟩, ⟨(some 46), none, (.mv (.t 10))⟩, ⟨(some 47), none, (.mv (.t 8))⟩, ⟨(some 48), none, (.call 122 [(.t 45), (.t 46), (.t 47)])⟩, ⟨(some 39), none, (.mv (.t 48))⟩, ⟨(some 49), none, (.ext (.t 39) 0)⟩, ⟨(some 50), none, (.ext (.t 39) 1)⟩, ⟨(some 51), none, (.ixsl 1 (.t 40) (.t 41))⟩, ⟨none, none, (.store 1 (.t 51) (.t 49))⟩, ⟨(some 8), none, (.mv (.t 50))⟩])))))
  (.reg [⟨(some 52), none, (.bin .add (.t 28) (.c (.int .i64 1)))⟩, ⟨(some 28), none, (.mv (.t 52))⟩])))))))
  (.seq (.reg [⟨(some 53), none, (.mv (.t 7))⟩, ⟨(some 54), none, (.mv (.t 5))⟩, ⟨(some 55), none, (.lensl (.t 54))⟩, ⟨(some 56), none, (.mv (.t 8))⟩, ⟨(some 57), none, (.ixsl 1 (.t 53) (.t 55))⟩, ⟨none, none, (.store 1 (.t 57) (.t 56))⟩])
  (.seq (.reg [⟨(some 58), none, (.mv (.t 7))⟩, ⟨(some 59), none, (.call 113 [(.t 58)])⟩, ⟨(some 4), none, (.mv (.t 59))⟩])
  .ret))))))))
theorem tr79 : trFun Tryz.prog 79 = some ⟨60, [.t 4], c79⟩ := by kernel_rfl
theorem lk_len {n k : Nat} (h : (bl n).length ≤ 4 * k) : lk n ≤ k := by unfold lk; omega
theorem lm_out {n i : Nat} (h : ¬ i < lk n) : lm n i = 0 := lm_of_lt' (lk_lt n) (by omega)
set_option maxHeartbeats 1000000 in
theorem ok_nAdd : SpecOK Tryz.prog 79 (flat spNAdd) := by
  refine flat_run (env_cons ok_nlimbs (env_cons ok_nmag (env_cons ok_add32 (env_nil _)))) mixed tr79 ?_
  intro args v h N hG
  unfold spNAdd at hG
  split at hG
  case h_2 => cases hG
  rename_i l m
  split at hG
  case isFalse => cases hG
  rename_i hl
  obtain ⟨hl, hm⟩ := hl
  cases hG
  refine ⟨rfl, by simp, ?_⟩
  have hL : lk (nl l) ≤ 17179869184 := lk_len (Nat.le_trans (bl_length_nl l) (by omega))
  have hM : lk (nl m) ≤ 17179869184 := lk_len (Nat.le_trans (bl_length_nl m) (by omega))
  have hl' : l.length ≤ 1099511627776 := by omega
  have hm' : m.length ≤ 1099511627776 := by omega
  simp only [c79, initT, List.zipIdx_cons, List.zipIdx_nil, List.map_cons, List.map_nil, Nat.reduceAdd]
  simp only [↓R0, R1, rdL, rdH, isCall, istep, ibin, vcells, fillI, setR, flat, okCell, isBase, List.set, List.drop, List.take, List.append, bnds, bhi, blo, srcOf, ↓reduceIte, Nat.reduceEqDiff, Nat.reduceAdd, Nat.reduceLeDiff, reduceCtorEq, Nat.reduceSub, Int.reduceEq, Int.reduceLT, Int.reduceLE, Int.reduceGT, Int.reduceGE, Int.reduceSub, Int.reduceAdd, Int.reduceMul, Int.reduceNe, Int.reduceNeg, Int.reduceToNat, Nat.reduceMul, nwS, spLimbs, hl', hm']
  by_cases c0 : lk (nl l) < lk (nl m)
  · have hab : lk (nl l) ≤ lk (nl m) := by omega
    rw [Nat.add_comm (nl l)]
    generalize nl l = bb at *
    generalize nl m = aa at *
    simp only [↓R0, R1, rdL, rdH, isCall, istep, ibin, vcells, fillI, setR, flat, okCell, isBase, List.set, List.drop, List.take, List.append, bnds, bhi, blo, srcOf, ↓reduceIte, Nat.reduceEqDiff, Nat.reduceAdd, Nat.reduceLeDiff, reduceCtorEq, Nat.reduceSub, Int.reduceEq, Int.reduceLT, Int.reduceLE, Int.reduceGT, Int.reduceGE, Int.reduceSub, Int.reduceAdd, Int.reduceMul, Int.reduceNe, Int.reduceNeg, Int.reduceToNat, Nat.reduceMul, c0]
    have g1 : IntKind.i64.wrap ((lk aa : Int) + 1) = ((lk aa + 1 : Nat) : Int) := by rw [i64_in _ (by omega)]; omega
    have g2 : 4 * ((lk aa + 1 : Nat) : Int) ≤ 281474976710656 := by omega
    have g3 : ((lk aa + 1 : Nat) : Int) ≤ 9223372036854775807 := by omega
    simp only [↓R0, R1, rdL, rdH, isCall, istep, ibin, vcells, fillI, setR, flat, okCell, isBase, List.set, List.drop, List.take, List.append, bnds, bhi, blo, srcOf, ↓reduceIte, Nat.reduceEqDiff, Nat.reduceAdd, Nat.reduceLeDiff, reduceCtorEq, Nat.reduceSub, Int.reduceEq, Int.reduceLT, Int.reduceLE, Int.reduceGT, Int.reduceGE, Int.reduceSub, Int.reduceAdd, Int.reduceMul, Int.reduceNe, Int.reduceNeg, Int.reduceToNat, Nat.reduceMul, g1, g2, g3, tb_rep]
    clear g1 g2 g3
    refine lp_parts (fun m tm hp nx => ∃ (i : Nat) (f : Nat → Nat), m + i = lk aa ∧ tmget tm 5 = .slice (some ⟨N + 1, 0, none⟩) (lk aa) (lk aa) ∧ tmget tm 6 = .slice (some ⟨N + 0, 0, none⟩) (lk bb) (lk bb) ∧
        tmget tm 7 = .slice (some ⟨N + 2, 0, none⟩) (lk aa + 1) (lk aa + 1) ∧ tmget tm 8 = .int .u32 (cyA aa bb i : Nat) ∧ tmget tm 27 = .int .i64 (lk aa) ∧ tmget tm 28 = .int .i64 i ∧
        hget hp (N + 1) = some ⟨118, 1, false, tb (lk aa) (lm aa)⟩ ∧ hget hp (N + 0) = some ⟨118, 1, false, tb (lk bb) (lm bb)⟩ ∧
        hget hp (N + 2) = some ⟨118, 1, false, tb (lk aa + 1) f⟩ ∧ (∀ j, j < i → f j = lm (aa + bb) j) ∧ (∀ q, q < N → hget hp q = hget h q) ∧ nx = N + 3) ?_ (lk aa)
      ⟨0, fun _ => 0, by omega, ?_, ?_, ?_, ?_, ?_, ?_, ?_, ?_, ?_, fun j hj => by omega, ?_, rfl⟩
    · intro m tm hp nx ⟨i, f, hm, h5, h6, h7, h8, h27, h28, hb1, hb2, hb3, hf, hh, hnx⟩
      subst hnx
      have b1 := lm_lt aa i
      have b2 := lm_lt bb i
      have b3 := cyA_le aa bb i
      have v1 : ((lm aa i : Nat) : Int) < 4294967296 := by omega
      have v2 : ((lm bb i : Nat) : Int) < 4294967296 := by omega
      have v3 : ((cyA aa bb i : Nat) : Int) ≤ 1 := by omega
      have v4 : ((lm aa i : Int) + lm bb i + cyA aa bb i) % 4294967296 = (lm (aa + bb) i : Int) := by rw [add_limb]; omega
      have v5 : ((lm aa i : Int) + lm bb i + cyA aa bb i) / 4294967296 = (cyA aa bb (i + 1) : Int) := by rw [cyA_succ]; omega
      have e7 : IntKind.i64.wrap ((i : Int) + 1) = ((i + 1 : Nat) : Int) := by rw [i64_in _ (by omega)]; omega
      by_cases c1 : i < lk aa
      · have c1' : i < lk aa + 1 := by omega
        have c1'' : i ≤ lk aa := by omega
        have k1 := tb_get' (lm aa) c1
        have hset : ∀ j, j < i + 1 → (fun j => if j = i then lm (aa + bb) i else f j) j = lm (aa + bb) j := by
          intro j hj
          simp only
          by_cases e : j = i
          · rw [if_pos e, e]
          · rw [if_neg e]; exact hf j (by omega)
        by_cases c2 : i < lk bb
        · have k2 := tb_get' (lm bb) c2
          simp only [↓R0, R1, rdL, rdH, isCall, istep, ibin, vcells, fillI, setR, flat, okCell, isBase, List.set, List.drop, List.take, List.append, bnds, bhi, blo, srcOf, ↓reduceIte, Nat.reduceEqDiff, Nat.reduceAdd, Nat.reduceLeDiff, reduceCtorEq, Nat.reduceSub, Int.reduceEq, Int.reduceLT, Int.reduceLE, Int.reduceGT, Int.reduceGE, Int.reduceSub, Int.reduceAdd, Int.reduceMul, Int.reduceNe, Int.reduceNeg, Int.reduceToNat, Nat.reduceMul, h5, h6, h7, h8, h27, h28, hb1, hb2, hb3, c1, c1', c1'', c2, k1, k2, e7, spAdd32, v1, v2, v3, v4, v5, tb_length, tb_set]
          refine ⟨m - 1, by omega, i + 1, _, by omega, rfl, rfl, rfl, hset, ?_⟩
          intro q hq
          simp only [if_neg (show ¬ N + 2 = q by omega)]
          exact hh q hq
        · have z2 := lm_out c2
          rw [z2] at v4 v5
          have z0 : ((0 : Nat) : Int) = 0 := rfl
          rw [z0] at v4 v5
          simp only [↓R0, R1, rdL, rdH, isCall, istep, ibin, vcells, fillI, setR, flat, okCell, isBase, List.set, List.drop, List.take, List.append, bnds, bhi, blo, srcOf, ↓reduceIte, Nat.reduceEqDiff, Nat.reduceAdd, Nat.reduceLeDiff, reduceCtorEq, Nat.reduceSub, Int.reduceEq, Int.reduceLT, Int.reduceLE, Int.reduceGT, Int.reduceGE, Int.reduceSub, Int.reduceAdd, Int.reduceMul, Int.reduceNe, Int.reduceNeg, Int.reduceToNat, Nat.reduceMul, h5, h6, h7, h8, h27, h28, hb1, hb2, hb3, c1, c1', c1'', c2, k1, e7, spAdd32, v1, v3, v4, v5, tb_length, tb_set]
          refine ⟨m - 1, by omega, i + 1, _, by omega, rfl, rfl, rfl, hset, ?_⟩
          intro q hq
          simp only [if_neg (show ¬ N + 2 = q by omega)]
          exact hh q hq
      · have ei : i = lk aa := by omega
        subst ei
        have c3 : lk aa < lk aa + 1 := by omega
        have c4 : ((lk aa : Nat) : Int) < ((lk aa + 1 : Nat) : Int) := by omega
        have c5 : lk aa + 1 ≤ 34359738368 := by omega
        have hA := lk_lt aa
        have hB : bb < 4294967296 ^ lk aa := Nat.lt_of_lt_of_le (lk_lt bb) (Nat.pow_le_pow_right (by omega) hab)
        have hS : aa + bb < 4294967296 ^ (lk aa + 1) := by rw [Nat.pow_succ]; omega
        have hcy : cyA aa bb (lk aa) = lm (aa + bb) (lk aa) := by
          rw [lm_top hS]; unfold cyA; rw [Nat.mod_eq_of_lt hA, Nat.mod_eq_of_lt hB]
        have htb : (tb (lk aa + 1) fun j => if j = lk aa then cyA aa bb (lk aa) else f j) = tb (lk aa + 1) (lm (aa + bb)) := by
          apply tb_congr
          intro j hj
          by_cases e : j = lk aa
          · rw [if_pos e, e, hcy]
          · rw [if_neg e]; exact hf j (by omega)
        have hud : ud (tb (lk aa + 1) (lm (aa + bb))) = aa + bb := by rw [ud_tb, Nat.mod_eq_of_lt hS]
        simp only [↓R0, R1, rdL, rdH, isCall, istep, ibin, vcells, fillI, setR, flat, okCell, isBase, List.set, List.drop, List.take, List.append, bnds, bhi, blo, srcOf, ↓reduceIte, Nat.reduceEqDiff, Nat.reduceAdd, Nat.reduceLeDiff, reduceCtorEq, Nat.reduceSub, Int.reduceEq, Int.reduceLT, Int.reduceLE, Int.reduceGT, Int.reduceGE, Int.reduceSub, Int.reduceAdd, Int.reduceMul, Int.reduceNe, Int.reduceNeg, Int.reduceToNat, Nat.reduceMul, h5, h6, h7, h8, h27, h28, hb1, hb2, hb3, c1, c3, c4, tb_length, tb_set, htb, rdS, spMag, shows, tb_all, uok_lm, c5, hud, Fin, isEnd, resL, res1, iE, rE]
        first | exact ⟨_, rfl, rfl, hh⟩ | exact ⟨_, rfl, rfl, fun k hk => by simp only [ne_nb hk, if_false]; exact hh k hk⟩
    · (first | (simp only [↓R0, R1, rdL, rdH, isCall, istep, ibin, vcells, fillI, setR, flat, okCell, isBase, List.set, List.drop, List.take, List.append, bnds, bhi, blo, srcOf, ↓reduceIte, Nat.reduceEqDiff, Nat.reduceAdd, Nat.reduceLeDiff, reduceCtorEq, Nat.reduceSub, Int.reduceEq, Int.reduceLT, Int.reduceLE, Int.reduceGT, Int.reduceGE, Int.reduceSub, Int.reduceAdd, Int.reduceMul, Int.reduceNe, Int.reduceNeg, Int.reduceToNat, Nat.reduceMul]; done) | (simp only [↓R0, R1, rdL, rdH, isCall, istep, ibin, vcells, fillI, setR, flat, okCell, isBase, List.set, List.drop, List.take, List.append, bnds, bhi, blo, srcOf, ↓reduceIte, Nat.reduceEqDiff, Nat.reduceAdd, Nat.reduceLeDiff, reduceCtorEq, Nat.reduceSub, Int.reduceEq, Int.reduceLT, Int.reduceLE, Int.reduceGT, Int.reduceGE, Int.reduceSub, Int.reduceAdd, Int.reduceMul, Int.reduceNe, Int.reduceNeg, Int.reduceToNat, Nat.reduceMul]; rfl) | rfl)
    · (first | (simp only [↓R0, R1, rdL, rdH, isCall, istep, ibin, vcells, fillI, setR, flat, okCell, isBase, List.set, List.drop, List.take, List.append, bnds, bhi, blo, srcOf, ↓reduceIte, Nat.reduceEqDiff, Nat.reduceAdd, Nat.reduceLeDiff, reduceCtorEq, Nat.reduceSub, Int.reduceEq, Int.reduceLT, Int.reduceLE, Int.reduceGT, Int.reduceGE, Int.reduceSub, Int.reduceAdd, Int.reduceMul, Int.reduceNe, Int.reduceNeg, Int.reduceToNat, Nat.reduceMul]; done) | (simp only [↓R0, R1, rdL, rdH, isCall, istep, ibin, vcells, fillI, setR, flat, okCell, isBase, List.set, List.drop, List.take, List.append, bnds, bhi, blo, srcOf, ↓reduceIte, Nat.reduceEqDiff, Nat.reduceAdd, Nat.reduceLeDiff, reduceCtorEq, Nat.reduceSub, Int.reduceEq, Int.reduceLT, Int.reduceLE, Int.reduceGT, Int.reduceGE, Int.reduceSub, Int.reduceAdd, Int.reduceMul, Int.reduceNe, Int.reduceNeg, Int.reduceToNat, Nat.reduceMul]; rfl) | rfl)
    · (first | (simp only [↓R0, R1, rdL, rdH, isCall, istep, ibin, vcells, fillI, setR, flat, okCell, isBase, List.set, List.drop, List.take, List.append, bnds, bhi, blo, srcOf, ↓reduceIte, Nat.reduceEqDiff, Nat.reduceAdd, Nat.reduceLeDiff, reduceCtorEq, Nat.reduceSub, Int.reduceEq, Int.reduceLT, Int.reduceLE, Int.reduceGT, Int.reduceGE, Int.reduceSub, Int.reduceAdd, Int.reduceMul, Int.reduceNe, Int.reduceNeg, Int.reduceToNat, Nat.reduceMul]; done) | (simp only [↓R0, R1, rdL, rdH, isCall, istep, ibin, vcells, fillI, setR, flat, okCell, isBase, List.set, List.drop, List.take, List.append, bnds, bhi, blo, srcOf, ↓reduceIte, Nat.reduceEqDiff, Nat.reduceAdd, Nat.reduceLeDiff, reduceCtorEq, Nat.reduceSub, Int.reduceEq, Int.reduceLT, Int.reduceLE, Int.reduceGT, Int.reduceGE, Int.reduceSub, Int.reduceAdd, Int.reduceMul, Int.reduceNe, Int.reduceNeg, Int.reduceToNat, Nat.reduceMul]; rfl) | rfl)
    · (first | (simp only [↓R0, R1, rdL, rdH, isCall, istep, ibin, vcells, fillI, setR, flat, okCell, isBase, List.set, List.drop, List.take, List.append, bnds, bhi, blo, srcOf, ↓reduceIte, Nat.reduceEqDiff, Nat.reduceAdd, Nat.reduceLeDiff, reduceCtorEq, Nat.reduceSub, Int.reduceEq, Int.reduceLT, Int.reduceLE, Int.reduceGT, Int.reduceGE, Int.reduceSub, Int.reduceAdd, Int.reduceMul, Int.reduceNe, Int.reduceNeg, Int.reduceToNat, Nat.reduceMul, cyA_zero]; done) | (simp only [↓R0, R1, rdL, rdH, isCall, istep, ibin, vcells, fillI, setR, flat, okCell, isBase, List.set, List.drop, List.take, List.append, bnds, bhi, blo, srcOf, ↓reduceIte, Nat.reduceEqDiff, Nat.reduceAdd, Nat.reduceLeDiff, reduceCtorEq, Nat.reduceSub, Int.reduceEq, Int.reduceLT, Int.reduceLE, Int.reduceGT, Int.reduceGE, Int.reduceSub, Int.reduceAdd, Int.reduceMul, Int.reduceNe, Int.reduceNeg, Int.reduceToNat, Nat.reduceMul, cyA_zero]; rfl) | rfl)
    · (first | (simp only [↓R0, R1, rdL, rdH, isCall, istep, ibin, vcells, fillI, setR, flat, okCell, isBase, List.set, List.drop, List.take, List.append, bnds, bhi, blo, srcOf, ↓reduceIte, Nat.reduceEqDiff, Nat.reduceAdd, Nat.reduceLeDiff, reduceCtorEq, Nat.reduceSub, Int.reduceEq, Int.reduceLT, Int.reduceLE, Int.reduceGT, Int.reduceGE, Int.reduceSub, Int.reduceAdd, Int.reduceMul, Int.reduceNe, Int.reduceNeg, Int.reduceToNat, Nat.reduceMul]; done) | (simp only [↓R0, R1, rdL, rdH, isCall, istep, ibin, vcells, fillI, setR, flat, okCell, isBase, List.set, List.drop, List.take, List.append, bnds, bhi, blo, srcOf, ↓reduceIte, Nat.reduceEqDiff, Nat.reduceAdd, Nat.reduceLeDiff, reduceCtorEq, Nat.reduceSub, Int.reduceEq, Int.reduceLT, Int.reduceLE, Int.reduceGT, Int.reduceGE, Int.reduceSub, Int.reduceAdd, Int.reduceMul, Int.reduceNe, Int.reduceNeg, Int.reduceToNat, Nat.reduceMul]; rfl) | rfl)
    · (first | (simp only [↓R0, R1, rdL, rdH, isCall, istep, ibin, vcells, fillI, setR, flat, okCell, isBase, List.set, List.drop, List.take, List.append, bnds, bhi, blo, srcOf, ↓reduceIte, Nat.reduceEqDiff, Nat.reduceAdd, Nat.reduceLeDiff, reduceCtorEq, Nat.reduceSub, Int.reduceEq, Int.reduceLT, Int.reduceLE, Int.reduceGT, Int.reduceGE, Int.reduceSub, Int.reduceAdd, Int.reduceMul, Int.reduceNe, Int.reduceNeg, Int.reduceToNat, Nat.reduceMul]; done) | (simp only [↓R0, R1, rdL, rdH, isCall, istep, ibin, vcells, fillI, setR, flat, okCell, isBase, List.set, List.drop, List.take, List.append, bnds, bhi, blo, srcOf, ↓reduceIte, Nat.reduceEqDiff, Nat.reduceAdd, Nat.reduceLeDiff, reduceCtorEq, Nat.reduceSub, Int.reduceEq, Int.reduceLT, Int.reduceLE, Int.reduceGT, Int.reduceGE, Int.reduceSub, Int.reduceAdd, Int.reduceMul, Int.reduceNe, Int.reduceNeg, Int.reduceToNat, Nat.reduceMul]; rfl) | rfl)
    · (first | (simp only [↓R0, R1, rdL, rdH, isCall, istep, ibin, vcells, fillI, setR, flat, okCell, isBase, List.set, List.drop, List.take, List.append, bnds, bhi, blo, srcOf, ↓reduceIte, Nat.reduceEqDiff, Nat.reduceAdd, Nat.reduceLeDiff, reduceCtorEq, Nat.reduceSub, Int.reduceEq, Int.reduceLT, Int.reduceLE, Int.reduceGT, Int.reduceGE, Int.reduceSub, Int.reduceAdd, Int.reduceMul, Int.reduceNe, Int.reduceNeg, Int.reduceToNat, Nat.reduceMul]; done) | (simp only [↓R0, R1, rdL, rdH, isCall, istep, ibin, vcells, fillI, setR, flat, okCell, isBase, List.set, List.drop, List.take, List.append, bnds, bhi, blo, srcOf, ↓reduceIte, Nat.reduceEqDiff, Nat.reduceAdd, Nat.reduceLeDiff, reduceCtorEq, Nat.reduceSub, Int.reduceEq, Int.reduceLT, Int.reduceLE, Int.reduceGT, Int.reduceGE, Int.reduceSub, Int.reduceAdd, Int.reduceMul, Int.reduceNe, Int.reduceNeg, Int.reduceToNat, Nat.reduceMul]; rfl) | rfl)
    · (first | (simp only [↓R0, R1, rdL, rdH, isCall, istep, ibin, vcells, fillI, setR, flat, okCell, isBase, List.set, List.drop, List.take, List.append, bnds, bhi, blo, srcOf, ↓reduceIte, Nat.reduceEqDiff, Nat.reduceAdd, Nat.reduceLeDiff, reduceCtorEq, Nat.reduceSub, Int.reduceEq, Int.reduceLT, Int.reduceLE, Int.reduceGT, Int.reduceGE, Int.reduceSub, Int.reduceAdd, Int.reduceMul, Int.reduceNe, Int.reduceNeg, Int.reduceToNat, Nat.reduceMul]; done) | (simp only [↓R0, R1, rdL, rdH, isCall, istep, ibin, vcells, fillI, setR, flat, okCell, isBase, List.set, List.drop, List.take, List.append, bnds, bhi, blo, srcOf, ↓reduceIte, Nat.reduceEqDiff, Nat.reduceAdd, Nat.reduceLeDiff, reduceCtorEq, Nat.reduceSub, Int.reduceEq, Int.reduceLT, Int.reduceLE, Int.reduceGT, Int.reduceGE, Int.reduceSub, Int.reduceAdd, Int.reduceMul, Int.reduceNe, Int.reduceNeg, Int.reduceToNat, Nat.reduceMul]; rfl) | rfl)
    · (first | (simp only [↓R0, R1, rdL, rdH, isCall, istep, ibin, vcells, fillI, setR, flat, okCell, isBase, List.set, List.drop, List.take, List.append, bnds, bhi, blo, srcOf, ↓reduceIte, Nat.reduceEqDiff, Nat.reduceAdd, Nat.reduceLeDiff, reduceCtorEq, Nat.reduceSub, Int.reduceEq, Int.reduceLT, Int.reduceLE, Int.reduceGT, Int.reduceGE, Int.reduceSub, Int.reduceAdd, Int.reduceMul, Int.reduceNe, Int.reduceNeg, Int.reduceToNat, Nat.reduceMul]; done) | (simp only [↓R0, R1, rdL, rdH, isCall, istep, ibin, vcells, fillI, setR, flat, okCell, isBase, List.set, List.drop, List.take, List.append, bnds, bhi, blo, srcOf, ↓reduceIte, Nat.reduceEqDiff, Nat.reduceAdd, Nat.reduceLeDiff, reduceCtorEq, Nat.reduceSub, Int.reduceEq, Int.reduceLT, Int.reduceLE, Int.reduceGT, Int.reduceGE, Int.reduceSub, Int.reduceAdd, Int.reduceMul, Int.reduceNe, Int.reduceNeg, Int.reduceToNat, Nat.reduceMul]; rfl) | rfl)
    · intro q hq
      simp only [↓R0, R1, rdL, rdH, isCall, istep, ibin, vcells, fillI, setR, flat, okCell, isBase, List.set, List.drop, List.take, List.append, bnds, bhi, blo, srcOf, ↓reduceIte, Nat.reduceEqDiff, Nat.reduceAdd, Nat.reduceLeDiff, reduceCtorEq, Nat.reduceSub, Int.reduceEq, Int.reduceLT, Int.reduceLE, Int.reduceGT, Int.reduceGE, Int.reduceSub, Int.reduceAdd, Int.reduceMul, Int.reduceNe, Int.reduceNeg, Int.reduceToNat, Nat.reduceMul, hget_new hq]
  · have hab : lk (nl m) ≤ lk (nl l) := by omega
    generalize nl l = aa at *
    generalize nl m = bb at *
    simp only [↓R0, R1, rdL, rdH, isCall, istep, ibin, vcells, fillI, setR, flat, okCell, isBase, List.set, List.drop, List.take, List.append, bnds, bhi, blo, srcOf, ↓reduceIte, Nat.reduceEqDiff, Nat.reduceAdd, Nat.reduceLeDiff, reduceCtorEq, Nat.reduceSub, Int.reduceEq, Int.reduceLT, Int.reduceLE, Int.reduceGT, Int.reduceGE, Int.reduceSub, Int.reduceAdd, Int.reduceMul, Int.reduceNe, Int.reduceNeg, Int.reduceToNat, Nat.reduceMul, c0]
    have g1 : IntKind.i64.wrap ((lk aa : Int) + 1) = ((lk aa + 1 : Nat) : Int) := by rw [i64_in _ (by omega)]; omega
    have g2 : 4 * ((lk aa + 1 : Nat) : Int) ≤ 281474976710656 := by omega
    have g3 : ((lk aa + 1 : Nat) : Int) ≤ 9223372036854775807 := by omega
    simp only [↓R0, R1, rdL, rdH, isCall, istep, ibin, vcells, fillI, setR, flat, okCell, isBase, List.set, List.drop, List.take, List.append, bnds, bhi, blo, srcOf, ↓reduceIte, Nat.reduceEqDiff, Nat.reduceAdd, Nat.reduceLeDiff, reduceCtorEq, Nat.reduceSub, Int.reduceEq, Int.reduceLT, Int.reduceLE, Int.reduceGT, Int.reduceGE, Int.reduceSub, Int.reduceAdd, Int.reduceMul, Int.reduceNe, Int.reduceNeg, Int.reduceToNat, Nat.reduceMul, g1, g2, g3, tb_rep]
    clear g1 g2 g3
    refine lp_parts (fun m tm hp nx => ∃ (i : Nat) (f : Nat → Nat), m + i = lk aa ∧ tmget tm 5 = .slice (some ⟨N + 0, 0, none⟩) (lk aa) (lk aa) ∧ tmget tm 6 = .slice (some ⟨N + 1, 0, none⟩) (lk bb) (lk bb) ∧
        tmget tm 7 = .slice (some ⟨N + 2, 0, none⟩) (lk aa + 1) (lk aa + 1) ∧ tmget tm 8 = .int .u32 (cyA aa bb i : Nat) ∧ tmget tm 27 = .int .i64 (lk aa) ∧ tmget tm 28 = .int .i64 i ∧
        hget hp (N + 0) = some ⟨118, 1, false, tb (lk aa) (lm aa)⟩ ∧ hget hp (N + 1) = some ⟨118, 1, false, tb (lk bb) (lm bb)⟩ ∧
        hget hp (N + 2) = some ⟨118, 1, false, tb (lk aa + 1) f⟩ ∧ (∀ j, j < i → f j = lm (aa + bb) j) ∧ (∀ q, q < N → hget hp q = hget h q) ∧ nx = N + 3) ?_ (lk aa)
      ⟨0, fun _ => 0, by omega, ?_, ?_, ?_, ?_, ?_, ?_, ?_, ?_, ?_, fun j hj => by omega, ?_, rfl⟩
    · intro m tm hp nx ⟨i, f, hm, h5, h6, h7, h8, h27, h28, hb1, hb2, hb3, hf, hh, hnx⟩
      subst hnx
      have b1 := lm_lt aa i
      have b2 := lm_lt bb i
      have b3 := cyA_le aa bb i
      have v1 : ((lm aa i : Nat) : Int) < 4294967296 := by omega
      have v2 : ((lm bb i : Nat) : Int) < 4294967296 := by omega
      have v3 : ((cyA aa bb i : Nat) : Int) ≤ 1 := by omega
      have v4 : ((lm aa i : Int) + lm bb i + cyA aa bb i) % 4294967296 = (lm (aa + bb) i : Int) := by rw [add_limb]; omega
      have v5 : ((lm aa i : Int) + lm bb i + cyA aa bb i) / 4294967296 = (cyA aa bb (i + 1) : Int) := by rw [cyA_succ]; omega
      have e7 : IntKind.i64.wrap ((i : Int) + 1) = ((i + 1 : Nat) : Int) := by rw [i64_in _ (by omega)]; omega
      by_cases c1 : i < lk aa
      · have c1' : i < lk aa + 1 := by omega
        have c1'' : i ≤ lk aa := by omega
        have k1 := tb_get' (lm aa) c1
        have hset : ∀ j, j < i + 1 → (fun j => if j = i then lm (aa + bb) i else f j) j = lm (aa + bb) j := by
          intro j hj
          simp only
          by_cases e : j = i
          · rw [if_pos e, e]
          · rw [if_neg e]; exact hf j (by omega)
        by_cases c2 : i < lk bb
        · have k2 := tb_get' (lm bb) c2
          simp only [↓R0, R1, rdL, rdH, isCall, istep, ibin, vcells, fillI, setR, flat, okCell, isBase, List.set, List.drop, List.take, List.append, bnds, bhi, blo, srcOf, ↓reduceIte, Nat.reduceEqDiff, Nat.reduceAdd, Nat.reduceLeDiff, reduceCtorEq, Nat.reduceSub, Int.reduceEq, Int.reduceLT, Int.reduceLE, Int.reduceGT, Int.reduceGE, Int.reduceSub, Int.reduceAdd, Int.reduceMul, Int.reduceNe, Int.reduceNeg, Int.reduceToNat, Nat.reduceMul, h5, h6, h7, h8, h27, h28, hb1, hb2, hb3, c1, c1', c1'', c2, k1, k2, e7, spAdd32, v1, v2, v3, v4, v5, tb_length, tb_set]
          refine ⟨m - 1, by omega, i + 1, _, by omega, rfl, rfl, rfl, hset, ?_⟩
          intro q hq
          simp only [if_neg (show ¬ N + 2 = q by omega)]
          exact hh q hq
        · have z2 := lm_out c2
          rw [z2] at v4 v5
          have z0 : ((0 : Nat) : Int) = 0 := rfl
          rw [z0] at v4 v5
          simp only [↓R0, R1, rdL, rdH, isCall, istep, ibin, vcells, fillI, setR, flat, okCell, isBase, List.set, List.drop, List.take, List.append, bnds, bhi, blo, srcOf, ↓reduceIte, Nat.reduceEqDiff, Nat.reduceAdd, Nat.reduceLeDiff, reduceCtorEq, Nat.reduceSub, Int.reduceEq, Int.reduceLT, Int.reduceLE, Int.reduceGT, Int.reduceGE, Int.reduceSub, Int.reduceAdd, Int.reduceMul, Int.reduceNe, Int.reduceNeg, Int.reduceToNat, Nat.reduceMul, h5, h6, h7, h8, h27, h28, hb1, hb2, hb3, c1, c1', c1'', c2, k1, e7, spAdd32, v1, v3, v4, v5, tb_length, tb_set]
          refine ⟨m - 1, by omega, i + 1, _, by omega, rfl, rfl, rfl, hset, ?_⟩
          intro q hq
          simp only [if_neg (show ¬ N + 2 = q by omega)]
          exact hh q hq
      · have ei : i = lk aa := by omega
        subst ei
        have c3 : lk aa < lk aa + 1 := by omega
        have c4 : ((lk aa : Nat) : Int) < ((lk aa + 1 : Nat) : Int) := by omega
        have c5 : lk aa + 1 ≤ 34359738368 := by omega
        have hA := lk_lt aa
        have hB : bb < 4294967296 ^ lk aa := Nat.lt_of_lt_of_le (lk_lt bb) (Nat.pow_le_pow_right (by omega) hab)
        have hS : aa + bb < 4294967296 ^ (lk aa + 1) := by rw [Nat.pow_succ]; omega
        have hcy : cyA aa bb (lk aa) = lm (aa + bb) (lk aa) := by
          rw [lm_top hS]; unfold cyA; rw [Nat.mod_eq_of_lt hA, Nat.mod_eq_of_lt hB]
        have htb : (tb (lk aa + 1) fun j => if j = lk aa then cyA aa bb (lk aa) else f j) = tb (lk aa + 1) (lm (aa + bb)) := by
          apply tb_congr
          intro j hj
          by_cases e : j = lk aa
          · rw [if_pos e, e, hcy]
          · rw [if_neg e]; exact hf j (by omega)
        have hud : ud (tb (lk aa + 1) (lm (aa + bb))) = aa + bb := by rw [ud_tb, Nat.mod_eq_of_lt hS]
        simp only [↓R0, R1, rdL, rdH, isCall, istep, ibin, vcells, fillI, setR, flat, okCell, isBase, List.set, List.drop, List.take, List.append, bnds, bhi, blo, srcOf, ↓reduceIte, Nat.reduceEqDiff, Nat.reduceAdd, Nat.reduceLeDiff, reduceCtorEq, Nat.reduceSub, Int.reduceEq, Int.reduceLT, Int.reduceLE, Int.reduceGT, Int.reduceGE, Int.reduceSub, Int.reduceAdd, Int.reduceMul, Int.reduceNe, Int.reduceNeg, Int.reduceToNat, Nat.reduceMul, h5, h6, h7, h8, h27, h28, hb1, hb2, hb3, c1, c3, c4, tb_length, tb_set, htb, rdS, spMag, shows, tb_all, uok_lm, c5, hud, Fin, isEnd, resL, res1, iE, rE]
        first | exact ⟨_, rfl, rfl, hh⟩ | exact ⟨_, rfl, rfl, fun k hk => by simp only [ne_nb hk, if_false]; exact hh k hk⟩
    · (first | (simp only [↓R0, R1, rdL, rdH, isCall, istep, ibin, vcells, fillI, setR, flat, okCell, isBase, List.set, List.drop, List.take, List.append, bnds, bhi, blo, srcOf, ↓reduceIte, Nat.reduceEqDiff, Nat.reduceAdd, Nat.reduceLeDiff, reduceCtorEq, Nat.reduceSub, Int.reduceEq, Int.reduceLT, Int.reduceLE, Int.reduceGT, Int.reduceGE, Int.reduceSub, Int.reduceAdd, Int.reduceMul, Int.reduceNe, Int.reduceNeg, Int.reduceToNat, Nat.reduceMul]; done) | (simp only [↓R0, R1, rdL, rdH, isCall, istep, ibin, vcells, fillI, setR, flat, okCell, isBase, List.set, List.drop, List.take, List.append, bnds, bhi, blo, srcOf, ↓reduceIte, Nat.reduceEqDiff, Nat.reduceAdd, Nat.reduceLeDiff, reduceCtorEq, Nat.reduceSub, Int.reduceEq, Int.reduceLT, Int.reduceLE, Int.reduceGT, Int.reduceGE, Int.reduceSub, Int.reduceAdd, Int.reduceMul, Int.reduceNe, Int.reduceNeg, Int.reduceToNat, Nat.reduceMul]; rfl) | rfl)
    · (first | (simp only [↓R0, R1, rdL, rdH, isCall, istep, ibin, vcells, fillI, setR, flat, okCell, isBase, List.set, List.drop, List.take, List.append, bnds, bhi, blo, srcOf, ↓reduceIte, Nat.reduceEqDiff, Nat.reduceAdd, Nat.reduceLeDiff, reduceCtorEq, Nat.reduceSub, Int.reduceEq, Int.reduceLT, Int.reduceLE, Int.reduceGT, Int.reduceGE, Int.reduceSub, Int.reduceAdd, Int.reduceMul, Int.reduceNe, Int.reduceNeg, Int.reduceToNat, Nat.reduceMul]; done) | (simp only [↓R0, R1, rdL, rdH, isCall, istep, ibin, vcells, fillI, setR, flat, okCell, isBase, List.set, List.drop, List.take, List.append, bnds, bhi, blo, srcOf, ↓reduceIte, Nat.reduceEqDiff, Nat.reduceAdd, Nat.reduceLeDiff, reduceCtorEq, Nat.reduceSub, Int.reduceEq, Int.reduceLT, Int.reduceLE, Int.reduceGT, Int.reduceGE, Int.reduceSub, Int.reduceAdd, Int.reduceMul, Int.reduceNe, Int.reduceNeg, Int.reduceToNat, Nat.reduceMul]; rfl) | rfl)
    · (first | (simp only [↓R0, R1, rdL, rdH, isCall, istep, ibin, vcells, fillI, setR, flat, okCell, isBase, List.set, List.drop, List.take, List.append, bnds, bhi, blo, srcOf, ↓reduceIte, Nat.reduceEqDiff, Nat.reduceAdd, Nat.reduceLeDiff, reduceCtorEq, Nat.reduceSub, Int.reduceEq, Int.reduceLT, Int.reduceLE, Int.reduceGT, Int.reduceGE, Int.reduceSub, Int.reduceAdd, Int.reduceMul, Int.reduceNe, Int.reduceNeg, Int.reduceToNat, Nat.reduceMul]; done) | (simp only [↓R0, R1, rdL, rdH, isCall, istep, ibin, vcells, fillI, setR, flat, okCell, isBase, List.set, List.drop, List.take, List.append, bnds, bhi, blo, srcOf, ↓reduceIte, Nat.reduceEqDiff, Nat.reduceAdd, Nat.reduceLeDiff, reduceCtorEq, Nat.reduceSub, Int.reduceEq, Int.reduceLT, Int.reduceLE, Int.reduceGT, Int.reduceGE, Int.reduceSub, Int.reduceAdd, Int.reduceMul, Int.reduceNe, Int.reduceNeg, Int.reduceToNat, Nat.reduceMul]; rfl) | rfl)
    · (first | (simp only [↓R0, R1, rdL, rdH, isCall, istep, ibin, vcells, fillI, setR, flat, okCell, isBase, List.set, List.drop, List.take, List.append, bnds, bhi, blo, srcOf, ↓reduceIte, Nat.reduceEqDiff, Nat.reduceAdd, Nat.reduceLeDiff, reduceCtorEq, Nat.reduceSub, Int.reduceEq, Int.reduceLT, Int.reduceLE, Int.reduceGT, Int.reduceGE, Int.reduceSub, Int.reduceAdd, Int.reduceMul, Int.reduceNe, Int.reduceNeg, Int.reduceToNat, Nat.reduceMul, cyA_zero]; done) | (simp only [↓R0, R1, rdL, rdH, isCall, istep, ibin, vcells, fillI, setR, flat, okCell, isBase, List.set, List.drop, List.take, List.append, bnds, bhi, blo, srcOf, ↓reduceIte, Nat.reduceEqDiff, Nat.reduceAdd, Nat.reduceLeDiff, reduceCtorEq, Nat.reduceSub, Int.reduceEq, Int.reduceLT, Int.reduceLE, Int.reduceGT, Int.reduceGE, Int.reduceSub, Int.reduceAdd, Int.reduceMul, Int.reduceNe, Int.reduceNeg, Int.reduceToNat, Nat.reduceMul, cyA_zero]; rfl) | rfl)
    · (first | (simp only [↓R0, R1, rdL, rdH, isCall, istep, ibin, vcells, fillI, setR, flat, okCell, isBase, List.set, List.drop, List.take, List.append, bnds, bhi, blo, srcOf, ↓reduceIte, Nat.reduceEqDiff, Nat.reduceAdd, Nat.reduceLeDiff, reduceCtorEq, Nat.reduceSub, Int.reduceEq, Int.reduceLT, Int.reduceLE, Int.reduceGT, Int.reduceGE, Int.reduceSub, Int.reduceAdd, Int.reduceMul, Int.reduceNe, Int.reduceNeg, Int.reduceToNat, Nat.reduceMul]; done) | (simp only [↓R0, R1, rdL, rdH, isCall, istep, ibin, vcells, fillI, setR, flat, okCell, isBase, List.set, List.drop, List.take, List.append, bnds, bhi, blo, srcOf, ↓reduceIte, Nat.reduceEqDiff, Nat.reduceAdd, Nat.reduceLeDiff, reduceCtorEq, Nat.reduceSub, Int.reduceEq, Int.reduceLT, Int.reduceLE, Int.reduceGT, Int.reduceGE, Int.reduceSub, Int.reduceAdd, Int.reduceMul, Int.reduceNe, Int.reduceNeg, Int.reduceToNat, Nat.reduceMul]; rfl) | rfl)
    · (first | (simp only [↓R0, R1, rdL, rdH, isCall, istep, ibin, vcells, fillI, setR, flat, okCell, isBase, List.set, List.drop, List.take, List.append, bnds, bhi, blo, srcOf, ↓reduceIte, Nat.reduceEqDiff, Nat.reduceAdd, Nat.reduceLeDiff, reduceCtorEq, Nat.reduceSub, Int.reduceEq, Int.reduceLT, Int.reduceLE, Int.reduceGT, Int.reduceGE, Int.reduceSub, Int.reduceAdd, Int.reduceMul, Int.reduceNe, Int.reduceNeg, Int.reduceToNat, Nat.reduceMul]; done) | (simp only [↓R0, R1, rdL, rdH, isCall, istep, ibin, vcells, fillI, setR, flat, okCell, isBase, List.set, List.drop, List.take, List.append, bnds, bhi, blo, srcOf, ↓reduceIte, Nat.reduceEqDiff, Nat.reduceAdd, Nat.reduceLeDiff, reduceCtorEq, Nat.reduceSub, Int.reduceEq, Int.reduceLT, Int.reduceLE, Int.reduceGT, Int.reduceGE, Int.reduceSub, Int.reduceAdd, Int.reduceMul, Int.reduceNe, Int.reduceNeg, Int.reduceToNat, Nat.reduceMul]; rfl) | rfl)
    · (first | (simp only [↓R0, R1, rdL, rdH, isCall, istep, ibin, vcells, fillI, setR, flat, okCell, isBase, List.set, List.drop, List.take, List.append, bnds, bhi, blo, srcOf, ↓reduceIte, Nat.reduceEqDiff, Nat.reduceAdd, Nat.reduceLeDiff, reduceCtorEq, Nat.reduceSub, Int.reduceEq, Int.reduceLT, Int.reduceLE, Int.reduceGT, Int.reduceGE, Int.reduceSub, Int.reduceAdd, Int.reduceMul, Int.reduceNe, Int.reduceNeg, Int.reduceToNat, Nat.reduceMul]; done) | (simp only [↓R0, R1, rdL, rdH, isCall, istep, ibin, vcells, fillI, setR, flat, okCell, isBase, List.set, List.drop, List.take, List.append, bnds, bhi, blo, srcOf, ↓reduceIte, Nat.reduceEqDiff, Nat.reduceAdd, Nat.reduceLeDiff, reduceCtorEq, Nat.reduceSub, Int.reduceEq, Int.reduceLT, Int.reduceLE, Int.reduceGT, Int.reduceGE, Int.reduceSub, Int.reduceAdd, Int.reduceMul, Int.reduceNe, Int.reduceNeg, Int.reduceToNat, Nat.reduceMul]; rfl) | rfl)
    · (first | (simp only [↓R0, R1, rdL, rdH, isCall, istep, ibin, vcells, fillI, setR, flat, okCell, isBase, List.set, List.drop, List.take, List.append, bnds, bhi, blo, srcOf, ↓reduceIte, Nat.reduceEqDiff, Nat.reduceAdd, Nat.reduceLeDiff, reduceCtorEq, Nat.reduceSub, Int.reduceEq, Int.reduceLT, Int.reduceLE, Int.reduceGT, Int.reduceGE, Int.reduceSub, Int.reduceAdd, Int.reduceMul, Int.reduceNe, Int.reduceNeg, Int.reduceToNat, Nat.reduceMul]; done) | (simp only [↓R0, R1, rdL, rdH, isCall, istep, ibin, vcells, fillI, setR, flat, okCell, isBase, List.set, List.drop, List.take, List.append, bnds, bhi, blo, srcOf, ↓reduceIte, Nat.reduceEqDiff, Nat.reduceAdd, Nat.reduceLeDiff, reduceCtorEq, Nat.reduceSub, Int.reduceEq, Int.reduceLT, Int.reduceLE, Int.reduceGT, Int.reduceGE, Int.reduceSub, Int.reduceAdd, Int.reduceMul, Int.reduceNe, Int.reduceNeg, Int.reduceToNat, Nat.reduceMul]; rfl) | rfl)
    · (first | (simp only [↓R0, R1, rdL, rdH, isCall, istep, ibin, vcells, fillI, setR, flat, okCell, isBase, List.set, List.drop, List.take, List.append, bnds, bhi, blo, srcOf, ↓reduceIte, Nat.reduceEqDiff, Nat.reduceAdd, Nat.reduceLeDiff, reduceCtorEq, Nat.reduceSub, Int.reduceEq, Int.reduceLT, Int.reduceLE, Int.reduceGT, Int.reduceGE, Int.reduceSub, Int.reduceAdd, Int.reduceMul, Int.reduceNe, Int.reduceNeg, Int.reduceToNat, Nat.reduceMul]; done) | (simp only [↓R0, R1, rdL, rdH, isCall, istep, ibin, vcells, fillI, setR, flat, okCell, isBase, List.set, List.drop, List.take, List.append, bnds, bhi, blo, srcOf, ↓reduceIte, Nat.reduceEqDiff, Nat.reduceAdd, Nat.reduceLeDiff, reduceCtorEq, Nat.reduceSub, Int.reduceEq, Int.reduceLT, Int.reduceLE, Int.reduceGT, Int.reduceGE, Int.reduceSub, Int.reduceAdd, Int.reduceMul, Int.reduceNe, Int.reduceNeg, Int.reduceToNat, Nat.reduceMul]; rfl) | rfl)
    · intro q hq
      simp only [↓R0, R1, rdL, rdH, isCall, istep, ibin, vcells, fillI, setR, flat, okCell, isBase, List.set, List.drop, List.take, List.append, bnds, bhi, blo, srcOf, ↓reduceIte, Nat.reduceEqDiff, Nat.reduceAdd, Nat.reduceLeDiff, reduceCtorEq, Nat.reduceSub, Int.reduceEq, Int.reduceLT, Int.reduceLE, Int.reduceGT, Int.reduceGE, Int.reduceSub, Int.reduceAdd, Int.reduceMul, Int.reduceNe, Int.reduceNeg, Int.reduceToNat, Nat.reduceMul, hget_new hq]
def spNSub : List Value → Option Value
  | [.string ⟨⟨l⟩⟩, .string ⟨⟨m⟩⟩] => if l.length ≤ 68719476736 ∧ m.length ≤ 68719476736 then
      (if nl l < nl m then some (.tuple ⟨[.string ⟨⟨[]⟩⟩, .bool false]⟩) else some (.tuple ⟨[.string ⟨⟨bl (nl l - nl m)⟩⟩, .bool true]⟩)) else none
  | _ => none
def c80 : ICode :=
  (.seq (.reg [⟨(some 4), none, (.mv (.c (.string ⟨⟨[]⟩⟩)))⟩, ⟨(some 5), none, (.mv (.c (.bool false)))⟩])
  (.seq (.seq (.reg [⟨(some 12), none, (.mv (.t 0))⟩, ⟨(some 13), none, (.mv (.t 1))⟩, ⟨(some 14), none, (.call 111 [(.t 12), (.t 13)])⟩, ⟨(some 15), none, (.bin .lss (.t 14) (.c (.int .i64 0)))⟩])
  (.cond (.t 15)
  (.seq (.reg [⟨(some 4), none, (.mv (.c (.string ⟨⟨[]⟩⟩)))⟩, ⟨(some 5), none, (.mv (.c (.bool false)))⟩])
  .ret)
  .skip))
  (.seq (.reg [⟨(some 16), none, (.mv (.t 0))⟩, ⟨(some 17), none, (.call 110 [(.t 16)])⟩, ⟨(some 18), none, (.mv (.t 1))⟩, ⟨(some 19), none, (.call 110 [(.t 18)])⟩, ⟨(some 6), none, (.mv (.t 17))⟩, ⟨(some 7), none, (.mv (.t 19))⟩])
  (.seq (.reg [⟨(some 20), none, (.mv (.t 6))⟩, ⟨(some 21), none, (.lensl (.t 20))⟩, ⟨(some 22), none, (.mkslice 118 1 4 [(.int .u32 0)] (.t 21) (.t 21))⟩, ⟨(some 8), none, (.mv (.t 22))⟩])
  (.seq (.reg [⟨(some 9), none, (.mv (.c (.int .u32 0)))⟩])
  (.seq (.seq (.reg [⟨(some 23), none, (.mv (.t 6))⟩, ⟨(some 24), none, (.lensl (.t 23))⟩, ⟨(some 25), none, (.mv (.c (.int .i64 0)))⟩])
  (.block 0 (.loop (.seq (.reg [⟨(some 26), none, (.bin .lss (.t 25) (.t 24))⟩])
  (.seq (.cond (.t 26)
  .skip
  (.exit 0))
  (.seq (.block 1 (.seq (.reg [⟨(some 27), none, (.mv (.t 25))⟩, ⟨(some 10), none, (.mv (.t 27))⟩])
  (.seq (.reg [⟨(some 11), none, (.mv (.c (.int .u32 0)))⟩])
  (.seq (.seq (.reg [⟨(some 28), none, (.mv (.t 10))⟩, ⟨(some 29), none, (.mv (.t 7))⟩, ⟨(some 30), none, (.lensl (.t 29))⟩, ⟨(some 31), none, (.bin .lss (.t 28) (.t 30))⟩])
  (.cond (.t 31)
  (.reg [⟨(some 32), none, (.mv (.t 7))⟩, ⟨(some 33), none, (.mv (.t 10))⟩, ⟨(some 34), none, (.ixsl 1 (.t 32) (.t 33))⟩, ⟨(some 35), none, (.load false 1 (.t 34))⟩, ⟨(some 11), none, (.mv (.t 35))⟩])
  .skip))
  (.reg [⟨(some 37), none, (.mv (.t 8))⟩, ⟨(some 38), none, (.mv (.t 10))⟩, ⟨(some 39), none, (.mv (.t 6))⟩, ⟨(some 40), none, (.mv (.t 10))⟩, ⟨(some 41), none, (.ixsl 1 (.t 39) (.t 40))⟩, ⟨(some 42), none, (.load false 1 (.t 41))⟩, ⟨(some 43), none, (.mv (.t 11))⟩, ⟨(some 44), none, (.mv (.t 9))⟩, ⟨(some 45), none, (.call 123 [(.t 42), (.t 43), (.t 44)])⟩, ⟨(some 36), none, (.mv (.t 45))⟩, ⟨(some 46), none, (.ext (.t 36) 0)⟩, ⟨(some 47), none, (.ext (.t 36) 1)⟩, ⟨(some 48), none, (.ixsl 1 (.t 37) (.t 38))⟩, ⟨none, none, (.store 1 (.t 48) (.t 46))⟩, ⟨(some 9), none, (.mv (.t 47))⟩])))))
  (.reg [⟨(some 49), none, (.bin .add (.t 25) (.c (.int .i64 1)))⟩, ⟨(some 25), none, (.mv (.t 49))⟩])))))))
  (.seq (.reg [⟨(some 50), none, (.mv (.t 8))⟩, ⟨(some 51), none, (.call 113 [(.t 50)])⟩, ⟨(some 4), none, (.mv (.t 51))⟩, ⟨(some 5), none, (.mv (.c (.bool true)))⟩])
  .ret)))))))
theorem tr80 : trFun Tryz.prog 80 = some ⟨52, [.t 4, .t 5], c80⟩ := by kernel_rfl
theorem cmpN_neg {a b : Nat} : (cmpN a b < 0) = (a < b) := by
  unfold cmpN
  by_cases h : a < b
  · simp [h]
  · by_cases h2 : a = b
    · simp [h2]
    · simp [h, h2]
set_option maxHeartbeats 1000000 in
theorem ok_nSub : SpecOK Tryz.prog 80 (flat spNSub) := by
  refine flat_run (env_cons ok_nCmp (env_cons ok_nlimbs (env_cons ok_nmag (env_cons ok_sub32 (env_nil _))))) mixed tr80 ?_
  intro args v h N hG
  unfold spNSub at hG
  split at hG
  case h_2 => cases hG
  rename_i l m
  split at hG
  case isFalse => cases hG
  rename_i hl
  obtain ⟨hl, hm⟩ := hl
  have hl' : l.length ≤ 1099511627776 := by omega
  have hm' : m.length ≤ 1099511627776 := by omega
  split at hG
  · rename_i hlt
    cases hG
    refine ⟨rfl, by simp, ?_⟩
    simp only [c80, initT, List.zipIdx_cons, List.zipIdx_nil, List.map_cons, List.map_nil, Nat.reduceAdd]
    simp only [↓R0, R1, rdL, rdH, isCall, istep, ibin, vcells, fillI, setR, flat, okCell, isBase, List.set, List.drop, List.take, List.append, bnds, bhi, blo, srcOf, ↓reduceIte, Nat.reduceEqDiff, Nat.reduceAdd, Nat.reduceLeDiff, reduceCtorEq, Nat.reduceSub, Int.reduceEq, Int.reduceLT, Int.reduceLE, Int.reduceGT, Int.reduceGE, Int.reduceSub, Int.reduceAdd, Int.reduceMul, Int.reduceNe, Int.reduceNeg, Int.reduceToNat, Nat.reduceMul, spNCmp, hl', hm', cmpN_lt hlt, Fin, isEnd, resL, res1, iE, rE]
    exact ⟨_, rfl, rfl, fun k hk => by simp only [ne_nb hk, if_false]⟩
  rename_i hlt
  cases hG
  refine ⟨rfl, by simp, ?_⟩
  have hL : lk (nl l) ≤ 17179869184 := lk_len (Nat.le_trans (bl_length_nl l) (by omega))
  simp only [c80, initT, List.zipIdx_cons, List.zipIdx_nil, List.map_cons, List.map_nil, Nat.reduceAdd]
  generalize ha : nl l = aa at *
  generalize hb : nl m = bb at *
  have g2 : 4 * (lk aa : Int) ≤ 281474976710656 := by omega
  have g3 : (lk aa : Int) ≤ 9223372036854775807 := by omega
  simp only [↓R0, R1, rdL, rdH, isCall, istep, ibin, vcells, fillI, setR, flat, okCell, isBase, List.set, List.drop, List.take, List.append, bnds, bhi, blo, srcOf, ↓reduceIte, Nat.reduceEqDiff, Nat.reduceAdd, Nat.reduceLeDiff, reduceCtorEq, Nat.reduceSub, Int.reduceEq, Int.reduceLT, Int.reduceLE, Int.reduceGT, Int.reduceGE, Int.reduceSub, Int.reduceAdd, Int.reduceMul, Int.reduceNe, Int.reduceNeg, Int.reduceToNat, Nat.reduceMul, spNCmp, nwS, spLimbs, hl', hm', ha, hb, cmpN_neg, hlt, g2, g3, tb_rep]
  clear g2 g3
  refine lp_parts (fun m tm hp nx => ∃ (i : Nat) (f : Nat → Nat), m + i = lk aa ∧ tmget tm 6 = .slice (some ⟨N + 0, 0, none⟩) (lk aa) (lk aa) ∧ tmget tm 7 = .slice (some ⟨N + 1, 0, none⟩) (lk bb) (lk bb) ∧
      tmget tm 8 = .slice (some ⟨N + 2, 0, none⟩) (lk aa) (lk aa) ∧ tmget tm 9 = .int .u32 (cyS aa bb i : Nat) ∧ tmget tm 24 = .int .i64 (lk aa) ∧ tmget tm 25 = .int .i64 i ∧
      hget hp (N + 0) = some ⟨118, 1, false, tb (lk aa) (lm aa)⟩ ∧ hget hp (N + 1) = some ⟨118, 1, false, tb (lk bb) (lm bb)⟩ ∧
      hget hp (N + 2) = some ⟨118, 1, false, tb (lk aa) f⟩ ∧ (∀ j, j < i → f j = lm (aa - bb) j) ∧ (∀ q, q < N → hget hp q = hget h q) ∧ nx = N + 3) ?_ (lk aa)
    ⟨0, fun _ => 0, by omega, ?_, ?_, ?_, ?_, ?_, ?_, ?_, ?_, ?_, fun j hj => by omega, ?_, rfl⟩
  · intro m tm hp nx ⟨i, f, hm, h6, h7, h8, h9, h24, h25, hb1, hb2, hb3, hf, hh, hnx⟩
    subst hnx
    have b1 := lm_lt aa i
    have b2 := lm_lt bb i
    have b3 := cyS_le aa bb i
    have v1 : ((lm aa i : Nat) : Int) < 4294967296 := by omega
    have v2 : ((lm bb i : Nat) : Int) < 4294967296 := by omega
    have v3 : ((cyS aa bb i : Nat) : Int) ≤ 1 := by omega
    have hmod := sub_mods (show bb ≤ aa by omega) i
    have v4 : ((lm aa i : Int) - lm bb i - cyS aa bb i) % 4294967296 = (lm (aa - bb) i : Int) := (sub_limb hmod).symm
    have v5 : (if (lm aa i : Int) < lm bb i + cyS aa bb i then (1 : Int) else 0) = (cyS aa bb (i + 1) : Int) := by
      rw [cyS_succ]
      by_cases g : lm aa i < lm bb i + cyS aa bb i
      · rw [if_pos g, if_pos (by omega)]; rfl
      · rw [if_neg g, if_neg (by omega)]; rfl
    have e7 : IntKind.i64.wrap ((i : Int) + 1) = ((i + 1 : Nat) : Int) := by rw [i64_in _ (by omega)]; omega
    by_cases c1 : i < lk aa
    · have c1' : i + 1 ≤ lk aa := c1
      have k1 := tb_get' (lm aa) c1
      have hset : ∀ j, j < i + 1 → (fun j => if j = i then lm (aa - bb) i else f j) j = lm (aa - bb) j := by
        intro j hj
        simp only
        by_cases e : j = i
        · rw [if_pos e, e]
        · rw [if_neg e]; exact hf j (by omega)
      by_cases c2 : i < lk bb
      · have k2 := tb_get' (lm bb) c2
        simp only [↓R0, R1, rdL, rdH, isCall, istep, ibin, vcells, fillI, setR, flat, okCell, isBase, List.set, List.drop, List.take, List.append, bnds, bhi, blo, srcOf, ↓reduceIte, Nat.reduceEqDiff, Nat.reduceAdd, Nat.reduceLeDiff, reduceCtorEq, Nat.reduceSub, Int.reduceEq, Int.reduceLT, Int.reduceLE, Int.reduceGT, Int.reduceGE, Int.reduceSub, Int.reduceAdd, Int.reduceMul, Int.reduceNe, Int.reduceNeg, Int.reduceToNat, Nat.reduceMul, h6, h7, h8, h9, h24, h25, hb1, hb2, hb3, c1, c1', c2, k1, k2, e7, spSub32, v1, v2, v3, v4, v5, tb_length, tb_set]
        refine ⟨m - 1, by omega, i + 1, _, by omega, rfl, rfl, rfl, hset, ?_⟩
        intro q hq
        simp only [if_neg (show ¬ N + 2 = q by omega)]
        exact hh q hq
      · have z2 := lm_out c2
        rw [z2] at v4 v5
        have z0 : ((0 : Nat) : Int) = 0 := rfl
        rw [z0] at v4 v5
        simp only [↓R0, R1, rdL, rdH, isCall, istep, ibin, vcells, fillI, setR, flat, okCell, isBase, List.set, List.drop, List.take, List.append, bnds, bhi, blo, srcOf, ↓reduceIte, Nat.reduceEqDiff, Nat.reduceAdd, Nat.reduceLeDiff, reduceCtorEq, Nat.reduceSub, Int.reduceEq, Int.reduceLT, Int.reduceLE, Int.reduceGT, Int.reduceGE, Int.reduceSub, Int.reduceAdd, Int.reduceMul, Int.reduceNe, Int.reduceNeg, Int.reduceToNat, Nat.reduceMul, h6, h7, h8, h9, h24, h25, hb1, hb2, hb3, c1, c1', c2, k1, e7, spSub32, v1, v3, v4, v5, tb_length, tb_set]
        refine ⟨m - 1, by omega, i + 1, _, by omega, rfl, rfl, rfl, hset, ?_⟩
        intro q hq
        simp only [if_neg (show ¬ N + 2 = q by omega)]
        exact hh q hq
    · have ei : i = lk aa := by omega
      subst ei
      have c5 : lk aa ≤ 34359738368 := by omega
      have htb : tb (lk aa) f = tb (lk aa) (lm (aa - bb)) := tb_congr hf
      have hud : ud (tb (lk aa) (lm (aa - bb))) = aa - bb := by rw [ud_tb, Nat.mod_eq_of_lt (Nat.lt_of_le_of_lt (Nat.sub_le _ _) (lk_lt aa))]
      simp only [↓R0, R1, rdL, rdH, isCall, istep, ibin, vcells, fillI, setR, flat, okCell, isBase, List.set, List.drop, List.take, List.append, bnds, bhi, blo, srcOf, ↓reduceIte, Nat.reduceEqDiff, Nat.reduceAdd, Nat.reduceLeDiff, reduceCtorEq, Nat.reduceSub, Int.reduceEq, Int.reduceLT, Int.reduceLE, Int.reduceGT, Int.reduceGE, Int.reduceSub, Int.reduceAdd, Int.reduceMul, Int.reduceNe, Int.reduceNeg, Int.reduceToNat, Nat.reduceMul, h6, h7, h8, h9, h24, h25, hb1, hb2, hb3, c1, tb_length, htb, rdS, spMag, shows, tb_all, uok_lm, c5, hud, Fin, isEnd, resL, res1, iE, rE]
      first | exact ⟨_, rfl, rfl, hh⟩ | exact ⟨_, rfl, rfl, fun k hk => by simp only [ne_nb hk, if_false]; exact hh k hk⟩
  · (first | (simp only [↓R0, R1, rdL, rdH, isCall, istep, ibin, vcells, fillI, setR, flat, okCell, isBase, List.set, List.drop, List.take, List.append, bnds, bhi, blo, srcOf, ↓reduceIte, Nat.reduceEqDiff, Nat.reduceAdd, Nat.reduceLeDiff, reduceCtorEq, Nat.reduceSub, Int.reduceEq, Int.reduceLT, Int.reduceLE, Int.reduceGT, Int.reduceGE, Int.reduceSub, Int.reduceAdd, Int.reduceMul, Int.reduceNe, Int.reduceNeg, Int.reduceToNat, Nat.reduceMul]; done) | (simp only [↓R0, R1, rdL, rdH, isCall, istep, ibin, vcells, fillI, setR, flat, okCell, isBase, List.set, List.drop, List.take, List.append, bnds, bhi, blo, srcOf, ↓reduceIte, Nat.reduceEqDiff, Nat.reduceAdd, Nat.reduceLeDiff, reduceCtorEq, Nat.reduceSub, Int.reduceEq, Int.reduceLT, Int.reduceLE, Int.reduceGT, Int.reduceGE, Int.reduceSub, Int.reduceAdd, Int.reduceMul, Int.reduceNe, Int.reduceNeg, Int.reduceToNat, Nat.reduceMul]; rfl) | rfl)
  · (first | (simp only [↓R0, R1, rdL, rdH, isCall, istep, ibin, vcells, fillI, setR, flat, okCell, isBase, List.set, List.drop, List.take, List.append, bnds, bhi, blo, srcOf, ↓reduceIte, Nat.reduceEqDiff, Nat.reduceAdd, Nat.reduceLeDiff, reduceCtorEq, Nat.reduceSub, Int.reduceEq, Int.reduceLT, Int.reduceLE, Int.reduceGT, Int.reduceGE, Int.reduceSub, Int.reduceAdd, Int.reduceMul, Int.reduceNe, Int.reduceNeg, Int.reduceToNat, Nat.reduceMul]; done) | (simp only [↓R0, R1, rdL, rdH, isCall, istep, ibin, vcells, fillI, setR, flat, okCell, isBase, List.set, List.drop, List.take, List.append, bnds, bhi, blo, srcOf, ↓reduceIte, Nat.reduceEqDiff, Nat.reduceAdd, Nat.reduceLeDiff, reduceCtorEq, Nat.reduceSub, Int.reduceEq, Int.reduceLT, Int.reduceLE, Int.reduceGT, Int.reduceGE, Int.reduceSub, Int.reduceAdd, Int.reduceMul, Int.reduceNe, Int.reduceNeg, Int.reduceToNat, Nat.reduceMul]; rfl) | rfl)
  · (first | (simp only [↓R0, R1, rdL, rdH, isCall, istep, ibin, vcells, fillI, setR, flat, okCell, isBase, List.set, List.drop, List.take, List.append, bnds, bhi, blo, srcOf, ↓reduceIte, Nat.reduceEqDiff, Nat.reduceAdd, Nat.reduceLeDiff, reduceCtorEq, Nat.reduceSub, Int.reduceEq, Int.reduceLT, Int.reduceLE, Int.reduceGT, Int.reduceGE, Int.reduceSub, Int.reduceAdd, Int.reduceMul, Int.reduceNe, Int.reduceNeg, Int.reduceToNat, Nat.reduceMul]; done) | (simp only [↓R0, R1, rdL, rdH, isCall, istep, ibin, vcells, fillI, setR, flat, okCell, isBase, List.set, List.drop, List.take, List.append, bnds, bhi, blo, srcOf, ↓reduceIte, Nat.reduceEqDiff, Nat.reduceAdd, Nat.reduceLeDiff, reduceCtorEq, Nat.reduceSub, Int.reduceEq, Int.reduceLT, Int.reduceLE, Int.reduceGT, Int.reduceGE, Int.reduceSub, Int.reduceAdd, Int.reduceMul, Int.reduceNe, Int.reduceNeg, Int.reduceToNat, Nat.reduceMul]; rfl) | rfl)
  · (first | (simp only [↓R0, R1, rdL, rdH, isCall, istep, ibin, vcells, fillI, setR, flat, okCell, isBase, List.set, List.drop, List.take, List.append, bnds, bhi, blo, srcOf, ↓reduceIte, Nat.reduceEqDiff, Nat.reduceAdd, Nat.reduceLeDiff, reduceCtorEq, Nat.reduceSub, Int.reduceEq, Int.reduceLT, Int.reduceLE, Int.reduceGT, Int.reduceGE, Int.reduceSub, Int.reduceAdd, Int.reduceMul, Int.reduceNe, Int.reduceNeg, Int.reduceToNat, Nat.reduceMul, cyS_zero]; done) | (simp only [↓R0, R1, rdL, rdH, isCall, istep, ibin, vcells, fillI, setR, flat, okCell, isBase, List.set, List.drop, List.take, List.append, bnds, bhi, blo, srcOf, ↓reduceIte, Nat.reduceEqDiff, Nat.reduceAdd, Nat.reduceLeDiff, reduceCtorEq, Nat.reduceSub, Int.reduceEq, Int.reduceLT, Int.reduceLE, Int.reduceGT, Int.reduceGE, Int.reduceSub, Int.reduceAdd, Int.reduceMul, Int.reduceNe, Int.reduceNeg, Int.reduceToNat, Nat.reduceMul, cyS_zero]; rfl) | rfl)
  · (first | (simp only [↓R0, R1, rdL, rdH, isCall, istep, ibin, vcells, fillI, setR, flat, okCell, isBase, List.set, List.drop, List.take, List.append, bnds, bhi, blo, srcOf, ↓reduceIte, Nat.reduceEqDiff, Nat.reduceAdd, Nat.reduceLeDiff, reduceCtorEq, Nat.reduceSub, Int.reduceEq, Int.reduceLT, Int.reduceLE, Int.reduceGT, Int.reduceGE, Int.reduceSub, Int.reduceAdd, Int.reduceMul, Int.reduceNe, Int.reduceNeg, Int.reduceToNat, Nat.reduceMul]; done) | (simp only [↓R0, R1, rdL, rdH, isCall, istep, ibin, vcells, fillI, setR, flat, okCell, isBase, List.set, List.drop, List.take, List.append, bnds, bhi, blo, srcOf, ↓reduceIte, Nat.reduceEqDiff, Nat.reduceAdd, Nat.reduceLeDiff, reduceCtorEq, Nat.reduceSub, Int.reduceEq, Int.reduceLT, Int.reduceLE, Int.reduceGT, Int.reduceGE, Int.reduceSub, Int.reduceAdd, Int.reduceMul, Int.reduceNe, Int.reduceNeg, Int.reduceToNat, Nat.reduceMul]; rfl) | rfl)
  · (first | (simp only [↓R0, R1, rdL, rdH, isCall, istep, ibin, vcells, fillI, setR, flat, okCell, isBase, List.set, List.drop, List.take, List.append, bnds, bhi, blo, srcOf, ↓reduceIte, Nat.reduceEqDiff, Nat.reduceAdd, Nat.reduceLeDiff, reduceCtorEq, Nat.reduceSub, Int.reduceEq, Int.reduceLT, Int.reduceLE, Int.reduceGT, Int.reduceGE, Int.reduceSub, Int.reduceAdd, Int.reduceMul, Int.reduceNe, Int.reduceNeg, Int.reduceToNat, Nat.reduceMul]; done) | (simp only [↓R0, R1, rdL, rdH, isCall, istep, ibin, vcells, fillI, setR, flat, okCell, isBase, List.set, List.drop, List.take, List.append, bnds, bhi, blo, srcOf, ↓reduceIte, Nat.reduceEqDiff, Nat.reduceAdd, Nat.reduceLeDiff, reduceCtorEq, Nat.reduceSub, Int.reduceEq, Int.reduceLT, Int.reduceLE, Int.reduceGT, Int.reduceGE, Int.reduceSub, Int.reduceAdd, Int.reduceMul, Int.reduceNe, Int.reduceNeg, Int.reduceToNat, Nat.reduceMul]; rfl) | rfl)
  · (first | (simp only [↓R0, R1, rdL, rdH, isCall, istep, ibin, vcells, fillI, setR, flat, okCell, isBase, List.set, List.drop, List.take, List.append, bnds, bhi, blo, srcOf, ↓reduceIte, Nat.reduceEqDiff, Nat.reduceAdd, Nat.reduceLeDiff, reduceCtorEq, Nat.reduceSub, Int.reduceEq, Int.reduceLT, Int.reduceLE, Int.reduceGT, Int.reduceGE, Int.reduceSub, Int.reduceAdd, Int.reduceMul, Int.reduceNe, Int.reduceNeg, Int.reduceToNat, Nat.reduceMul]; done) | (simp only [↓R0, R1, rdL, rdH, isCall, istep, ibin, vcells, fillI, setR, flat, okCell, isBase, List.set, List.drop, List.take, List.append, bnds, bhi, blo, srcOf, ↓reduceIte, Nat.reduceEqDiff, Nat.reduceAdd, Nat.reduceLeDiff, reduceCtorEq, Nat.reduceSub, Int.reduceEq, Int.reduceLT, Int.reduceLE, Int.reduceGT, Int.reduceGE, Int.reduceSub, Int.reduceAdd, Int.reduceMul, Int.reduceNe, Int.reduceNeg, Int.reduceToNat, Nat.reduceMul]; rfl) | rfl)
  · (first | (simp only [↓R0, R1, rdL, rdH, isCall, istep, ibin, vcells, fillI, setR, flat, okCell, isBase, List.set, List.drop, List.take, List.append, bnds, bhi, blo, srcOf, ↓reduceIte, Nat.reduceEqDiff, Nat.reduceAdd, Nat.reduceLeDiff, reduceCtorEq, Nat.reduceSub, Int.reduceEq, Int.reduceLT, Int.reduceLE, Int.reduceGT, Int.reduceGE, Int.reduceSub, Int.reduceAdd, Int.reduceMul, Int.reduceNe, Int.reduceNeg, Int.reduceToNat, Nat.reduceMul]; done) | (simp only [↓R0, R1, rdL, rdH, isCall, istep, ibin, vcells, fillI, setR, flat, okCell, isBase, List.set, List.drop, List.take, List.append, bnds, bhi, blo, srcOf, ↓reduceIte, Nat.reduceEqDiff, Nat.reduceAdd, Nat.reduceLeDiff, reduceCtorEq, Nat.reduceSub, Int.reduceEq, Int.reduceLT, Int.reduceLE, Int.reduceGT, Int.reduceGE, Int.reduceSub, Int.reduceAdd, Int.reduceMul, Int.reduceNe, Int.reduceNeg, Int.reduceToNat, Nat.reduceMul]; rfl) | rfl)
  · (first | (simp only [↓R0, R1, rdL, rdH, isCall, istep, ibin, vcells, fillI, setR, flat, okCell, isBase, List.set, List.drop, List.take, List.append, bnds, bhi, blo, srcOf, ↓reduceIte, Nat.reduceEqDiff, Nat.reduceAdd, Nat.reduceLeDiff, reduceCtorEq, Nat.reduceSub, Int.reduceEq, Int.reduceLT, Int.reduceLE, Int.reduceGT, Int.reduceGE, Int.reduceSub, Int.reduceAdd, Int.reduceMul, Int.reduceNe, Int.reduceNeg, Int.reduceToNat, Nat.reduceMul]; done) | (simp only [↓R0, R1, rdL, rdH, isCall, istep, ibin, vcells, fillI, setR, flat, okCell, isBase, List.set, List.drop, List.take, List.append, bnds, bhi, blo, srcOf, ↓reduceIte, Nat.reduceEqDiff, Nat.reduceAdd, Nat.reduceLeDiff, reduceCtorEq, Nat.reduceSub, Int.reduceEq, Int.reduceLT, Int.reduceLE, Int.reduceGT, Int.reduceGE, Int.reduceSub, Int.reduceAdd, Int.reduceMul, Int.reduceNe, Int.reduceNeg, Int.reduceToNat, Nat.reduceMul]; rfl) | rfl)
  · intro q hq
    simp only [↓R0, R1, rdL, rdH, isCall, istep, ibin, vcells, fillI, setR, flat, okCell, isBase, List.set, List.drop, List.take, List.append, bnds, bhi, blo, srcOf, ↓reduceIte, Nat.reduceEqDiff, Nat.reduceAdd, Nat.reduceLeDiff, reduceCtorEq, Nat.reduceSub, Int.reduceEq, Int.reduceLT, Int.reduceLE, Int.reduceGT, Int.reduceGE, Int.reduceSub, Int.reduceAdd, Int.reduceMul, Int.reduceNe, Int.reduceNeg, Int.reduceToNat, Nat.reduceMul, hget_new hq]
end Go.Eng
end
section
set_option linter.unusedVariables false
set_option linter.unusedSimpArgs false
set_option linter.unusedSectionVars false
namespace Go.Eng
def mvV (v0 xi y i k : Nat) : Nat := v0 + xi * (y % 4294967296 ^ k) * 4294967296 ^ i
def mvC (v0 xi y i k : Nat) : Nat := mvV v0 xi y i k / 4294967296 ^ (i + k) - v0 / 4294967296 ^ (i + k)
def mvN (v0 xi y i k : Nat) : Nat := xi * lm y k + lm v0 (i + k) + mvC v0 xi y i k
theorem mvV_zero (v0 xi y i : Nat) : mvV v0 xi y i 0 = v0 := by simp [mvV, Nat.mod_one]
theorem mvC_zero (v0 xi y i : Nat) : mvC v0 xi y i 0 = 0 := by simp [mvC, mvV_zero]
theorem mvV_succ (v0 xi y i k : Nat) : mvV v0 xi y i (k + 1) = mvV v0 xi y i k + xi * lm y k * 4294967296 ^ (i + k) := by
  unfold mvV
  rw [mod_step, Nat.pow_add, Nat.mul_add, Nat.add_mul, ← Nat.add_assoc]
  congr 1
  rw [Nat.mul_comm (4294967296 ^ k), ← Nat.mul_assoc, Nat.mul_assoc, Nat.mul_comm (4294967296 ^ k)]
theorem mv_div (v0 xi y i k : Nat) : mvV v0 xi y i (k + 1) / 4294967296 ^ (i + k) = mvN v0 xi y i k + 4294967296 * (v0 / 4294967296 ^ (i + k + 1)) := by
  have h1 : v0 / 4294967296 ^ (i + k) ≤ mvV v0 xi y i k / 4294967296 ^ (i + k) := Nat.div_le_div_right (by unfold mvV; omega)
  rw [mvV_succ, Nat.add_mul_div_right _ _ (pB _)]
  unfold mvN mvC
  have h2 := div_step v0 (i + k)
  omega
theorem mv_limb (v0 xi y i k : Nat) : lm (mvV v0 xi y i (k + 1)) (i + k) = mvN v0 xi y i k % 4294967296 := by
  unfold lm; rw [mv_div]; omega
theorem mv_carry (v0 xi y i k : Nat) : mvC v0 xi y i (k + 1) = mvN v0 xi y i k / 4294967296 := by
  have e : i + (k + 1) = i + k + 1 := by omega
  unfold mvC
  rw [e, Nat.pow_succ, ← Nat.div_div_eq_div_mul, mv_div, ← Nat.div_div_eq_div_mul, Nat.pow_succ, ← Nat.div_div_eq_div_mul]
  omega
theorem mv_low {v0 xi y i k j : Nat} (h : j < i + k) : lm (mvV v0 xi y i (k + 1)) j = lm (mvV v0 xi y i k) j := by
  rw [mvV_succ, lm_add_mul h]
theorem mv_bound {v0 xi y i k : Nat} (hx : xi < 4294967296) (hc : mvC v0 xi y i k < 4294967296) : mvN v0 xi y i k < 18446744073709551616 ∧ mvC v0 xi y i (k + 1) < 4294967296 := by
  have h1 := lm_lt y k
  have h2 := lm_lt v0 (i + k)
  have h3 : xi * lm y k ≤ 4294967295 * 4294967295 := Nat.mul_le_mul (by omega) (by omega)
  rw [mv_carry]
  have hN : mvN v0 xi y i k < 18446744073709551616 := by unfold mvN; omega
  exact ⟨hN, by omega⟩
theorem mv_row {x y i ky : Nat} (hy : y < 4294967296 ^ ky) : mvV (x % 4294967296 ^ i * y) (lm x i) y i ky = x % 4294967296 ^ (i + 1) * y := by
  unfold mvV
  rw [Nat.mod_eq_of_lt hy, mod_step, Nat.add_mul]
  congr 1
  rw [Nat.mul_comm, Nat.mul_assoc]
theorem mv_rowlt {x y i ky : Nat} (hy : y < 4294967296 ^ ky) : x % 4294967296 ^ i * y < 4294967296 ^ (i + ky) := by
  rw [Nat.pow_add]
  exact Nat.mul_lt_mul'' (Nat.mod_lt _ (pB _)) hy
theorem mv_top {x y i ky : Nat} (hy : y < 4294967296 ^ ky) : mvC (x % 4294967296 ^ i * y) (lm x i) y i ky = lm (x % 4294967296 ^ (i + 1) * y) (i + ky) := by
  unfold mvC
  rw [mv_row hy, Nat.div_eq_of_lt (mv_rowlt hy), Nat.sub_zero, lm_top]
  have := mv_rowlt (x := x) (i := i + 1) hy
  rw [show i + ky + 1 = i + 1 + ky by omega]; exact this
theorem sh_rest (n d i : Nat) : n / 4294967296 ^ i % d = (n / 4294967296 ^ (i + 1) % d * 4294967296 + lm n i) % d := by
  rw [div_step n i]
  generalize n / 4294967296 ^ (i + 1) = Q
  have : (Q * 4294967296) % d = (Q % d * 4294967296) % d := by rw [Nat.mul_mod, Nat.mul_mod (Q % d) 4294967296, Nat.mod_mod]
  rw [Nat.mul_comm 4294967296, Nat.add_mod, this, ← Nat.add_mod]
theorem sh_quo {n d i : Nat} (hd : 0 < d) : lm (n / d) i = (n / 4294967296 ^ (i + 1) % d * 4294967296 + lm n i) / d ∧ (n / 4294967296 ^ (i + 1) % d * 4294967296 + lm n i) / d < 4294967296 := by
  have hr := Nat.mod_lt (n / 4294967296 ^ (i + 1)) hd
  have hl := lm_lt n i
  have e0 : lm (n / d) i = n / 4294967296 ^ i / d % 4294967296 := by
    unfold lm; rw [Nat.div_div_eq_div_mul, Nat.mul_comm d, ← Nat.div_div_eq_div_mul]
  rw [e0, div_step n i]
  generalize lm n i = l at *
  have hd1 := Nat.div_add_mod (n / 4294967296 ^ (i + 1)) d
  generalize n / 4294967296 ^ (i + 1) = Q at *
  have hz : (Q % d * 4294967296 + l) / d < 4294967296 := by
    rw [Nat.div_lt_iff_lt_mul hd]
    have : (Q % d + 1) * 4294967296 ≤ d * 4294967296 := Nat.mul_le_mul_right _ hr
    rw [Nat.add_mul] at this
    rw [Nat.mul_comm _ d]
    omega
  have e : 4294967296 * Q + l = d * (4294967296 * (Q / d)) + (Q % d * 4294967296 + l) := by
    conv => lhs; rw [← hd1]
    rw [Nat.mul_add, ← Nat.mul_assoc, ← Nat.mul_assoc, Nat.mul_comm d 4294967296]; omega
  refine ⟨?_, hz⟩
  rw [e, Nat.mul_add_div hd, Nat.mul_add_mod, Nat.mod_eq_of_lt hz]
theorem shl_limb {n s i : Nat} (hs : s < 32) :
    (∀ j, lm (n % 4294967296 ^ (i + 1) * 2 ^ s) j = if j = i + 1 then lm n i * 2 ^ s / 4294967296 else if j = i then lm (n % 4294967296 ^ i * 2 ^ s) i + lm n i * 2 ^ s % 4294967296 else lm (n % 4294967296 ^ i * 2 ^ s) j) ∧
    lm (n % 4294967296 ^ i * 2 ^ s) i < 2 ^ s ∧ lm n i * 2 ^ s % 4294967296 = (lm n i * 2 ^ s % 4294967296) / 2 ^ s * 2 ^ s ∧ lm (n % 4294967296 ^ i * 2 ^ s) i + lm n i * 2 ^ s % 4294967296 < 4294967296 := by
  have hS : 4294967296 = 2 ^ (32 - s) * 2 ^ s := by rw [← Nat.pow_add, show 32 - s + s = 32 by omega]
  have hS0 : 0 < 2 ^ s := Nat.pow_pos (by omega)
  have hm := Nat.mod_lt n (pB i)
  have hx := lm_lt n i
  have e0 : lm n i * 2 ^ s % 4294967296 = lm n i % 2 ^ (32 - s) * 2 ^ s := by
    conv => lhs; rw [hS]
    rw [Nat.mul_mod_mul_right]
  have hT : 2 ^ s ≤ 4294967296 := by conv => rhs; rw [hS]
                                     exact Nat.le_mul_of_pos_left _ (Nat.pow_pos (by omega))
  have hlo : n % 4294967296 ^ i * 2 ^ s < 4294967296 ^ i * 2 ^ s := Nat.mul_lt_mul_of_pos_right hm hS0
  have hlo1 : n % 4294967296 ^ i * 2 ^ s < 4294967296 ^ (i + 1) := by rw [Nat.pow_succ]; exact Nat.lt_of_lt_of_le hlo (Nat.mul_le_mul_left _ hT)
  have h1 : lm (n % 4294967296 ^ i * 2 ^ s) i < 2 ^ s := by
    rw [lm_top hlo1]; exact Nat.div_lt_of_lt_mul hlo
  have h2 : lm n i % 2 ^ (32 - s) * 2 ^ s + 2 ^ s ≤ 4294967296 := by
    have := Nat.mul_le_mul_right (2 ^ s) (Nat.mod_lt (lm n i) (Nat.pow_pos (n := 32 - s) (show 0 < 2 by omega)))
    rw [Nat.succ_mul, ← hS] at this
    exact this
  refine ⟨fun j => ?_, h1, ?_, ?_⟩
  · have e : n % 4294967296 ^ (i + 1) * 2 ^ s = n % 4294967296 ^ i * 2 ^ s + lm n i * 2 ^ s * 4294967296 ^ i := by
      rw [mod_step, Nat.add_mul, Nat.mul_assoc, Nat.mul_comm (4294967296 ^ i)]
    have ediv : (n % 4294967296 ^ i * 2 ^ s + lm n i * 2 ^ s * 4294967296 ^ i) / 4294967296 ^ i = lm (n % 4294967296 ^ i * 2 ^ s) i + lm n i * 2 ^ s := by
      rw [Nat.add_mul_div_right _ _ (pB i), lm_top hlo1]
    rw [e]
    rcases Nat.lt_trichotomy j i with g | g | g
    · rw [if_neg (by omega), if_neg (by omega), lm_add_mul g]
    · subst g
      rw [if_neg (by omega), if_pos rfl]
      have e9 : ∀ W, lm W j = W / 4294967296 ^ j % 4294967296 := fun W => rfl
      rw [e9, ediv]
      have : lm (n % 4294967296 ^ j * 2 ^ s) j + lm n j * 2 ^ s % 4294967296 < 4294967296 := by rw [e0]; omega
      omega
    · by_cases g2 : j = i + 1
      · rw [if_pos g2, g2]
        have e9 : ∀ W, lm W (i + 1) = W / 4294967296 ^ i / 4294967296 % 4294967296 := fun W => by unfold lm; rw [Nat.pow_succ, ← Nat.div_div_eq_div_mul]
        rw [e9, ediv]
        have q1 : lm n i * 2 ^ s < 4294967296 * 4294967296 := Nat.mul_lt_mul_of_lt_of_le hx hT (by omega)
        have q2 : lm n i * 2 ^ s % 4294967296 + 2 ^ s ≤ 4294967296 := by rw [e0]; exact h2
        omega
      · rw [if_neg g2, if_neg (by omega)]
        have hhi : n % 4294967296 ^ i * 2 ^ s + lm n i * 2 ^ s * 4294967296 ^ i < 4294967296 ^ (i + 2) := by
          have e8 : 4294967296 ^ (i + 2) = 4294967296 ^ (i + 1) * 4294967296 := Nat.pow_succ _ _
          rw [← e, e8]
          exact Nat.mul_lt_mul_of_lt_of_le (Nat.mod_lt _ (pB _)) hT (by omega)
        rw [lm_of_lt' hhi (by omega), lm_of_lt' hlo1 (by omega)]
  · rw [e0, Nat.mul_div_cancel _ hS0]
  · rw [e0]; omega
theorem shr_limb {n s i : Nat} (hs : s < 32) : lm (n / 2 ^ s) i = (lm n i + lm n (i + 1) * 4294967296) / 2 ^ s % 4294967296 := by
  have e : n / 4294967296 ^ i = 4294967296 * 4294967296 * (n / 4294967296 ^ (i + 2)) + (lm n i + lm n (i + 1) * 4294967296) := by
    have h1 := div_step n i
    have h2 := div_step n (i + 1)
    rw [show i + 2 = i + 1 + 1 from rfl]
    omega
  have hS : 4294967296 = 2 ^ s * 2 ^ (32 - s) := by rw [← Nat.pow_add, show s + (32 - s) = 32 by omega]
  have hS0 : 0 < 2 ^ s := Nat.pow_pos (by omega)
  have e0 : lm (n / 2 ^ s) i = n / 4294967296 ^ i / 2 ^ s % 4294967296 := by
    unfold lm; rw [Nat.div_div_eq_div_mul, Nat.mul_comm, ← Nat.div_div_eq_div_mul]
  rw [e0, e]
  have e2 : 4294967296 * 4294967296 * (n / 4294967296 ^ (i + 2)) = 2 ^ s * (4294967296 * (2 ^ (32 - s) * (n / 4294967296 ^ (i + 2)))) := by
    rw [← Nat.mul_assoc, ← Nat.mul_assoc, Nat.mul_comm (2 ^ s), Nat.mul_assoc 4294967296 (2 ^ s), ← hS]
  rw [e2, Nat.mul_add_div hS0, Nat.mul_add_mod]
end Go.Eng
end
section
set_option linter.unusedVariables false
set_option linter.unusedSimpArgs false
set_option linter.unusedSectionVars false
set_option maxRecDepth 4000
namespace Go.Eng
open Go Go.Proofs Go.IntWalk
def spNMul : List Value → Option Value
  | [.string ⟨⟨l⟩⟩, .string ⟨⟨m⟩⟩] => if l.length ≤ 34359738368 ∧ m.length ≤ 34359738368 then some (.string ⟨⟨bl (nl l * nl m)⟩⟩) else none
  | _ => none
def c81 : ICode :=
  (.seq (.reg [⟨(some 4), none, (.mv (.c (.string ⟨⟨[]⟩⟩)))⟩])
  (.seq (.reg [⟨(some 12), none, (.mv (.t 0))⟩, ⟨(some 13), none, (.call 110 [(.t 12)])⟩, ⟨(some 14), none, (.mv (.t 1))⟩, ⟨(some 15), none, (.call 110 [(.t 14)])⟩, ⟨(some 5), none, (.mv (.t 13))⟩, ⟨(some 6), none, (.mv (.t 15))⟩])
  (.seq (.reg [⟨(some 16), none, (.mv (.t 5))⟩, ⟨(some 17), none, (.lensl (.t 16))⟩, ⟨(some 18), none, (.mv (.t 6))⟩, ⟨(some 19), none, (.lensl (.t 18))⟩, ⟨(some 20), none, (.bin .add (.t 17) (.t 19))⟩, ⟨(some 21), none, (.mkslice 118 1 4 [(.int .u32 0)] (.t 20) (.t 20))⟩, ⟨(some 7), none, (.mv (.t 21))⟩])
  (.seq (.seq (.reg [⟨(some 22), none, (.mv (.t 5))⟩, ⟨(some 23), none, (.lensl (.t 22))⟩, ⟨(some 24), none, (.mv (.c (.int .i64 0)))⟩])
  (.block 0 (.loop (.seq (.reg [⟨(some 25), none, (.bin .lss (.t 24) (.t 23))⟩])
  (.seq (.cond (.t 25)
  .skip
  (.exit 0))
  (.seq (.block 1 (.seq (.reg [⟨(some 26), none, (.mv (.t 24))⟩, ⟨(some 8), none, (.mv (.t 26))⟩])
  (.seq (.reg [⟨(some 9), none, (.mv (.c (.int .u64 0)))⟩])
  (.seq (.seq (.reg [⟨(some 27), none, (.mv (.t 6))⟩, ⟨(some 28), none, (.lensl (.t 27))⟩, ⟨(some 29), none, (.mv (.c (.int .i64 0)))⟩])
  (.block 2 (.loop (.seq (.reg [⟨(some 30), none, (.bin .lss (.t 29) (.t 28))⟩])
  (.seq (.cond (.t 30)
  .skip
  (.exit 2))
  (.seq (.block 3 (.seq (.reg [⟨(some 31), none, (.mv (.t 29))⟩, ⟨(some 10), none, (.mv (.t 31))⟩])
  (.seq (.dreg [⟨(some 32), none, [], (.mv (.t 5))⟩, ⟨(some 33), none, [], (.mv (.t 8))⟩, ⟨(some 34), none, [], (.ixsl 1 (.t 32) (.t 33))⟩, ⟨(some 35), none, [], (.load false 1 (.t 34))⟩, ⟨(some 36), none, [], (.conv .u64 (.t 35))⟩, ⟨(some 37), none, [], (.mv (.t 6))⟩, ⟨(some 38), none, [], (.mv (.t 10))⟩, ⟨(some 39), none, [], (.ixsl 1 (.t 37) (.t 38))⟩, ⟨(some 40), none, [], (.load false 1 (.t 39))⟩, ⟨(some 41), none, [], (.conv .u64 (.t 40))⟩, ⟨(some 42), none, [], (.bin .mul (.t 36) (.t 41))⟩, ⟨(some 43), none, [], (.mv (.t 7))⟩, ⟨(some 44), none, [], (.mv (.t 8))⟩, ⟨(some 45), none, [], (.mv (.t 10))⟩, ⟨(some 46), none, [], (.bin .add (.t 44) (.t 45))⟩, ⟨(some 47), none, [], (.ixsl 1 (.t 43) (.t 46))⟩, ⟨(some 48), none, [], (.load false 1 (.t 47))⟩, ⟨(some 49), none, [], (.conv .u64 (.t 48))⟩, ⟨(some 50), none, [], (.bin .add (.t 42) (.t 49))⟩, ⟨(some 51), none, [], (.mv (.t 9))⟩, ⟨(some 52), none, [], (.bin .add (.t 50) (.t 51))⟩, ⟨(some 11), none, [], (.mv (.t 52))⟩])
  (.reg [⟨(some 53), none, (.mv (.t 7))⟩, ⟨(some 54), none, (.mv (.t 8))⟩, ⟨(some 55), none, (.mv (.t 10))⟩, ⟨(some 56), none, (.bin .add (.t 54) (.t 55))⟩, ⟨(some 57), none, (.mv (.t 11))⟩, ⟨(some 58), none, (.conv .u32 (.t 57))⟩, ⟨(some 59), none, (.mv (.t 11))⟩, ⟨(some 60), none, (.bin .shr (.t 59) (.c (.int .u64 32)))⟩, ⟨(some 61), none, (.ixsl 1 (.t 53) (.t 56))⟩, ⟨none, none, (.store 1 (.t 61) (.t 58))⟩, ⟨(some 9), none, (.mv (.t 60))⟩]))))
  (.reg [⟨(some 62), none, (.bin .add (.t 29) (.c (.int .i64 1)))⟩, ⟨(some 29), none, (.mv (.t 62))⟩])))))))
  (.reg [⟨(some 63), none, (.mv (.t 7))⟩, ⟨(some 64), none, (.mv (.t 8))⟩, ⟨(some 65), none, (.mv (.t 6))⟩, ⟨(some 66), none, (.lensl (.t 65))⟩, ⟨(some 67), none, (.bin .add (.t 64) (.t 66))⟩, ⟨(some 68), none, (.mv (.t 9))⟩, ⟨(some 69), none, (.conv .u32 (.t 68))⟩, ⟨(some 70), none, (.ixsl 1 (.t 63) (.t 67))⟩, ⟨none, none, (.store 1 (.t 70) (.t 69))⟩])))))
  (.reg [⟨(some 71), none, (.bin .add (.t 24) (.c (.int .i64 1)))⟩, ⟨(some 24), none, (.mv (.t 71))⟩])))))))
  (.seq (.reg [⟨(some 72), none, (.mv (.t 7))⟩, ⟨(some 73), none, (.call 113 [(.t 72)])⟩, ⟨(some 4), none, (.mv (.t 73))⟩])
  .ret)))))
theorem tr81 : trFun Tryz.prog 81 = some ⟨74, [.t 4], c81⟩ := by kernel_rfl
set_option maxHeartbeats 1000000 in
theorem ok_nMul : SpecOK Tryz.prog 81 (flat spNMul) := by
  refine flat_run (env_cons ok_nlimbs (env_cons ok_nmag (env_nil _))) mixed tr81 ?_
  intro args v h N hG
  unfold spNMul at hG
  split at hG
  case h_2 => cases hG
  rename_i l m
  split at hG
  case isFalse => cases hG
  rename_i hl
  obtain ⟨hl, hm⟩ := hl
  cases hG
  refine ⟨rfl, by simp, ?_⟩
  have hL : lk (nl l) ≤ 8589934592 := lk_len (Nat.le_trans (bl_length_nl l) (by omega))
  have hM : lk (nl m) ≤ 8589934592 := lk_len (Nat.le_trans (bl_length_nl m) (by omega))
  have hl' : l.length ≤ 1099511627776 := by omega
  have hm' : m.length ≤ 1099511627776 := by omega
  have hx := lk_lt (nl l)
  have hy := lk_lt (nl m)
  generalize ha : nl l = x at *
  generalize hb : nl m = y at *
  have g1 : IntKind.i64.wrap ((lk x : Int) + (lk y : Int)) = ((lk x + lk y : Nat) : Int) := by rw [i64_in _ (by omega)]; omega
  have g2 : 4 * ((lk x + lk y : Nat) : Int) ≤ 281474976710656 := by omega
  have g3 : ((lk x + lk y : Nat) : Int) ≤ 9223372036854775807 := by omega
  simp only [c81, initT, List.zipIdx_cons, List.zipIdx_nil, List.map_cons, List.map_nil, Nat.reduceAdd]
  simp only [↓R0, R1, rdL, rdH, isCall, istep, ibin, vcells, fillI, setR, flat, okCell, isBase, List.set, List.drop, List.take, List.append, bnds, bhi, blo, srcOf, ↓reduceIte, Nat.reduceEqDiff, Nat.reduceAdd, Nat.reduceLeDiff, reduceCtorEq, Nat.reduceSub, Int.reduceEq, Int.reduceLT, Int.reduceLE, Int.reduceGT, Int.reduceGE, Int.reduceSub, Int.reduceAdd, Int.reduceMul, Int.reduceNe, Int.reduceNeg, Int.reduceToNat, Nat.reduceMul, nwS, spLimbs, hl', hm', ha, hb, g1, g2, g3, tb_rep]
  clear g1 g2 g3
  generalize hkx : lk x = kx at *
  generalize hky : lk y = ky at *
  refine lp_parts (fun m tm hp nx => ∃ (i : Nat), m + i = kx ∧ tmget tm 5 = .slice (some ⟨N + 0, 0, none⟩) kx kx ∧ tmget tm 6 = .slice (some ⟨N + 1, 0, none⟩) ky ky ∧
      tmget tm 7 = .slice (some ⟨N + 2, 0, none⟩) (kx + ky) (kx + ky) ∧ tmget tm 23 = .int .i64 kx ∧ tmget tm 24 = .int .i64 i ∧
      hget hp (N + 0) = some ⟨118, 1, false, tb kx (lm x)⟩ ∧ hget hp (N + 1) = some ⟨118, 1, false, tb ky (lm y)⟩ ∧
      hget hp (N + 2) = some ⟨118, 1, false, tb (kx + ky) (lm (x % 4294967296 ^ i * y))⟩ ∧ (∀ q, q < N → hget hp q = hget h q) ∧ nx = N + 3) ?_ kx
    ⟨0, by omega, ?_, ?_, ?_, ?_, ?_, ?_, ?_, ?_, ?_, rfl⟩
  · intro m tm hp nx ⟨i, hm, h5, h6, h7, h23, h24, hb1, hb2, hb3, hh, hnx⟩
    subst hnx
    by_cases c1 : i < kx
    · have ex : IntKind.i64.wrap ((i : Int) + 1) = ((i + 1 : Nat) : Int) := by rw [i64_in _ (by omega)]; omega
      simp only [↓R0, R1, rdL, rdH, isCall, istep, ibin, vcells, fillI, setR, flat, okCell, isBase, List.set, List.drop, List.take, List.append, bnds, bhi, blo, srcOf, ↓reduceIte, Nat.reduceEqDiff, Nat.reduceAdd, Nat.reduceLeDiff, reduceCtorEq, Nat.reduceSub, Int.reduceEq, Int.reduceLT, Int.reduceLE, Int.reduceGT, Int.reduceGE, Int.reduceSub, Int.reduceAdd, Int.reduceMul, Int.reduceNe, Int.reduceNeg, Int.reduceToNat, Nat.reduceMul, h5, h6, h7, h23, h24, hb1, hb2, hb3, c1]
      refine lp_parts (fun m2 tm hp nx => ∃ (k : Nat) (f : Nat → Nat), m2 + k = ky ∧ tmget tm 5 = .slice (some ⟨N + 0, 0, none⟩) kx kx ∧ tmget tm 6 = .slice (some ⟨N + 1, 0, none⟩) ky ky ∧
        tmget tm 7 = .slice (some ⟨N + 2, 0, none⟩) (kx + ky) (kx + ky) ∧ tmget tm 23 = .int .i64 kx ∧ tmget tm 24 = .int .i64 i ∧ tmget tm 8 = .int .i64 i ∧ tmget tm 28 = .int .i64 ky ∧ tmget tm 29 = .int .i64 k ∧
        tmget tm 9 = .int .u64 (mvC (x % 4294967296 ^ i * y) (lm x i) y i k : Nat) ∧ mvC (x % 4294967296 ^ i * y) (lm x i) y i k < 4294967296 ∧
        hget hp (N + 0) = some ⟨118, 1, false, tb kx (lm x)⟩ ∧ hget hp (N + 1) = some ⟨118, 1, false, tb ky (lm y)⟩ ∧
        hget hp (N + 2) = some ⟨118, 1, false, tb (kx + ky) f⟩ ∧ (∀ j, f j = if j < i + k then lm (mvV (x % 4294967296 ^ i * y) (lm x i) y i k) j else lm (x % 4294967296 ^ i * y) j) ∧
        (∀ q, q < N → hget hp q = hget h q) ∧ nx = N + 3) ?_ ky
        ⟨0, _, by omega, ?_, ?_, ?_, ?_, ?_, ?_, ?_, ?_, ?_, ?_, hb1, hb2, hb3, fun j => ?_, hh, rfl⟩
      · clear h5 h6 h7 h23 h24 hb1 hb2 hb3 hh
        clear tm hp
        intro m2 tm hp nx ⟨k, f, hm2, h5, h6, h7, h23, h24, h8, h28, h29, h9, hc, hb1, hb2, hb3, hf, hh, hnx⟩
        subst hnx
        by_cases c2 : k < ky
        · obtain ⟨hN, hc'⟩ := mv_bound (v0 := x % 4294967296 ^ i * y) (y := y) (i := i) (k := k) (lm_lt x i) hc
          have hfk : f (i + k) = lm (x % 4294967296 ^ i * y) (i + k) := by rw [hf, if_neg (by omega)]
          have hNd : mvN (x % 4294967296 ^ i * y) (lm x i) y i k = lm x i * lm y k + f (i + k) + mvC (x % 4294967296 ^ i * y) (lm x i) y i k := by rw [hfk]; rfl
          have hcar := mv_carry (x % 4294967296 ^ i * y) (lm x i) y i k
          have hlim := mv_limb (x % 4294967296 ^ i * y) (lm x i) y i k
          have hlow : ∀ j, j < i + k → lm (mvV (x % 4294967296 ^ i * y) (lm x i) y i (k + 1)) j = lm (mvV (x % 4294967296 ^ i * y) (lm x i) y i k) j := fun j h => mv_low h
          generalize hC : mvC (x % 4294967296 ^ i * y) (lm x i) y i k = C at *
          generalize hNN : mvN (x % 4294967296 ^ i * y) (lm x i) y i k = W at *
          have bx := lm_lt x i
          have b_y := lm_lt y k
          have bf : f (i + k) < 4294967296 := by rw [hfk]; exact lm_lt _ _
          have bxy : lm x i * lm y k ≤ 4294967295 * 4294967295 := Nat.mul_le_mul (by omega) (by omega)
          have w1 := u64_nat (n := lm x i) (by omega)
          have w2 := u64_nat (n := lm y k) (by omega)
          have w3 := u64_nat (n := f (i + k)) (by omega)
          have w4 : IntKind.u64.wrap ((lm x i : Int) * (lm y k : Int)) = ((lm x i * lm y k : Nat) : Int) := by rw [← Int.natCast_mul, u64_nat (by omega)]
          have w5 : IntKind.u64.wrap (((lm x i * lm y k : Nat) : Int) + (f (i + k) : Int)) = ((lm x i * lm y k + f (i + k) : Nat) : Int) := by rw [← Int.natCast_add, u64_nat (by omega)]
          have w6 : IntKind.u64.wrap (((lm x i * lm y k + f (i + k) : Nat) : Int) + (C : Int)) = (W : Int) := by rw [← Int.natCast_add, hNd, u64_nat (by omega)]
          have w7 := u32_mod W
          have w8 : (W : Int).fdiv (2 ^ min 32 IntKind.u64.bits) = ((W / 4294967296 : Nat) : Int) := by
            have : (2 : Int) ^ min 32 IntKind.u64.bits = 4294967296 := rfl
            rw [this, Int.fdiv_eq_ediv_of_nonneg _ (by omega)]; omega
          have e1 : IntKind.i64.wrap ((i : Int) + (k : Int)) = ((i + k : Nat) : Int) := by rw [i64_in _ (by omega)]; omega
          have e2 : IntKind.i64.wrap ((k : Int) + 1) = ((k + 1 : Nat) : Int) := by rw [i64_in _ (by omega)]; omega
          have k1 := tb_get' (lm x) c1
          have k2 := tb_get' (lm y) c2
          have c3 : i + k < kx + ky := by omega
          have c3' : i + k + 1 ≤ kx + ky := by omega
          have k3 := tb_get' f c3
          simp only [↓R0, R1, rdL, rdH, isCall, istep, ibin, vcells, fillI, setR, flat, okCell, isBase, List.set, List.drop, List.take, List.append, bnds, bhi, blo, srcOf, ↓reduceIte, Nat.reduceEqDiff, Nat.reduceAdd, Nat.reduceLeDiff, reduceCtorEq, Nat.reduceSub, Int.reduceEq, Int.reduceLT, Int.reduceLE, Int.reduceGT, Int.reduceGE, Int.reduceSub, Int.reduceAdd, Int.reduceMul, Int.reduceNe, Int.reduceNeg, Int.reduceToNat, Nat.reduceMul, h5, h6, h7, h23, h24, h8, h28, h29, h9, hb1, hb2, hb3, c1, c2, c3, c3', k1, k2, k3, w1, w2, w3, w4, w5, w6, w7, w8, e1, e2, tb_length, tb_set]
          refine ⟨m2 - 1, by omega, k + 1, _, by omega, rfl, ?_, ?_, rfl, fun j => ?_, ?_⟩
          · rw [hcar]
          · exact hc'
          · by_cases g : j = i + k
            · rw [if_pos g, if_pos (by omega), g, hlim]
            · rw [if_neg g, hf j]
              by_cases g2 : j < i + k
              · rw [if_pos g2, if_pos (by omega), hlow j g2]
              · rw [if_neg g2, if_neg (by omega)]
          · intro q hq
            simp only [if_neg (show ¬ N + 2 = q by omega)]
            exact hh q hq
        · have ek : k = ky := by omega
          subst ek
          have hy' : y < 4294967296 ^ k := by rw [← hky]; exact lk_lt y
          have w1 := u32_nat hc
          have e1 : IntKind.i64.wrap ((i : Int) + (k : Int)) = ((i + k : Nat) : Int) := by rw [i64_in _ (by omega)]; omega
          have c3 : i + k < kx + k := by omega
          have c3' : i + k + 1 ≤ kx + k := by omega
          simp only [↓R0, R1, rdL, rdH, isCall, istep, ibin, vcells, fillI, setR, flat, okCell, isBase, List.set, List.drop, List.take, List.append, bnds, bhi, blo, srcOf, ↓reduceIte, Nat.reduceEqDiff, Nat.reduceAdd, Nat.reduceLeDiff, reduceCtorEq, Nat.reduceSub, Int.reduceEq, Int.reduceLT, Int.reduceLE, Int.reduceGT, Int.reduceGE, Int.reduceSub, Int.reduceAdd, Int.reduceMul, Int.reduceNe, Int.reduceNeg, Int.reduceToNat, Nat.reduceMul, h5, h6, h7, h23, h24, h8, h28, h29, h9, hb1, hb2, hb3, c1, c2, c3, c3', w1, e1, ex, tb_length, tb_set]
          refine ⟨m - 1, by omega, i + 1, by omega, rfl, ?_, ?_⟩
          · congr 2
            apply tb_congr
            intro j hj
            by_cases g : j = i + k
            · rw [if_pos g, mv_top hy', g]
            · rw [if_neg g, hf j]
              by_cases g2 : j < i + k
              · rw [if_pos g2, mv_row hy']
              · rw [if_neg g2, lm_of_lt' (mv_rowlt hy') (by omega), lm_of_lt' (mv_rowlt hy') (by omega)]
          · intro q hq
            simp only [if_neg (show ¬ N + 2 = q by omega)]
            exact hh q hq
      · (first | (simp only [↓R0, R1, rdL, rdH, isCall, istep, ibin, vcells, fillI, setR, flat, okCell, isBase, List.set, List.drop, List.take, List.append, bnds, bhi, blo, srcOf, ↓reduceIte, Nat.reduceEqDiff, Nat.reduceAdd, Nat.reduceLeDiff, reduceCtorEq, Nat.reduceSub, Int.reduceEq, Int.reduceLT, Int.reduceLE, Int.reduceGT, Int.reduceGE, Int.reduceSub, Int.reduceAdd, Int.reduceMul, Int.reduceNe, Int.reduceNeg, Int.reduceToNat, Nat.reduceMul, h5]; done) | (simp only [↓R0, R1, rdL, rdH, isCall, istep, ibin, vcells, fillI, setR, flat, okCell, isBase, List.set, List.drop, List.take, List.append, bnds, bhi, blo, srcOf, ↓reduceIte, Nat.reduceEqDiff, Nat.reduceAdd, Nat.reduceLeDiff, reduceCtorEq, Nat.reduceSub, Int.reduceEq, Int.reduceLT, Int.reduceLE, Int.reduceGT, Int.reduceGE, Int.reduceSub, Int.reduceAdd, Int.reduceMul, Int.reduceNe, Int.reduceNeg, Int.reduceToNat, Nat.reduceMul, h5]; rfl) | rfl)
      · (first | (simp only [↓R0, R1, rdL, rdH, isCall, istep, ibin, vcells, fillI, setR, flat, okCell, isBase, List.set, List.drop, List.take, List.append, bnds, bhi, blo, srcOf, ↓reduceIte, Nat.reduceEqDiff, Nat.reduceAdd, Nat.reduceLeDiff, reduceCtorEq, Nat.reduceSub, Int.reduceEq, Int.reduceLT, Int.reduceLE, Int.reduceGT, Int.reduceGE, Int.reduceSub, Int.reduceAdd, Int.reduceMul, Int.reduceNe, Int.reduceNeg, Int.reduceToNat, Nat.reduceMul, h6]; done) | (simp only [↓R0, R1, rdL, rdH, isCall, istep, ibin, vcells, fillI, setR, flat, okCell, isBase, List.set, List.drop, List.take, List.append, bnds, bhi, blo, srcOf, ↓reduceIte, Nat.reduceEqDiff, Nat.reduceAdd, Nat.reduceLeDiff, reduceCtorEq, Nat.reduceSub, Int.reduceEq, Int.reduceLT, Int.reduceLE, Int.reduceGT, Int.reduceGE, Int.reduceSub, Int.reduceAdd, Int.reduceMul, Int.reduceNe, Int.reduceNeg, Int.reduceToNat, Nat.reduceMul, h6]; rfl) | rfl)
      · (first | (simp only [↓R0, R1, rdL, rdH, isCall, istep, ibin, vcells, fillI, setR, flat, okCell, isBase, List.set, List.drop, List.take, List.append, bnds, bhi, blo, srcOf, ↓reduceIte, Nat.reduceEqDiff, Nat.reduceAdd, Nat.reduceLeDiff, reduceCtorEq, Nat.reduceSub, Int.reduceEq, Int.reduceLT, Int.reduceLE, Int.reduceGT, Int.reduceGE, Int.reduceSub, Int.reduceAdd, Int.reduceMul, Int.reduceNe, Int.reduceNeg, Int.reduceToNat, Nat.reduceMul, h7]; done) | (simp only [↓R0, R1, rdL, rdH, isCall, istep, ibin, vcells, fillI, setR, flat, okCell, isBase, List.set, List.drop, List.take, List.append, bnds, bhi, blo, srcOf, ↓reduceIte, Nat.reduceEqDiff, Nat.reduceAdd, Nat.reduceLeDiff, reduceCtorEq, Nat.reduceSub, Int.reduceEq, Int.reduceLT, Int.reduceLE, Int.reduceGT, Int.reduceGE, Int.reduceSub, Int.reduceAdd, Int.reduceMul, Int.reduceNe, Int.reduceNeg, Int.reduceToNat, Nat.reduceMul, h7]; rfl) | rfl)
      · (first | (simp only [↓R0, R1, rdL, rdH, isCall, istep, ibin, vcells, fillI, setR, flat, okCell, isBase, List.set, List.drop, List.take, List.append, bnds, bhi, blo, srcOf, ↓reduceIte, Nat.reduceEqDiff, Nat.reduceAdd, Nat.reduceLeDiff, reduceCtorEq, Nat.reduceSub, Int.reduceEq, Int.reduceLT, Int.reduceLE, Int.reduceGT, Int.reduceGE, Int.reduceSub, Int.reduceAdd, Int.reduceMul, Int.reduceNe, Int.reduceNeg, Int.reduceToNat, Nat.reduceMul, h23]; done) | (simp only [↓R0, R1, rdL, rdH, isCall, istep, ibin, vcells, fillI, setR, flat, okCell, isBase, List.set, List.drop, List.take, List.append, bnds, bhi, blo, srcOf, ↓reduceIte, Nat.reduceEqDiff, Nat.reduceAdd, Nat.reduceLeDiff, reduceCtorEq, Nat.reduceSub, Int.reduceEq, Int.reduceLT, Int.reduceLE, Int.reduceGT, Int.reduceGE, Int.reduceSub, Int.reduceAdd, Int.reduceMul, Int.reduceNe, Int.reduceNeg, Int.reduceToNat, Nat.reduceMul, h23]; rfl) | rfl)
      · (first | (simp only [↓R0, R1, rdL, rdH, isCall, istep, ibin, vcells, fillI, setR, flat, okCell, isBase, List.set, List.drop, List.take, List.append, bnds, bhi, blo, srcOf, ↓reduceIte, Nat.reduceEqDiff, Nat.reduceAdd, Nat.reduceLeDiff, reduceCtorEq, Nat.reduceSub, Int.reduceEq, Int.reduceLT, Int.reduceLE, Int.reduceGT, Int.reduceGE, Int.reduceSub, Int.reduceAdd, Int.reduceMul, Int.reduceNe, Int.reduceNeg, Int.reduceToNat, Nat.reduceMul, h24]; done) | (simp only [↓R0, R1, rdL, rdH, isCall, istep, ibin, vcells, fillI, setR, flat, okCell, isBase, List.set, List.drop, List.take, List.append, bnds, bhi, blo, srcOf, ↓reduceIte, Nat.reduceEqDiff, Nat.reduceAdd, Nat.reduceLeDiff, reduceCtorEq, Nat.reduceSub, Int.reduceEq, Int.reduceLT, Int.reduceLE, Int.reduceGT, Int.reduceGE, Int.reduceSub, Int.reduceAdd, Int.reduceMul, Int.reduceNe, Int.reduceNeg, Int.reduceToNat, Nat.reduceMul, h24]; rfl) | rfl)
      · (first | (simp only [↓R0, R1, rdL, rdH, isCall, istep, ibin, vcells, fillI, setR, flat, okCell, isBase, List.set, List.drop, List.take, List.append, bnds, bhi, blo, srcOf, ↓reduceIte, Nat.reduceEqDiff, Nat.reduceAdd, Nat.reduceLeDiff, reduceCtorEq, Nat.reduceSub, Int.reduceEq, Int.reduceLT, Int.reduceLE, Int.reduceGT, Int.reduceGE, Int.reduceSub, Int.reduceAdd, Int.reduceMul, Int.reduceNe, Int.reduceNeg, Int.reduceToNat, Nat.reduceMul, h24]; done) | (simp only [↓R0, R1, rdL, rdH, isCall, istep, ibin, vcells, fillI, setR, flat, okCell, isBase, List.set, List.drop, List.take, List.append, bnds, bhi, blo, srcOf, ↓reduceIte, Nat.reduceEqDiff, Nat.reduceAdd, Nat.reduceLeDiff, reduceCtorEq, Nat.reduceSub, Int.reduceEq, Int.reduceLT, Int.reduceLE, Int.reduceGT, Int.reduceGE, Int.reduceSub, Int.reduceAdd, Int.reduceMul, Int.reduceNe, Int.reduceNeg, Int.reduceToNat, Nat.reduceMul, h24]; rfl) | rfl)
      · (first | (simp only [↓R0, R1, rdL, rdH, isCall, istep, ibin, vcells, fillI, setR, flat, okCell, isBase, List.set, List.drop, List.take, List.append, bnds, bhi, blo, srcOf, ↓reduceIte, Nat.reduceEqDiff, Nat.reduceAdd, Nat.reduceLeDiff, reduceCtorEq, Nat.reduceSub, Int.reduceEq, Int.reduceLT, Int.reduceLE, Int.reduceGT, Int.reduceGE, Int.reduceSub, Int.reduceAdd, Int.reduceMul, Int.reduceNe, Int.reduceNeg, Int.reduceToNat, Nat.reduceMul]; done) | (simp only [↓R0, R1, rdL, rdH, isCall, istep, ibin, vcells, fillI, setR, flat, okCell, isBase, List.set, List.drop, List.take, List.append, bnds, bhi, blo, srcOf, ↓reduceIte, Nat.reduceEqDiff, Nat.reduceAdd, Nat.reduceLeDiff, reduceCtorEq, Nat.reduceSub, Int.reduceEq, Int.reduceLT, Int.reduceLE, Int.reduceGT, Int.reduceGE, Int.reduceSub, Int.reduceAdd, Int.reduceMul, Int.reduceNe, Int.reduceNeg, Int.reduceToNat, Nat.reduceMul]; rfl) | rfl)
      · (first | (simp only [↓R0, R1, rdL, rdH, isCall, istep, ibin, vcells, fillI, setR, flat, okCell, isBase, List.set, List.drop, List.take, List.append, bnds, bhi, blo, srcOf, ↓reduceIte, Nat.reduceEqDiff, Nat.reduceAdd, Nat.reduceLeDiff, reduceCtorEq, Nat.reduceSub, Int.reduceEq, Int.reduceLT, Int.reduceLE, Int.reduceGT, Int.reduceGE, Int.reduceSub, Int.reduceAdd, Int.reduceMul, Int.reduceNe, Int.reduceNeg, Int.reduceToNat, Nat.reduceMul]; done) | (simp only [↓R0, R1, rdL, rdH, isCall, istep, ibin, vcells, fillI, setR, flat, okCell, isBase, List.set, List.drop, List.take, List.append, bnds, bhi, blo, srcOf, ↓reduceIte, Nat.reduceEqDiff, Nat.reduceAdd, Nat.reduceLeDiff, reduceCtorEq, Nat.reduceSub, Int.reduceEq, Int.reduceLT, Int.reduceLE, Int.reduceGT, Int.reduceGE, Int.reduceSub, Int.reduceAdd, Int.reduceMul, Int.reduceNe, Int.reduceNeg, Int.reduceToNat, Nat.reduceMul]; rfl) | rfl)
      · (first | (simp only [↓R0, R1, rdL, rdH, isCall, istep, ibin, vcells, fillI, setR, flat, okCell, isBase, List.set, List.drop, List.take, List.append, bnds, bhi, blo, srcOf, ↓reduceIte, Nat.reduceEqDiff, Nat.reduceAdd, Nat.reduceLeDiff, reduceCtorEq, Nat.reduceSub, Int.reduceEq, Int.reduceLT, Int.reduceLE, Int.reduceGT, Int.reduceGE, Int.reduceSub, Int.reduceAdd, Int.reduceMul, Int.reduceNe, Int.reduceNeg, Int.reduceToNat, Nat.reduceMul, mvC_zero]; done) | (simp only [↓R0, R1, rdL, rdH, isCall, istep, ibin, vcells, fillI, setR, flat, okCell, isBase, List.set, List.drop, List.take, List.append, bnds, bhi, blo, srcOf, ↓reduceIte, Nat.reduceEqDiff, Nat.reduceAdd, Nat.reduceLeDiff, reduceCtorEq, Nat.reduceSub, Int.reduceEq, Int.reduceLT, Int.reduceLE, Int.reduceGT, Int.reduceGE, Int.reduceSub, Int.reduceAdd, Int.reduceMul, Int.reduceNe, Int.reduceNeg, Int.reduceToNat, Nat.reduceMul, mvC_zero]; rfl) | rfl)
      · rw [mvC_zero]; omega
      · rw [mvV_zero]; simp
    · have ei : i = kx := by omega
      subst ei
      have hX : x % 4294967296 ^ i = x := Nat.mod_eq_of_lt hx
      have hxy : x * y < 4294967296 ^ (i + ky) := by rw [Nat.pow_add]; exact Nat.mul_lt_mul'' hx hy
      have hud : ud (tb (i + ky) (lm (x * y))) = x * y := by rw [ud_tb, Nat.mod_eq_of_lt hxy]
      have c5 : i + ky ≤ 34359738368 := by omega
      rw [hX] at hb3
      simp only [↓R0, R1, rdL, rdH, isCall, istep, ibin, vcells, fillI, setR, flat, okCell, isBase, List.set, List.drop, List.take, List.append, bnds, bhi, blo, srcOf, ↓reduceIte, Nat.reduceEqDiff, Nat.reduceAdd, Nat.reduceLeDiff, reduceCtorEq, Nat.reduceSub, Int.reduceEq, Int.reduceLT, Int.reduceLE, Int.reduceGT, Int.reduceGE, Int.reduceSub, Int.reduceAdd, Int.reduceMul, Int.reduceNe, Int.reduceNeg, Int.reduceToNat, Nat.reduceMul, h5, h6, h7, h23, h24, hb1, hb2, hb3, c1, tb_length, rdS, spMag, shows, tb_all, uok_lm, c5, hud, Fin, isEnd, resL, res1, iE, rE]
      first | exact ⟨_, rfl, rfl, hh⟩ | exact ⟨_, rfl, rfl, fun k hk => by simp only [ne_nb hk, if_false]; exact hh k hk⟩
  · (first | (simp only [↓R0, R1, rdL, rdH, isCall, istep, ibin, vcells, fillI, setR, flat, okCell, isBase, List.set, List.drop, List.take, List.append, bnds, bhi, blo, srcOf, ↓reduceIte, Nat.reduceEqDiff, Nat.reduceAdd, Nat.reduceLeDiff, reduceCtorEq, Nat.reduceSub, Int.reduceEq, Int.reduceLT, Int.reduceLE, Int.reduceGT, Int.reduceGE, Int.reduceSub, Int.reduceAdd, Int.reduceMul, Int.reduceNe, Int.reduceNeg, Int.reduceToNat, Nat.reduceMul]; done) | (simp only [↓R0, R1, rdL, rdH, isCall, istep, ibin, vcells, fillI, setR, flat, okCell, isBase, List.set, List.drop, List.take, List.append, bnds, bhi, blo, srcOf, ↓reduceIte, Nat.reduceEqDiff, Nat.reduceAdd, Nat.reduceLeDiff, reduceCtorEq, Nat.reduceSub, Int.reduceEq, Int.reduceLT, Int.reduceLE, Int.reduceGT, Int.reduceGE, Int.reduceSub, Int.reduceAdd, Int.reduceMul, Int.reduceNe, Int.reduceNeg, Int.reduceToNat, Nat.reduceMul]; rfl) | rfl)
  · (first | (simp only [↓R0, R1, rdL, rdH, isCall, istep, ibin, vcells, fillI, setR, flat, okCell, isBase, List.set, List.drop, List.take, List.append, bnds, bhi, blo, srcOf, ↓reduceIte, Nat.reduceEqDiff, Nat.reduceAdd, Nat.reduceLeDiff, reduceCtorEq, Nat.reduceSub, Int.reduceEq, Int.reduceLT, Int.reduceLE, Int.reduceGT, Int.reduceGE, Int.reduceSub, Int.reduceAdd, Int.reduceMul, Int.reduceNe, Int.reduceNeg, Int.reduceToNat, Nat.reduceMul]; done) | (simp only [↓R0, R1, rdL, rdH, isCall, istep, ibin, vcells, fillI, setR, flat, okCell, isBase, List.set, List.drop, List.take, List.append, bnds, bhi, blo, srcOf, ↓reduceIte, Nat.reduceEqDiff, Nat.reduceAdd, Nat.reduceLeDiff, reduceCtorEq, Nat.reduceSub, Int.reduceEq, Int.reduceLT, Int.reduceLE, Int.reduceGT, Int.reduceGE, Int.reduceSub, Int.reduceAdd, Int.reduceMul, Int.reduceNe, Int.reduceNeg, Int.reduceToNat, Nat.reduceMul]; rfl) | rfl)
  · (first | (simp only [↓R0, R1, rdL, rdH, isCall, istep, ibin, vcells, fillI, setR, flat, okCell, isBase, List.set, List.drop, List.take, List.append, bnds, bhi, blo, srcOf, ↓reduceIte, Nat.reduceEqDiff, Nat.reduceAdd, Nat.reduceLeDiff, reduceCtorEq, Nat.reduceSub, Int.reduceEq, Int.reduceLT, Int.reduceLE, Int.reduceGT, Int.reduceGE, Int.reduceSub, Int.reduceAdd, Int.reduceMul, Int.reduceNe, Int.reduceNeg, Int.reduceToNat, Nat.reduceMul]; done) | (simp only [↓R0, R1, rdL, rdH, isCall, istep, ibin, vcells, fillI, setR, flat, okCell, isBase, List.set, List.drop, List.take, List.append, bnds, bhi, blo, srcOf, ↓reduceIte, Nat.reduceEqDiff, Nat.reduceAdd, Nat.reduceLeDiff, reduceCtorEq, Nat.reduceSub, Int.reduceEq, Int.reduceLT, Int.reduceLE, Int.reduceGT, Int.reduceGE, Int.reduceSub, Int.reduceAdd, Int.reduceMul, Int.reduceNe, Int.reduceNeg, Int.reduceToNat, Nat.reduceMul]; rfl) | rfl)
  · (first | (simp only [↓R0, R1, rdL, rdH, isCall, istep, ibin, vcells, fillI, setR, flat, okCell, isBase, List.set, List.drop, List.take, List.append, bnds, bhi, blo, srcOf, ↓reduceIte, Nat.reduceEqDiff, Nat.reduceAdd, Nat.reduceLeDiff, reduceCtorEq, Nat.reduceSub, Int.reduceEq, Int.reduceLT, Int.reduceLE, Int.reduceGT, Int.reduceGE, Int.reduceSub, Int.reduceAdd, Int.reduceMul, Int.reduceNe, Int.reduceNeg, Int.reduceToNat, Nat.reduceMul]; done) | (simp only [↓R0, R1, rdL, rdH, isCall, istep, ibin, vcells, fillI, setR, flat, okCell, isBase, List.set, List.drop, List.take, List.append, bnds, bhi, blo, srcOf, ↓reduceIte, Nat.reduceEqDiff, Nat.reduceAdd, Nat.reduceLeDiff, reduceCtorEq, Nat.reduceSub, Int.reduceEq, Int.reduceLT, Int.reduceLE, Int.reduceGT, Int.reduceGE, Int.reduceSub, Int.reduceAdd, Int.reduceMul, Int.reduceNe, Int.reduceNeg, Int.reduceToNat, Nat.reduceMul]; rfl) | rfl)
  · (first | (simp only [↓R0, R1, rdL, rdH, isCall, istep, ibin, vcells, fillI, setR, flat, okCell, isBase, List.set, List.drop, List.take, List.append, bnds, bhi, blo, srcOf, ↓reduceIte, Nat.reduceEqDiff, Nat.reduceAdd, Nat.reduceLeDiff, reduceCtorEq, Nat.reduceSub, Int.reduceEq, Int.reduceLT, Int.reduceLE, Int.reduceGT, Int.reduceGE, Int.reduceSub, Int.reduceAdd, Int.reduceMul, Int.reduceNe, Int.reduceNeg, Int.reduceToNat, Nat.reduceMul]; done) | (simp only [↓R0, R1, rdL, rdH, isCall, istep, ibin, vcells, fillI, setR, flat, okCell, isBase, List.set, List.drop, List.take, List.append, bnds, bhi, blo, srcOf, ↓reduceIte, Nat.reduceEqDiff, Nat.reduceAdd, Nat.reduceLeDiff, reduceCtorEq, Nat.reduceSub, Int.reduceEq, Int.reduceLT, Int.reduceLE, Int.reduceGT, Int.reduceGE, Int.reduceSub, Int.reduceAdd, Int.reduceMul, Int.reduceNe, Int.reduceNeg, Int.reduceToNat, Nat.reduceMul]; rfl) | rfl)
  · (first | (simp only [↓R0, R1, rdL, rdH, isCall, istep, ibin, vcells, fillI, setR, flat, okCell, isBase, List.set, List.drop, List.take, List.append, bnds, bhi, blo, srcOf, ↓reduceIte, Nat.reduceEqDiff, Nat.reduceAdd, Nat.reduceLeDiff, reduceCtorEq, Nat.reduceSub, Int.reduceEq, Int.reduceLT, Int.reduceLE, Int.reduceGT, Int.reduceGE, Int.reduceSub, Int.reduceAdd, Int.reduceMul, Int.reduceNe, Int.reduceNeg, Int.reduceToNat, Nat.reduceMul]; done) | (simp only [↓R0, R1, rdL, rdH, isCall, istep, ibin, vcells, fillI, setR, flat, okCell, isBase, List.set, List.drop, List.take, List.append, bnds, bhi, blo, srcOf, ↓reduceIte, Nat.reduceEqDiff, Nat.reduceAdd, Nat.reduceLeDiff, reduceCtorEq, Nat.reduceSub, Int.reduceEq, Int.reduceLT, Int.reduceLE, Int.reduceGT, Int.reduceGE, Int.reduceSub, Int.reduceAdd, Int.reduceMul, Int.reduceNe, Int.reduceNeg, Int.reduceToNat, Nat.reduceMul]; rfl) | rfl)
  · (first | (simp only [↓R0, R1, rdL, rdH, isCall, istep, ibin, vcells, fillI, setR, flat, okCell, isBase, List.set, List.drop, List.take, List.append, bnds, bhi, blo, srcOf, ↓reduceIte, Nat.reduceEqDiff, Nat.reduceAdd, Nat.reduceLeDiff, reduceCtorEq, Nat.reduceSub, Int.reduceEq, Int.reduceLT, Int.reduceLE, Int.reduceGT, Int.reduceGE, Int.reduceSub, Int.reduceAdd, Int.reduceMul, Int.reduceNe, Int.reduceNeg, Int.reduceToNat, Nat.reduceMul]; done) | (simp only [↓R0, R1, rdL, rdH, isCall, istep, ibin, vcells, fillI, setR, flat, okCell, isBase, List.set, List.drop, List.take, List.append, bnds, bhi, blo, srcOf, ↓reduceIte, Nat.reduceEqDiff, Nat.reduceAdd, Nat.reduceLeDiff, reduceCtorEq, Nat.reduceSub, Int.reduceEq, Int.reduceLT, Int.reduceLE, Int.reduceGT, Int.reduceGE, Int.reduceSub, Int.reduceAdd, Int.reduceMul, Int.reduceNe, Int.reduceNeg, Int.reduceToNat, Nat.reduceMul]; rfl) | rfl)
  · (first | (simp only [↓R0, R1, rdL, rdH, isCall, istep, ibin, vcells, fillI, setR, flat, okCell, isBase, List.set, List.drop, List.take, List.append, bnds, bhi, blo, srcOf, ↓reduceIte, Nat.reduceEqDiff, Nat.reduceAdd, Nat.reduceLeDiff, reduceCtorEq, Nat.reduceSub, Int.reduceEq, Int.reduceLT, Int.reduceLE, Int.reduceGT, Int.reduceGE, Int.reduceSub, Int.reduceAdd, Int.reduceMul, Int.reduceNe, Int.reduceNeg, Int.reduceToNat, Nat.reduceMul, Nat.pow_zero, Nat.mod_one, Nat.zero_mul, lm_0]; done) | (simp only [↓R0, R1, rdL, rdH, isCall, istep, ibin, vcells, fillI, setR, flat, okCell, isBase, List.set, List.drop, List.take, List.append, bnds, bhi, blo, srcOf, ↓reduceIte, Nat.reduceEqDiff, Nat.reduceAdd, Nat.reduceLeDiff, reduceCtorEq, Nat.reduceSub, Int.reduceEq, Int.reduceLT, Int.reduceLE, Int.reduceGT, Int.reduceGE, Int.reduceSub, Int.reduceAdd, Int.reduceMul, Int.reduceNe, Int.reduceNeg, Int.reduceToNat, Nat.reduceMul, Nat.pow_zero, Nat.mod_one, Nat.zero_mul, lm_0]; rfl) | rfl)
  · intro q hq
    simp only [↓R0, R1, rdL, rdH, isCall, istep, ibin, vcells, fillI, setR, flat, okCell, isBase, List.set, List.drop, List.take, List.append, bnds, bhi, blo, srcOf, ↓reduceIte, Nat.reduceEqDiff, Nat.reduceAdd, Nat.reduceLeDiff, reduceCtorEq, Nat.reduceSub, Int.reduceEq, Int.reduceLT, Int.reduceLE, Int.reduceGT, Int.reduceGE, Int.reduceSub, Int.reduceAdd, Int.reduceMul, Int.reduceNe, Int.reduceNeg, Int.reduceToNat, Nat.reduceMul, hget_new hq]
end Go.Eng
end
section
set_option linter.unusedVariables false
set_option linter.unusedSimpArgs false
set_option linter.unusedSectionVars false
set_option maxRecDepth 4000
namespace Go.Eng
open Go Go.Proofs Go.IntWalk
def spShort : List Value → Heap → Option ((Nat → Value) × Blk)
  | [v, .int .u32 d], h => match shows h v with
    | some cs => if uok cs = true ∧ cs.length ≤ 34359738368 ∧ 0 < d ∧ d < 4294967296 then
        some (fun k => .tuple ⟨[.slice (some ⟨k, 0, none⟩) cs.length cs.length, .int .u32 (ud cs % d.toNat : Nat)]⟩, ⟨118, 1, false, tb cs.length (lm (ud cs / d.toNat))⟩) else none
    | none => none
  | _, _ => none
def c112 : ICode :=
  (.seq (.reg [⟨(some 4), none, (.mv (.c (.slice none 0 0)))⟩, ⟨(some 5), none, (.mv (.c (.int .u32 0)))⟩])
  (.seq (.reg [⟨(some 10), none, (.mv (.t 0))⟩, ⟨(some 11), none, (.lensl (.t 10))⟩, ⟨(some 12), none, (.mkslice 118 1 4 [(.int .u32 0)] (.t 11) (.t 11))⟩, ⟨(some 6), none, (.mv (.t 12))⟩])
  (.seq (.reg [⟨(some 7), none, (.mv (.c (.int .u32 0)))⟩])
  (.seq (.seq (.reg [⟨(some 13), none, (.mv (.t 0))⟩, ⟨(some 14), none, (.lensl (.t 13))⟩, ⟨(some 15), none, (.mv (.c (.int .i64 0)))⟩])
  (.block 0 (.loop (.seq (.reg [⟨(some 16), none, (.bin .lss (.t 15) (.t 14))⟩])
  (.seq (.cond (.t 16)
  .skip
  (.exit 0))
  (.seq (.block 1 (.seq (.reg [⟨(some 17), none, (.mv (.t 15))⟩, ⟨(some 8), none, (.mv (.t 17))⟩])
  (.seq (.reg [⟨(some 18), none, (.mv (.t 0))⟩, ⟨(some 19), none, (.lensl (.t 18))⟩, ⟨(some 20), none, (.bin .sub (.t 19) (.c (.int .i64 1)))⟩, ⟨(some 21), none, (.mv (.t 8))⟩, ⟨(some 22), none, (.bin .sub (.t 20) (.t 21))⟩, ⟨(some 9), none, (.mv (.t 22))⟩])
  (.reg [⟨(some 24), none, (.mv (.t 6))⟩, ⟨(some 25), none, (.mv (.t 9))⟩, ⟨(some 26), none, (.mv (.t 7))⟩, ⟨(some 27), none, (.mv (.t 0))⟩, ⟨(some 28), none, (.mv (.t 9))⟩, ⟨(some 29), none, (.ixsl 1 (.t 27) (.t 28))⟩, ⟨(some 30), none, (.load false 1 (.t 29))⟩, ⟨(some 31), none, (.mv (.t 1))⟩, ⟨(some 32), none, (.call 134 [(.t 26), (.t 30), (.t 31)])⟩, ⟨(some 23), none, (.mv (.t 32))⟩, ⟨(some 33), none, (.ext (.t 23) 0)⟩, ⟨(some 34), none, (.ext (.t 23) 1)⟩, ⟨(some 35), none, (.ixsl 1 (.t 24) (.t 25))⟩, ⟨none, none, (.store 1 (.t 35) (.t 33))⟩, ⟨(some 7), none, (.mv (.t 34))⟩]))))
  (.reg [⟨(some 36), none, (.bin .add (.t 15) (.c (.int .i64 1)))⟩, ⟨(some 15), none, (.mv (.t 36))⟩])))))))
  (.seq (.reg [⟨(some 37), none, (.mv (.t 6))⟩, ⟨(some 38), none, (.mv (.t 7))⟩, ⟨(some 4), none, (.mv (.t 37))⟩, ⟨(some 5), none, (.mv (.t 38))⟩])
  .ret)))))
theorem tr112 : trFun Tryz.prog 112 = some ⟨39, [.t 4, .t 5], c112⟩ := by kernel_rfl
set_option maxHeartbeats 1000000 in
theorem ok_nshort : SpecOK Tryz.prog 112 (nwS spShort) := by
  refine nw_run (env_cons ok_div32 (env_nil _)) mixed tr112 ?_ ?_
  · intro args h h' v hle e
    unfold spShort at e ⊢
    split at e
    · split at e
      · rename_i cs hcs
        simp only [shows_mono hle hcs]; exact e
      · cases e
    · cases e
  intro args vf b h N hG hN
  unfold spShort at hG
  split at hG
  case h_2 => cases hG
  rename_i sv d _
  split at hG
  case h_2 => cases hG
  rename_i cs hcs
  split at hG
  case isFalse => cases hG
  rename_i hl
  obtain ⟨hu, hl, hd, hd2⟩ := hl
  cases hG
  refine ⟨rfl, tb_base _ _, vr1_pair (vr1_sl _ _ _) (vr1_flat rfl), by simp, ?_⟩
  obtain ⟨kb, off, K, cap, blk, rfl, hb, hle, hcell, hV, hlen⟩ := shows_tb hcs hu
  have hkb := hN _ _ hb
  have hne : ∀ a, ¬ (N + a = kb) := fun a => by omega
  rw [hlen] at hl ⊢
  generalize ud cs = V at *
  obtain ⟨d, rfl⟩ := Int.eq_ofNat_of_zero_le (Int.le_of_lt hd)
  simp only [Int.toNat_natCast]
  have hd0 : 0 < d := by omega
  have g2 : 4 * (K : Int) ≤ 281474976710656 := by omega
  have g3 : (K : Int) ≤ 9223372036854775807 := by omega
  simp only [c112, initT, List.zipIdx_cons, List.zipIdx_nil, List.map_cons, List.map_nil, Nat.reduceAdd]
  simp only [↓R0, R1, rdL, rdH, isCall, istep, ibin, vcells, fillI, setR, flat, okCell, isBase, List.set, List.drop, List.take, List.append, bnds, bhi, blo, srcOf, ↓reduceIte, Nat.reduceEqDiff, Nat.reduceAdd, Nat.reduceLeDiff, reduceCtorEq, Nat.reduceSub, Int.reduceEq, Int.reduceLT, Int.reduceLE, Int.reduceGT, Int.reduceGE, Int.reduceSub, Int.reduceAdd, Int.reduceMul, Int.reduceNe, Int.reduceNeg, Int.reduceToNat, Nat.reduceMul, g2, g3, tb_rep]
  clear g2 g3
  refine lp_parts (fun m tm hp nx => ∃ (i : Nat) (f : Nat → Nat), m + i = K ∧ tmget tm 0 = .slice (some ⟨kb, off, none⟩) K cap ∧ tmget tm 1 = .int .u32 (d : Nat) ∧ tmget tm 6 = .slice (some ⟨N + 0, 0, none⟩) K K ∧
      tmget tm 7 = .int .u32 (V / 4294967296 ^ m % d : Nat) ∧ tmget tm 14 = .int .i64 K ∧ tmget tm 15 = .int .i64 i ∧
      hget hp (N + 0) = some ⟨118, 1, false, tb K f⟩ ∧ (∀ j, m ≤ j → j < K → f j = lm (V / d) j) ∧ (∀ q, q < N → hget hp q = hget h q) ∧ nx = N + 1) ?_ K
    ⟨0, fun _ => 0, by omega, ?_, ?_, ?_, ?_, ?_, ?_, ?_, fun j hj hj2 => by omega, ?_, rfl⟩
  · intro m tm hp nx ⟨i, f, hm, h0, h1, h6, h7, h14, h15, hb1, hf, hh, hnx⟩
    subst hnx
    by_cases c1 : i < K
    · obtain ⟨m, rfl⟩ : ∃ m', m = m' + 1 := ⟨m - 1, by omega⟩
      have hbb : hget hp kb = some blk := by rw [hh kb hkb]; exact hb
      have c2 : m < K := by omega
      have c2' : m + 1 ≤ K := by omega
      obtain ⟨q1, q2⟩ := sh_quo (n := V) (i := m) hd0
      have q3 := sh_rest V d m
      have hr := Nat.mod_lt (V / 4294967296 ^ (m + 1)) hd0
      have bl := lm_lt V m
      have e1 : IntKind.i64.wrap ((K : Int) - 1) = ((K - 1 : Nat) : Int) := by rw [i64_in _ (by omega)]; omega
      have e2 : IntKind.i64.wrap (((K - 1 : Nat) : Int) - (i : Int)) = (m : Int) := by rw [i64_in _ (by omega)]; omega
      have e3 : IntKind.i64.wrap ((i : Int) + 1) = ((i + 1 : Nat) : Int) := by rw [i64_in _ (by omega)]; omega
      have v1 : ((V / 4294967296 ^ (m + 1) % d : Nat) : Int) < (d : Int) := by omega
      have v2 : ((lm V m : Nat) : Int) < 4294967296 := by omega
      have v3 : (((V / 4294967296 ^ (m + 1) % d : Nat) : Int) * 4294967296 + (lm V m : Int)) / (d : Int) = ((lm (V / d) m : Nat) : Int) := by rw [q1]; rfl
      have v4 : (((V / 4294967296 ^ (m + 1) % d : Nat) : Int) * 4294967296 + (lm V m : Int)) % (d : Int) = ((V / 4294967296 ^ m % d : Nat) : Int) := by rw [q3]; rfl
      have v5 := hcell m c2
      simp only [↓R0, R1, rdL, rdH, isCall, istep, ibin, vcells, fillI, setR, flat, okCell, isBase, List.set, List.drop, List.take, List.append, bnds, bhi, blo, srcOf, ↓reduceIte, Nat.reduceEqDiff, Nat.reduceAdd, Nat.reduceLeDiff, reduceCtorEq, Nat.reduceSub, Int.reduceEq, Int.reduceLT, Int.reduceLE, Int.reduceGT, Int.reduceGE, Int.reduceSub, Int.reduceAdd, Int.reduceMul, Int.reduceNe, Int.reduceNeg, Int.reduceToNat, Nat.reduceMul, h0, h1, h6, h7, h14, h15, hb1, hbb, c1, c2, c2', e1, e2, e3, spDiv32, v1, v2, v3, v4, v5, hd2, hr, tb_length, tb_set]
      refine ⟨m, by omega, i + 1, _, by omega, rfl, rfl, rfl, fun j hj hj2 => ?_, ?_⟩
      · by_cases g : j = m
        · rw [if_pos g, g]
        · rw [if_neg g]; exact hf j (by omega) hj2
      · intro q hq
        simp only [if_neg (show ¬ N + 0 = q by omega)]
        exact hh q hq
    · have ei : i = K := by omega
      subst ei
      have em : m = 0 := by omega
      subst em
      rw [Nat.pow_zero, Nat.div_one] at h7
      have htb : tb i f = tb i (lm (V / d)) := tb_congr fun j hj => hf j (by omega) hj
      simp only [↓R0, R1, rdL, rdH, isCall, istep, ibin, vcells, fillI, setR, flat, okCell, isBase, List.set, List.drop, List.take, List.append, bnds, bhi, blo, srcOf, ↓reduceIte, Nat.reduceEqDiff, Nat.reduceAdd, Nat.reduceLeDiff, reduceCtorEq, Nat.reduceSub, Int.reduceEq, Int.reduceLT, Int.reduceLE, Int.reduceGT, Int.reduceGE, Int.reduceSub, Int.reduceAdd, Int.reduceMul, Int.reduceNe, Int.reduceNeg, Int.reduceToNat, Nat.reduceMul, h0, h1, h6, h7, h14, h15, hb1, c1]
      refine ⟨trivial, _, N + 0, false, rfl, ?_, by omega, by rw [hb1, htb], hh⟩
      (first | (simp only [↓R0, R1, rdL, rdH, isCall, istep, ibin, vcells, fillI, setR, flat, okCell, isBase, List.set, List.drop, List.take, List.append, bnds, bhi, blo, srcOf, ↓reduceIte, Nat.reduceEqDiff, Nat.reduceAdd, Nat.reduceLeDiff, reduceCtorEq, Nat.reduceSub, Int.reduceEq, Int.reduceLT, Int.reduceLE, Int.reduceGT, Int.reduceGE, Int.reduceSub, Int.reduceAdd, Int.reduceMul, Int.reduceNe, Int.reduceNeg, Int.reduceToNat, Nat.reduceMul, one]; done) | (simp only [↓R0, R1, rdL, rdH, isCall, istep, ibin, vcells, fillI, setR, flat, okCell, isBase, List.set, List.drop, List.take, List.append, bnds, bhi, blo, srcOf, ↓reduceIte, Nat.reduceEqDiff, Nat.reduceAdd, Nat.reduceLeDiff, reduceCtorEq, Nat.reduceSub, Int.reduceEq, Int.reduceLT, Int.reduceLE, Int.reduceGT, Int.reduceGE, Int.reduceSub, Int.reduceAdd, Int.reduceMul, Int.reduceNe, Int.reduceNeg, Int.reduceToNat, Nat.reduceMul, one]; rfl) | rfl)
  · (first | (simp only [↓R0, R1, rdL, rdH, isCall, istep, ibin, vcells, fillI, setR, flat, okCell, isBase, List.set, List.drop, List.take, List.append, bnds, bhi, blo, srcOf, ↓reduceIte, Nat.reduceEqDiff, Nat.reduceAdd, Nat.reduceLeDiff, reduceCtorEq, Nat.reduceSub, Int.reduceEq, Int.reduceLT, Int.reduceLE, Int.reduceGT, Int.reduceGE, Int.reduceSub, Int.reduceAdd, Int.reduceMul, Int.reduceNe, Int.reduceNeg, Int.reduceToNat, Nat.reduceMul]; done) | (simp only [↓R0, R1, rdL, rdH, isCall, istep, ibin, vcells, fillI, setR, flat, okCell, isBase, List.set, List.drop, List.take, List.append, bnds, bhi, blo, srcOf, ↓reduceIte, Nat.reduceEqDiff, Nat.reduceAdd, Nat.reduceLeDiff, reduceCtorEq, Nat.reduceSub, Int.reduceEq, Int.reduceLT, Int.reduceLE, Int.reduceGT, Int.reduceGE, Int.reduceSub, Int.reduceAdd, Int.reduceMul, Int.reduceNe, Int.reduceNeg, Int.reduceToNat, Nat.reduceMul]; rfl) | rfl)
  · (first | (simp only [↓R0, R1, rdL, rdH, isCall, istep, ibin, vcells, fillI, setR, flat, okCell, isBase, List.set, List.drop, List.take, List.append, bnds, bhi, blo, srcOf, ↓reduceIte, Nat.reduceEqDiff, Nat.reduceAdd, Nat.reduceLeDiff, reduceCtorEq, Nat.reduceSub, Int.reduceEq, Int.reduceLT, Int.reduceLE, Int.reduceGT, Int.reduceGE, Int.reduceSub, Int.reduceAdd, Int.reduceMul, Int.reduceNe, Int.reduceNeg, Int.reduceToNat, Nat.reduceMul]; done) | (simp only [↓R0, R1, rdL, rdH, isCall, istep, ibin, vcells, fillI, setR, flat, okCell, isBase, List.set, List.drop, List.take, List.append, bnds, bhi, blo, srcOf, ↓reduceIte, Nat.reduceEqDiff, Nat.reduceAdd, Nat.reduceLeDiff, reduceCtorEq, Nat.reduceSub, Int.reduceEq, Int.reduceLT, Int.reduceLE, Int.reduceGT, Int.reduceGE, Int.reduceSub, Int.reduceAdd, Int.reduceMul, Int.reduceNe, Int.reduceNeg, Int.reduceToNat, Nat.reduceMul]; rfl) | rfl)
  · (first | (simp only [↓R0, R1, rdL, rdH, isCall, istep, ibin, vcells, fillI, setR, flat, okCell, isBase, List.set, List.drop, List.take, List.append, bnds, bhi, blo, srcOf, ↓reduceIte, Nat.reduceEqDiff, Nat.reduceAdd, Nat.reduceLeDiff, reduceCtorEq, Nat.reduceSub, Int.reduceEq, Int.reduceLT, Int.reduceLE, Int.reduceGT, Int.reduceGE, Int.reduceSub, Int.reduceAdd, Int.reduceMul, Int.reduceNe, Int.reduceNeg, Int.reduceToNat, Nat.reduceMul]; done) | (simp only [↓R0, R1, rdL, rdH, isCall, istep, ibin, vcells, fillI, setR, flat, okCell, isBase, List.set, List.drop, List.take, List.append, bnds, bhi, blo, srcOf, ↓reduceIte, Nat.reduceEqDiff, Nat.reduceAdd, Nat.reduceLeDiff, reduceCtorEq, Nat.reduceSub, Int.reduceEq, Int.reduceLT, Int.reduceLE, Int.reduceGT, Int.reduceGE, Int.reduceSub, Int.reduceAdd, Int.reduceMul, Int.reduceNe, Int.reduceNeg, Int.reduceToNat, Nat.reduceMul]; rfl) | rfl)
  · (first | (simp only [↓R0, R1, rdL, rdH, isCall, istep, ibin, vcells, fillI, setR, flat, okCell, isBase, List.set, List.drop, List.take, List.append, bnds, bhi, blo, srcOf, ↓reduceIte, Nat.reduceEqDiff, Nat.reduceAdd, Nat.reduceLeDiff, reduceCtorEq, Nat.reduceSub, Int.reduceEq, Int.reduceLT, Int.reduceLE, Int.reduceGT, Int.reduceGE, Int.reduceSub, Int.reduceAdd, Int.reduceMul, Int.reduceNe, Int.reduceNeg, Int.reduceToNat, Nat.reduceMul, Nat.div_eq_of_lt hV, Nat.zero_mod]; done) | (simp only [↓R0, R1, rdL, rdH, isCall, istep, ibin, vcells, fillI, setR, flat, okCell, isBase, List.set, List.drop, List.take, List.append, bnds, bhi, blo, srcOf, ↓reduceIte, Nat.reduceEqDiff, Nat.reduceAdd, Nat.reduceLeDiff, reduceCtorEq, Nat.reduceSub, Int.reduceEq, Int.reduceLT, Int.reduceLE, Int.reduceGT, Int.reduceGE, Int.reduceSub, Int.reduceAdd, Int.reduceMul, Int.reduceNe, Int.reduceNeg, Int.reduceToNat, Nat.reduceMul, Nat.div_eq_of_lt hV, Nat.zero_mod]; rfl) | rfl)
  · (first | (simp only [↓R0, R1, rdL, rdH, isCall, istep, ibin, vcells, fillI, setR, flat, okCell, isBase, List.set, List.drop, List.take, List.append, bnds, bhi, blo, srcOf, ↓reduceIte, Nat.reduceEqDiff, Nat.reduceAdd, Nat.reduceLeDiff, reduceCtorEq, Nat.reduceSub, Int.reduceEq, Int.reduceLT, Int.reduceLE, Int.reduceGT, Int.reduceGE, Int.reduceSub, Int.reduceAdd, Int.reduceMul, Int.reduceNe, Int.reduceNeg, Int.reduceToNat, Nat.reduceMul]; done) | (simp only [↓R0, R1, rdL, rdH, isCall, istep, ibin, vcells, fillI, setR, flat, okCell, isBase, List.set, List.drop, List.take, List.append, bnds, bhi, blo, srcOf, ↓reduceIte, Nat.reduceEqDiff, Nat.reduceAdd, Nat.reduceLeDiff, reduceCtorEq, Nat.reduceSub, Int.reduceEq, Int.reduceLT, Int.reduceLE, Int.reduceGT, Int.reduceGE, Int.reduceSub, Int.reduceAdd, Int.reduceMul, Int.reduceNe, Int.reduceNeg, Int.reduceToNat, Nat.reduceMul]; rfl) | rfl)
  · (first | (simp only [↓R0, R1, rdL, rdH, isCall, istep, ibin, vcells, fillI, setR, flat, okCell, isBase, List.set, List.drop, List.take, List.append, bnds, bhi, blo, srcOf, ↓reduceIte, Nat.reduceEqDiff, Nat.reduceAdd, Nat.reduceLeDiff, reduceCtorEq, Nat.reduceSub, Int.reduceEq, Int.reduceLT, Int.reduceLE, Int.reduceGT, Int.reduceGE, Int.reduceSub, Int.reduceAdd, Int.reduceMul, Int.reduceNe, Int.reduceNeg, Int.reduceToNat, Nat.reduceMul]; done) | (simp only [↓R0, R1, rdL, rdH, isCall, istep, ibin, vcells, fillI, setR, flat, okCell, isBase, List.set, List.drop, List.take, List.append, bnds, bhi, blo, srcOf, ↓reduceIte, Nat.reduceEqDiff, Nat.reduceAdd, Nat.reduceLeDiff, reduceCtorEq, Nat.reduceSub, Int.reduceEq, Int.reduceLT, Int.reduceLE, Int.reduceGT, Int.reduceGE, Int.reduceSub, Int.reduceAdd, Int.reduceMul, Int.reduceNe, Int.reduceNeg, Int.reduceToNat, Nat.reduceMul]; rfl) | rfl)
  · (first | (simp only [↓R0, R1, rdL, rdH, isCall, istep, ibin, vcells, fillI, setR, flat, okCell, isBase, List.set, List.drop, List.take, List.append, bnds, bhi, blo, srcOf, ↓reduceIte, Nat.reduceEqDiff, Nat.reduceAdd, Nat.reduceLeDiff, reduceCtorEq, Nat.reduceSub, Int.reduceEq, Int.reduceLT, Int.reduceLE, Int.reduceGT, Int.reduceGE, Int.reduceSub, Int.reduceAdd, Int.reduceMul, Int.reduceNe, Int.reduceNeg, Int.reduceToNat, Nat.reduceMul]; done) | (simp only [↓R0, R1, rdL, rdH, isCall, istep, ibin, vcells, fillI, setR, flat, okCell, isBase, List.set, List.drop, List.take, List.append, bnds, bhi, blo, srcOf, ↓reduceIte, Nat.reduceEqDiff, Nat.reduceAdd, Nat.reduceLeDiff, reduceCtorEq, Nat.reduceSub, Int.reduceEq, Int.reduceLT, Int.reduceLE, Int.reduceGT, Int.reduceGE, Int.reduceSub, Int.reduceAdd, Int.reduceMul, Int.reduceNe, Int.reduceNeg, Int.reduceToNat, Nat.reduceMul]; rfl) | rfl)
  · intro q hq
    simp only [↓R0, R1, rdL, rdH, isCall, istep, ibin, vcells, fillI, setR, flat, okCell, isBase, List.set, List.drop, List.take, List.append, bnds, bhi, blo, srcOf, ↓reduceIte, Nat.reduceEqDiff, Nat.reduceAdd, Nat.reduceLeDiff, reduceCtorEq, Nat.reduceSub, Int.reduceEq, Int.reduceLT, Int.reduceLE, Int.reduceGT, Int.reduceGE, Int.reduceSub, Int.reduceAdd, Int.reduceMul, Int.reduceNe, Int.reduceNeg, Int.reduceToNat, Nat.reduceMul, hget_new hq]
def spShift : List Value → Heap → Option ((Nat → Value) × Blk)
  | [v, .int .i64 s], h => match shows h v with
    | some cs => if uok cs = true ∧ cs.length ≤ 34359738368 ∧ 0 ≤ s ∧ s < 32 then
        some (fun k => .slice (some ⟨k, 0, none⟩) (cs.length + 1) (cs.length + 1), ⟨118, 1, false, tb (cs.length + 1) (lm (ud cs * 2 ^ s.toNat))⟩) else none
    | none => none
  | _, _ => none
def c136 : ICode :=
  (.seq (.reg [⟨(some 4), none, (.mv (.c (.slice none 0 0)))⟩])
  (.seq (.reg [⟨(some 9), none, (.mv (.t 0))⟩, ⟨(some 10), none, (.lensl (.t 9))⟩, ⟨(some 11), none, (.bin .add (.t 10) (.c (.int .i64 1)))⟩, ⟨(some 12), none, (.mkslice 118 1 4 [(.int .u32 0)] (.t 11) (.t 11))⟩, ⟨(some 5), none, (.mv (.t 12))⟩])
  (.seq (.seq (.reg [⟨(some 13), none, (.mv (.t 0))⟩, ⟨(some 14), none, (.lensl (.t 13))⟩, ⟨(some 15), none, (.mv (.c (.int .i64 0)))⟩])
  (.block 0 (.loop (.seq (.reg [⟨(some 16), none, (.bin .lss (.t 15) (.t 14))⟩])
  (.seq (.cond (.t 16)
  .skip
  (.exit 0))
  (.seq (.block 1 (.seq (.reg [⟨(some 17), none, (.mv (.t 15))⟩, ⟨(some 18), none, (.ixsl 1 (.t 13) (.t 15))⟩, ⟨(some 19), none, (.load false 1 (.t 18))⟩, ⟨(some 6), none, (.mv (.t 17))⟩, ⟨(some 7), none, (.mv (.t 19))⟩])
  (.seq (.reg [⟨(some 20), none, (.mv (.t 7))⟩, ⟨(some 21), none, (.conv .u64 (.t 20))⟩, ⟨(some 22), none, (.mv (.t 1))⟩, ⟨(some 23), none, (.bin .shl (.t 21) (.t 22))⟩, ⟨(some 8), none, (.mv (.t 23))⟩])
  (.seq (.reg [⟨(some 24), none, (.mv (.t 5))⟩, ⟨(some 25), none, (.mv (.t 6))⟩, ⟨(some 26), none, (.ixsl 1 (.t 24) (.t 25))⟩, ⟨(some 27), none, (.load false 1 (.t 26))⟩, ⟨(some 28), none, (.mv (.t 8))⟩, ⟨(some 29), none, (.conv .u32 (.t 28))⟩, ⟨(some 30), none, (.bin .or (.t 27) (.t 29))⟩, ⟨(some 31), none, (.ixsl 1 (.t 24) (.t 25))⟩, ⟨none, none, (.store 1 (.t 31) (.t 30))⟩])
  (.reg [⟨(some 32), none, (.mv (.t 5))⟩, ⟨(some 33), none, (.mv (.t 6))⟩, ⟨(some 34), none, (.bin .add (.t 33) (.c (.int .i64 1)))⟩, ⟨(some 35), none, (.mv (.t 8))⟩, ⟨(some 36), none, (.bin .shr (.t 35) (.c (.int .u64 32)))⟩, ⟨(some 37), none, (.conv .u32 (.t 36))⟩, ⟨(some 38), none, (.ixsl 1 (.t 32) (.t 34))⟩, ⟨none, none, (.store 1 (.t 38) (.t 37))⟩])))))
  (.reg [⟨(some 39), none, (.bin .add (.t 15) (.c (.int .i64 1)))⟩, ⟨(some 15), none, (.mv (.t 39))⟩])))))))
  (.seq (.reg [⟨(some 40), none, (.mv (.t 5))⟩, ⟨(some 4), none, (.mv (.t 40))⟩])
  .ret))))
theorem tr136 : trFun Tryz.prog 136 = some ⟨41, [.t 4], c136⟩ := by kernel_rfl
set_option maxHeartbeats 1000000 in
theorem ok_nshift : SpecOK Tryz.prog 136 (nwS spShift) := by
  refine nw_run (env_nil _) mixed tr136 ?_ ?_
  · intro args h h' v hle e
    unfold spShift at e ⊢
    split at e
    · split at e
      · rename_i cs hcs
        simp only [shows_mono hle hcs]; exact e
      · cases e
    · cases e
  intro args vf b h N hG hN
  unfold spShift at hG
  split at hG
  case h_2 => cases hG
  rename_i sv s _
  split at hG
  case h_2 => cases hG
  rename_i cs hcs
  split at hG
  case isFalse => cases hG
  rename_i hl
  obtain ⟨hu, hl, hs0, hs⟩ := hl
  cases hG
  refine ⟨rfl, tb_base _ _, vr1_sl _ _ _, by simp, ?_⟩
  obtain ⟨kb, off, K, cap, blk, rfl, hb, hle, hcell, hV, hlen⟩ := shows_tb hcs hu
  have hkb := hN _ _ hb
  have hne : ∀ a, ¬ (N + a = kb) := fun a => by omega
  rw [hlen] at hl ⊢
  generalize ud cs = V at *
  obtain ⟨s, rfl⟩ := Int.eq_ofNat_of_zero_le hs0
  simp only [Int.toNat_natCast]
  have hs' : s < 32 := by omega
  have g1 : IntKind.i64.wrap ((K : Int) + 1) = ((K + 1 : Nat) : Int) := by rw [i64_in _ (by omega)]; omega
  have g2 : 4 * ((K + 1 : Nat) : Int) ≤ 281474976710656 := by omega
  have g3 : ((K + 1 : Nat) : Int) ≤ 9223372036854775807 := by omega
  simp only [c136, initT, List.zipIdx_cons, List.zipIdx_nil, List.map_cons, List.map_nil, Nat.reduceAdd]
  simp only [↓R0, R1, rdL, rdH, isCall, istep, ibin, vcells, fillI, setR, flat, okCell, isBase, List.set, List.drop, List.take, List.append, bnds, bhi, blo, srcOf, ↓reduceIte, Nat.reduceEqDiff, Nat.reduceAdd, Nat.reduceLeDiff, reduceCtorEq, Nat.reduceSub, Int.reduceEq, Int.reduceLT, Int.reduceLE, Int.reduceGT, Int.reduceGE, Int.reduceSub, Int.reduceAdd, Int.reduceMul, Int.reduceNe, Int.reduceNeg, Int.reduceToNat, Nat.reduceMul, g1, g2, g3, tb_rep]
  clear g1 g2 g3
  refine lp_parts (fun m tm hp nx => ∃ (i : Nat), m + i = K ∧ tmget tm 13 = .slice (some ⟨kb, off, none⟩) K cap ∧ tmget tm 1 = .int .i64 (s : Nat) ∧ tmget tm 5 = .slice (some ⟨N + 0, 0, none⟩) (K + 1) (K + 1) ∧
      tmget tm 14 = .int .i64 K ∧ tmget tm 15 = .int .i64 i ∧
      hget hp (N + 0) = some ⟨118, 1, false, tb (K + 1) (lm (V % 4294967296 ^ i * 2 ^ s))⟩ ∧ (∀ q, q < N → hget hp q = hget h q) ∧ nx = N + 1) ?_ K
    ⟨0, by omega, ?_, ?_, ?_, ?_, ?_, ?_, ?_, rfl⟩
  · intro m tm hp nx ⟨i, hm, h13, h1, h5, h14, h15, hb1, hh, hnx⟩
    subst hnx
    by_cases c1 : i < K
    · have hbb : hget hp kb = some blk := by rw [hh kb hkb]; exact hb
      have v5 := hcell i c1
      obtain ⟨q1, q2, q3, q4⟩ := shl_limb (n := V) (i := i) hs'
      have c2 : i < K + 1 := by omega
      have c2' : i ≤ K := by omega
      have k1 := tb_get' (lm (V % 4294967296 ^ i * 2 ^ s)) c2
      have b1 := lm_lt V i
      have hT : 2 ^ s ≤ 2 ^ 31 := Nat.pow_le_pow_right (by omega) (by omega)
      have b2 : lm V i * 2 ^ s ≤ 4294967295 * 2 ^ 31 := Nat.mul_le_mul (by omega) hT
      have w1 := u64_nat (n := lm V i) (by omega)
      have w2 := shl64 (c := lm V i) (s := s) (by omega) (by omega)
      have w3 := u32_mod (lm V i * 2 ^ s)
      have w4 := or_u32 (x := lm (V % 4294967296 ^ i * 2 ^ s) i) (c := (lm V i * 2 ^ s % 4294967296) / 2 ^ s) (s := s) q2 (by rw [← q3]; exact q4)
      rw [← q3] at w4
      have w5 : ((lm V i * 2 ^ s : Nat) : Int).fdiv (2 ^ min 32 IntKind.u64.bits) = ((lm V i * 2 ^ s / 4294967296 : Nat) : Int) := by
        have : (2 : Int) ^ min 32 IntKind.u64.bits = 4294967296 := rfl
        rw [this, Int.fdiv_eq_ediv_of_nonneg _ (by omega)]; omega
      have w6 := u32_nat (n := lm V i * 2 ^ s / 4294967296) (by omega)
      have w7 : ¬ ((s : Int) < 0) := by omega
      have e3 : IntKind.i64.wrap ((i : Int) + 1) = ((i + 1 : Nat) : Int) := by rw [i64_in _ (by omega)]; omega
      have c4 : i + 1 < K + 1 := by omega
      have c5 : i + 1 + 1 ≤ K + 1 := by omega
      have c6 : i + 1 ≤ K := c1
      simp only [↓R0, R1, rdL, rdH, isCall, istep, ibin, vcells, fillI, setR, flat, okCell, isBase, List.set, List.drop, List.take, List.append, bnds, bhi, blo, srcOf, ↓reduceIte, Nat.reduceEqDiff, Nat.reduceAdd, Nat.reduceLeDiff, reduceCtorEq, Nat.reduceSub, Int.reduceEq, Int.reduceLT, Int.reduceLE, Int.reduceGT, Int.reduceGE, Int.reduceSub, Int.reduceAdd, Int.reduceMul, Int.reduceNe, Int.reduceNeg, Int.reduceToNat, Nat.reduceMul, h13, h1, h5, h14, h15, hb1, hbb, c1, c2, c2', c4, c5, c6, k1, e3, v5, w1, w2, w3, w4, w5, w6, w7, tb_length, tb_set]
      refine ⟨m - 1, by omega, i + 1, by omega, rfl, ?_, ?_⟩
      · congr 2
        apply tb_congr
        intro j hj
        rw [q1]
      · intro q hq
        simp only [if_neg (show ¬ N + 0 = q by omega)]
        exact hh q hq
    · have ei : i = K := by omega
      subst ei
      rw [Nat.mod_eq_of_lt hV] at hb1
      simp only [↓R0, R1, rdL, rdH, isCall, istep, ibin, vcells, fillI, setR, flat, okCell, isBase, List.set, List.drop, List.take, List.append, bnds, bhi, blo, srcOf, ↓reduceIte, Nat.reduceEqDiff, Nat.reduceAdd, Nat.reduceLeDiff, reduceCtorEq, Nat.reduceSub, Int.reduceEq, Int.reduceLT, Int.reduceLE, Int.reduceGT, Int.reduceGE, Int.reduceSub, Int.reduceAdd, Int.reduceMul, Int.reduceNe, Int.reduceNeg, Int.reduceToNat, Nat.reduceMul, h13, h1, h5, h14, h15, c1]
      refine ⟨trivial, _, N + 0, false, rfl, ?_, by omega, hb1, hh⟩
      (first | (simp only [↓R0, R1, rdL, rdH, isCall, istep, ibin, vcells, fillI, setR, flat, okCell, isBase, List.set, List.drop, List.take, List.append, bnds, bhi, blo, srcOf, ↓reduceIte, Nat.reduceEqDiff, Nat.reduceAdd, Nat.reduceLeDiff, reduceCtorEq, Nat.reduceSub, Int.reduceEq, Int.reduceLT, Int.reduceLE, Int.reduceGT, Int.reduceGE, Int.reduceSub, Int.reduceAdd, Int.reduceMul, Int.reduceNe, Int.reduceNeg, Int.reduceToNat, Nat.reduceMul, one]; done) | (simp only [↓R0, R1, rdL, rdH, isCall, istep, ibin, vcells, fillI, setR, flat, okCell, isBase, List.set, List.drop, List.take, List.append, bnds, bhi, blo, srcOf, ↓reduceIte, Nat.reduceEqDiff, Nat.reduceAdd, Nat.reduceLeDiff, reduceCtorEq, Nat.reduceSub, Int.reduceEq, Int.reduceLT, Int.reduceLE, Int.reduceGT, Int.reduceGE, Int.reduceSub, Int.reduceAdd, Int.reduceMul, Int.reduceNe, Int.reduceNeg, Int.reduceToNat, Nat.reduceMul, one]; rfl) | rfl)
  · (first | (simp only [↓R0, R1, rdL, rdH, isCall, istep, ibin, vcells, fillI, setR, flat, okCell, isBase, List.set, List.drop, List.take, List.append, bnds, bhi, blo, srcOf, ↓reduceIte, Nat.reduceEqDiff, Nat.reduceAdd, Nat.reduceLeDiff, reduceCtorEq, Nat.reduceSub, Int.reduceEq, Int.reduceLT, Int.reduceLE, Int.reduceGT, Int.reduceGE, Int.reduceSub, Int.reduceAdd, Int.reduceMul, Int.reduceNe, Int.reduceNeg, Int.reduceToNat, Nat.reduceMul]; done) | (simp only [↓R0, R1, rdL, rdH, isCall, istep, ibin, vcells, fillI, setR, flat, okCell, isBase, List.set, List.drop, List.take, List.append, bnds, bhi, blo, srcOf, ↓reduceIte, Nat.reduceEqDiff, Nat.reduceAdd, Nat.reduceLeDiff, reduceCtorEq, Nat.reduceSub, Int.reduceEq, Int.reduceLT, Int.reduceLE, Int.reduceGT, Int.reduceGE, Int.reduceSub, Int.reduceAdd, Int.reduceMul, Int.reduceNe, Int.reduceNeg, Int.reduceToNat, Nat.reduceMul]; rfl) | rfl)
  · (first | (simp only [↓R0, R1, rdL, rdH, isCall, istep, ibin, vcells, fillI, setR, flat, okCell, isBase, List.set, List.drop, List.take, List.append, bnds, bhi, blo, srcOf, ↓reduceIte, Nat.reduceEqDiff, Nat.reduceAdd, Nat.reduceLeDiff, reduceCtorEq, Nat.reduceSub, Int.reduceEq, Int.reduceLT, Int.reduceLE, Int.reduceGT, Int.reduceGE, Int.reduceSub, Int.reduceAdd, Int.reduceMul, Int.reduceNe, Int.reduceNeg, Int.reduceToNat, Nat.reduceMul]; done) | (simp only [↓R0, R1, rdL, rdH, isCall, istep, ibin, vcells, fillI, setR, flat, okCell, isBase, List.set, List.drop, List.take, List.append, bnds, bhi, blo, srcOf, ↓reduceIte, Nat.reduceEqDiff, Nat.reduceAdd, Nat.reduceLeDiff, reduceCtorEq, Nat.reduceSub, Int.reduceEq, Int.reduceLT, Int.reduceLE, Int.reduceGT, Int.reduceGE, Int.reduceSub, Int.reduceAdd, Int.reduceMul, Int.reduceNe, Int.reduceNeg, Int.reduceToNat, Nat.reduceMul]; rfl) | rfl)
  · (first | (simp only [↓R0, R1, rdL, rdH, isCall, istep, ibin, vcells, fillI, setR, flat, okCell, isBase, List.set, List.drop, List.take, List.append, bnds, bhi, blo, srcOf, ↓reduceIte, Nat.reduceEqDiff, Nat.reduceAdd, Nat.reduceLeDiff, reduceCtorEq, Nat.reduceSub, Int.reduceEq, Int.reduceLT, Int.reduceLE, Int.reduceGT, Int.reduceGE, Int.reduceSub, Int.reduceAdd, Int.reduceMul, Int.reduceNe, Int.reduceNeg, Int.reduceToNat, Nat.reduceMul]; done) | (simp only [↓R0, R1, rdL, rdH, isCall, istep, ibin, vcells, fillI, setR, flat, okCell, isBase, List.set, List.drop, List.take, List.append, bnds, bhi, blo, srcOf, ↓reduceIte, Nat.reduceEqDiff, Nat.reduceAdd, Nat.reduceLeDiff, reduceCtorEq, Nat.reduceSub, Int.reduceEq, Int.reduceLT, Int.reduceLE, Int.reduceGT, Int.reduceGE, Int.reduceSub, Int.reduceAdd, Int.reduceMul, Int.reduceNe, Int.reduceNeg, Int.reduceToNat, Nat.reduceMul]; rfl) | rfl)
  · (first | (simp only [↓R0, R1, rdL, rdH, isCall, istep, ibin, vcells, fillI, setR, flat, okCell, isBase, List.set, List.drop, List.take, List.append, bnds, bhi, blo, srcOf, ↓reduceIte, Nat.reduceEqDiff, Nat.reduceAdd, Nat.reduceLeDiff, reduceCtorEq, Nat.reduceSub, Int.reduceEq, Int.reduceLT, Int.reduceLE, Int.reduceGT, Int.reduceGE, Int.reduceSub, Int.reduceAdd, Int.reduceMul, Int.reduceNe, Int.reduceNeg, Int.reduceToNat, Nat.reduceMul]; done) | (simp only [↓R0, R1, rdL, rdH, isCall, istep, ibin, vcells, fillI, setR, flat, okCell, isBase, List.set, List.drop, List.take, List.append, bnds, bhi, blo, srcOf, ↓reduceIte, Nat.reduceEqDiff, Nat.reduceAdd, Nat.reduceLeDiff, reduceCtorEq, Nat.reduceSub, Int.reduceEq, Int.reduceLT, Int.reduceLE, Int.reduceGT, Int.reduceGE, Int.reduceSub, Int.reduceAdd, Int.reduceMul, Int.reduceNe, Int.reduceNeg, Int.reduceToNat, Nat.reduceMul]; rfl) | rfl)
  · (first | (simp only [↓R0, R1, rdL, rdH, isCall, istep, ibin, vcells, fillI, setR, flat, okCell, isBase, List.set, List.drop, List.take, List.append, bnds, bhi, blo, srcOf, ↓reduceIte, Nat.reduceEqDiff, Nat.reduceAdd, Nat.reduceLeDiff, reduceCtorEq, Nat.reduceSub, Int.reduceEq, Int.reduceLT, Int.reduceLE, Int.reduceGT, Int.reduceGE, Int.reduceSub, Int.reduceAdd, Int.reduceMul, Int.reduceNe, Int.reduceNeg, Int.reduceToNat, Nat.reduceMul]; done) | (simp only [↓R0, R1, rdL, rdH, isCall, istep, ibin, vcells, fillI, setR, flat, okCell, isBase, List.set, List.drop, List.take, List.append, bnds, bhi, blo, srcOf, ↓reduceIte, Nat.reduceEqDiff, Nat.reduceAdd, Nat.reduceLeDiff, reduceCtorEq, Nat.reduceSub, Int.reduceEq, Int.reduceLT, Int.reduceLE, Int.reduceGT, Int.reduceGE, Int.reduceSub, Int.reduceAdd, Int.reduceMul, Int.reduceNe, Int.reduceNeg, Int.reduceToNat, Nat.reduceMul]; rfl) | rfl)
  · (first | (simp only [↓R0, R1, rdL, rdH, isCall, istep, ibin, vcells, fillI, setR, flat, okCell, isBase, List.set, List.drop, List.take, List.append, bnds, bhi, blo, srcOf, ↓reduceIte, Nat.reduceEqDiff, Nat.reduceAdd, Nat.reduceLeDiff, reduceCtorEq, Nat.reduceSub, Int.reduceEq, Int.reduceLT, Int.reduceLE, Int.reduceGT, Int.reduceGE, Int.reduceSub, Int.reduceAdd, Int.reduceMul, Int.reduceNe, Int.reduceNeg, Int.reduceToNat, Nat.reduceMul, Nat.pow_zero, Nat.mod_one, Nat.zero_mul, lm_0]; done) | (simp only [↓R0, R1, rdL, rdH, isCall, istep, ibin, vcells, fillI, setR, flat, okCell, isBase, List.set, List.drop, List.take, List.append, bnds, bhi, blo, srcOf, ↓reduceIte, Nat.reduceEqDiff, Nat.reduceAdd, Nat.reduceLeDiff, reduceCtorEq, Nat.reduceSub, Int.reduceEq, Int.reduceLT, Int.reduceLE, Int.reduceGT, Int.reduceGE, Int.reduceSub, Int.reduceAdd, Int.reduceMul, Int.reduceNe, Int.reduceNeg, Int.reduceToNat, Nat.reduceMul, Nat.pow_zero, Nat.mod_one, Nat.zero_mul, lm_0]; rfl) | rfl)
  · intro q hq
    simp only [↓R0, R1, rdL, rdH, isCall, istep, ibin, vcells, fillI, setR, flat, okCell, isBase, List.set, List.drop, List.take, List.append, bnds, bhi, blo, srcOf, ↓reduceIte, Nat.reduceEqDiff, Nat.reduceAdd, Nat.reduceLeDiff, reduceCtorEq, Nat.reduceSub, Int.reduceEq, Int.reduceLT, Int.reduceLE, Int.reduceGT, Int.reduceGE, Int.reduceSub, Int.reduceAdd, Int.reduceMul, Int.reduceNe, Int.reduceNeg, Int.reduceToNat, Nat.reduceMul, hget_new hq]
def spUnshift : List Value → Heap → Option ((Nat → Value) × Blk)
  | [v, .int .i64 s], h => match shows h v with
    | some cs => if uok cs = true ∧ cs.length ≤ 34359738368 ∧ 0 ≤ s ∧ s < 32 then
        some (fun k => .slice (some ⟨k, 0, none⟩) cs.length cs.length, ⟨118, 1, false, tb cs.length (lm (ud cs / 2 ^ s.toNat))⟩) else none
    | none => none
  | _, _ => none
def c138 : ICode :=
  (.seq (.reg [⟨(some 4), none, (.mv (.c (.slice none 0 0)))⟩])
  (.seq (.reg [⟨(some 8), none, (.mv (.t 0))⟩, ⟨(some 9), none, (.lensl (.t 8))⟩, ⟨(some 10), none, (.mkslice 118 1 4 [(.int .u32 0)] (.t 9) (.t 9))⟩, ⟨(some 5), none, (.mv (.t 10))⟩])
  (.seq (.seq (.reg [⟨(some 11), none, (.mv (.t 0))⟩, ⟨(some 12), none, (.lensl (.t 11))⟩, ⟨(some 13), none, (.mv (.c (.int .i64 0)))⟩])
  (.block 0 (.loop (.seq (.reg [⟨(some 14), none, (.bin .lss (.t 13) (.t 12))⟩])
  (.seq (.cond (.t 14)
  .skip
  (.exit 0))
  (.seq (.block 1 (.seq (.reg [⟨(some 15), none, (.mv (.t 13))⟩, ⟨(some 6), none, (.mv (.t 15))⟩])
  (.seq (.reg [⟨(some 16), none, (.mv (.t 0))⟩, ⟨(some 17), none, (.mv (.t 6))⟩, ⟨(some 18), none, (.ixsl 1 (.t 16) (.t 17))⟩, ⟨(some 19), none, (.load false 1 (.t 18))⟩, ⟨(some 20), none, (.conv .u64 (.t 19))⟩, ⟨(some 7), none, (.mv (.t 20))⟩])
  (.seq (.seq (.reg [⟨(some 21), none, (.mv (.t 6))⟩, ⟨(some 22), none, (.bin .add (.t 21) (.c (.int .i64 1)))⟩, ⟨(some 23), none, (.mv (.t 0))⟩, ⟨(some 24), none, (.lensl (.t 23))⟩, ⟨(some 25), none, (.bin .lss (.t 22) (.t 24))⟩])
  (.cond (.t 25)
  (.reg [⟨(some 26), none, (.mv (.t 7))⟩, ⟨(some 27), none, (.mv (.t 0))⟩, ⟨(some 28), none, (.mv (.t 6))⟩, ⟨(some 29), none, (.bin .add (.t 28) (.c (.int .i64 1)))⟩, ⟨(some 30), none, (.ixsl 1 (.t 27) (.t 29))⟩, ⟨(some 31), none, (.load false 1 (.t 30))⟩, ⟨(some 32), none, (.conv .u64 (.t 31))⟩, ⟨(some 33), none, (.bin .shl (.t 32) (.c (.int .u64 32)))⟩, ⟨(some 34), none, (.bin .or (.t 26) (.t 33))⟩, ⟨(some 7), none, (.mv (.t 34))⟩])
  .skip))
  (.reg [⟨(some 35), none, (.mv (.t 5))⟩, ⟨(some 36), none, (.mv (.t 6))⟩, ⟨(some 37), none, (.mv (.t 7))⟩, ⟨(some 38), none, (.mv (.t 1))⟩, ⟨(some 39), none, (.bin .shr (.t 37) (.t 38))⟩, ⟨(some 40), none, (.conv .u32 (.t 39))⟩, ⟨(some 41), none, (.ixsl 1 (.t 35) (.t 36))⟩, ⟨none, none, (.store 1 (.t 41) (.t 40))⟩])))))
  (.reg [⟨(some 42), none, (.bin .add (.t 13) (.c (.int .i64 1)))⟩, ⟨(some 13), none, (.mv (.t 42))⟩])))))))
  (.seq (.reg [⟨(some 43), none, (.mv (.t 5))⟩, ⟨(some 4), none, (.mv (.t 43))⟩])
  .ret))))
theorem tr138 : trFun Tryz.prog 138 = some ⟨44, [.t 4], c138⟩ := by kernel_rfl
set_option maxHeartbeats 1000000 in
theorem ok_nunshift : SpecOK Tryz.prog 138 (nwS spUnshift) := by
  refine nw_run (env_nil _) mixed tr138 ?_ ?_
  · intro args h h' v hle e
    unfold spUnshift at e ⊢
    split at e
    · split at e
      · rename_i cs hcs
        simp only [shows_mono hle hcs]; exact e
      · cases e
    · cases e
  intro args vf b h N hG hN
  unfold spUnshift at hG
  split at hG
  case h_2 => cases hG
  rename_i sv s _
  split at hG
  case h_2 => cases hG
  rename_i cs hcs
  split at hG
  case isFalse => cases hG
  rename_i hl
  obtain ⟨hu, hl, hs0, hs⟩ := hl
  cases hG
  refine ⟨rfl, tb_base _ _, vr1_sl _ _ _, by simp, ?_⟩
  obtain ⟨kb, off, K, cap, blk, rfl, hb, hle, hcell, hV, hlen⟩ := shows_tb hcs hu
  have hkb := hN _ _ hb
  have hne : ∀ a, ¬ (N + a = kb) := fun a => by omega
  rw [hlen] at hl ⊢
  generalize ud cs = V at *
  obtain ⟨s, rfl⟩ := Int.eq_ofNat_of_zero_le hs0
  simp only [Int.toNat_natCast]
  have hs' : s < 32 := by omega
  have g2 : 4 * (K : Int) ≤ 281474976710656 := by omega
  have g3 : (K : Int) ≤ 9223372036854775807 := by omega
  simp only [c138, initT, List.zipIdx_cons, List.zipIdx_nil, List.map_cons, List.map_nil, Nat.reduceAdd]
  simp only [↓R0, R1, rdL, rdH, isCall, istep, ibin, vcells, fillI, setR, flat, okCell, isBase, List.set, List.drop, List.take, List.append, bnds, bhi, blo, srcOf, ↓reduceIte, Nat.reduceEqDiff, Nat.reduceAdd, Nat.reduceLeDiff, reduceCtorEq, Nat.reduceSub, Int.reduceEq, Int.reduceLT, Int.reduceLE, Int.reduceGT, Int.reduceGE, Int.reduceSub, Int.reduceAdd, Int.reduceMul, Int.reduceNe, Int.reduceNeg, Int.reduceToNat, Nat.reduceMul, g2, g3, tb_rep]
  clear g2 g3
  refine lp_parts (fun m tm hp nx => ∃ (i : Nat) (f : Nat → Nat), m + i = K ∧ tmget tm 0 = .slice (some ⟨kb, off, none⟩) K cap ∧ tmget tm 1 = .int .i64 (s : Nat) ∧ tmget tm 5 = .slice (some ⟨N + 0, 0, none⟩) K K ∧
      tmget tm 12 = .int .i64 K ∧ tmget tm 13 = .int .i64 i ∧
      hget hp (N + 0) = some ⟨118, 1, false, tb K f⟩ ∧ (∀ j, j < i → f j = lm (V / 2 ^ s) j) ∧ (∀ q, q < N → hget hp q = hget h q) ∧ nx = N + 1) ?_ K
    ⟨0, fun _ => 0, by omega, ?_, ?_, ?_, ?_, ?_, ?_, fun j hj => by omega, ?_, rfl⟩
  · intro m tm hp nx ⟨i, f, hm, h0, h1, h5, h12, h13, hb1, hf, hh, hnx⟩
    subst hnx
    by_cases c1 : i < K
    · have hbb : hget hp kb = some blk := by rw [hh kb hkb]; exact hb
      have v5 := hcell i c1
      have q1 := shr_limb (n := V) (i := i) hs'
      have c2' : i + 1 ≤ K := by omega
      have b1 := lm_lt V i
      have b2 := lm_lt V (i + 1)
      have w1 := u64_nat (n := lm V i) (by omega)
      have w2 := u64_nat (n := lm V (i + 1)) (by omega)
      have w3 : IntKind.u64.wrap ((lm V (i + 1) : Int) * 2 ^ min 32 IntKind.u64.bits) = ((lm V (i + 1) * 2 ^ 32 : Nat) : Int) := shl64 (by omega) (by omega)
      have w4 := or_u64 (x := lm V i) (c := lm V (i + 1)) (s := 32) (by omega) (by omega)
      have w5 : ∀ z : Nat, (z : Int).fdiv (2 ^ min s IntKind.u64.bits) = ((z / 2 ^ s : Nat) : Int) := by
        intro z
        have : min s IntKind.u64.bits = s := Nat.min_eq_left (by have : IntKind.u64.bits = 64 := rfl; omega)
        rw [this, Int.fdiv_eq_ediv_of_nonneg _ (Int.pow_nonneg (by omega)), Int.natCast_ediv, Int.natCast_pow]; rfl
      have w6 : ∀ z : Nat, IntKind.u32.wrap (z : Int) = ((z % 4294967296 : Nat) : Int) := u32_mod
      have w7 : ¬ ((s : Int) < 0) := by omega
      have e3 : IntKind.i64.wrap ((i : Int) + 1) = ((i + 1 : Nat) : Int) := by rw [i64_in _ (by omega)]; omega
      by_cases c3 : i + 1 < K
      · have v6 := hcell (i + 1) c3
        have ea : off + (i + 1) = off + (i + 1) := rfl
        simp only [↓R0, R1, rdL, rdH, isCall, istep, ibin, vcells, fillI, setR, flat, okCell, isBase, List.set, List.drop, List.take, List.append, bnds, bhi, blo, srcOf, ↓reduceIte, Nat.reduceEqDiff, Nat.reduceAdd, Nat.reduceLeDiff, reduceCtorEq, Nat.reduceSub, Int.reduceEq, Int.reduceLT, Int.reduceLE, Int.reduceGT, Int.reduceGE, Int.reduceSub, Int.reduceAdd, Int.reduceMul, Int.reduceNe, Int.reduceNeg, Int.reduceToNat, Nat.reduceMul, h0, h1, h5, h12, h13, hb1, hbb, c1, c2', c3, e3, v5, v6, w1, w2, w3, w4, w5, w6, w7, tb_length, tb_set]
        refine ⟨m - 1, by omega, i + 1, _, by omega, rfl, rfl, fun j hj => ?_, ?_⟩
        · by_cases g : j = i
          · rw [if_pos g, g, q1]
          · rw [if_neg g]; exact hf j (by omega)
        · intro q hq
          simp only [if_neg (show ¬ N + 0 = q by omega)]
          exact hh q hq
      · have hz : lm V (i + 1) = 0 := lm_of_lt' hV (by omega)
        rw [hz, Nat.zero_mul, Nat.add_zero] at q1
        simp only [↓R0, R1, rdL, rdH, isCall, istep, ibin, vcells, fillI, setR, flat, okCell, isBase, List.set, List.drop, List.take, List.append, bnds, bhi, blo, srcOf, ↓reduceIte, Nat.reduceEqDiff, Nat.reduceAdd, Nat.reduceLeDiff, reduceCtorEq, Nat.reduceSub, Int.reduceEq, Int.reduceLT, Int.reduceLE, Int.reduceGT, Int.reduceGE, Int.reduceSub, Int.reduceAdd, Int.reduceMul, Int.reduceNe, Int.reduceNeg, Int.reduceToNat, Nat.reduceMul, h0, h1, h5, h12, h13, hb1, hbb, c1, c2', c3, e3, v5, w1, w5, w6, w7, tb_length, tb_set]
        refine ⟨m - 1, by omega, i + 1, _, by omega, rfl, rfl, fun j hj => ?_, ?_⟩
        · by_cases g : j = i
          · rw [if_pos g, g, q1]
          · rw [if_neg g]; exact hf j (by omega)
        · intro q hq
          simp only [if_neg (show ¬ N + 0 = q by omega)]
          exact hh q hq
    · have ei : i = K := by omega
      subst ei
      have htb : tb i f = tb i (lm (V / 2 ^ s)) := tb_congr hf
      simp only [↓R0, R1, rdL, rdH, isCall, istep, ibin, vcells, fillI, setR, flat, okCell, isBase, List.set, List.drop, List.take, List.append, bnds, bhi, blo, srcOf, ↓reduceIte, Nat.reduceEqDiff, Nat.reduceAdd, Nat.reduceLeDiff, reduceCtorEq, Nat.reduceSub, Int.reduceEq, Int.reduceLT, Int.reduceLE, Int.reduceGT, Int.reduceGE, Int.reduceSub, Int.reduceAdd, Int.reduceMul, Int.reduceNe, Int.reduceNeg, Int.reduceToNat, Nat.reduceMul, h0, h1, h5, h12, h13, c1]
      refine ⟨trivial, _, N + 0, false, rfl, ?_, by omega, by rw [hb1, htb], hh⟩
      (first | (simp only [↓R0, R1, rdL, rdH, isCall, istep, ibin, vcells, fillI, setR, flat, okCell, isBase, List.set, List.drop, List.take, List.append, bnds, bhi, blo, srcOf, ↓reduceIte, Nat.reduceEqDiff, Nat.reduceAdd, Nat.reduceLeDiff, reduceCtorEq, Nat.reduceSub, Int.reduceEq, Int.reduceLT, Int.reduceLE, Int.reduceGT, Int.reduceGE, Int.reduceSub, Int.reduceAdd, Int.reduceMul, Int.reduceNe, Int.reduceNeg, Int.reduceToNat, Nat.reduceMul, one]; done) | (simp only [↓R0, R1, rdL, rdH, isCall, istep, ibin, vcells, fillI, setR, flat, okCell, isBase, List.set, List.drop, List.take, List.append, bnds, bhi, blo, srcOf, ↓reduceIte, Nat.reduceEqDiff, Nat.reduceAdd, Nat.reduceLeDiff, reduceCtorEq, Nat.reduceSub, Int.reduceEq, Int.reduceLT, Int.reduceLE, Int.reduceGT, Int.reduceGE, Int.reduceSub, Int.reduceAdd, Int.reduceMul, Int.reduceNe, Int.reduceNeg, Int.reduceToNat, Nat.reduceMul, one]; rfl) | rfl)
  · (first | (simp only [↓R0, R1, rdL, rdH, isCall, istep, ibin, vcells, fillI, setR, flat, okCell, isBase, List.set, List.drop, List.take, List.append, bnds, bhi, blo, srcOf, ↓reduceIte, Nat.reduceEqDiff, Nat.reduceAdd, Nat.reduceLeDiff, reduceCtorEq, Nat.reduceSub, Int.reduceEq, Int.reduceLT, Int.reduceLE, Int.reduceGT, Int.reduceGE, Int.reduceSub, Int.reduceAdd, Int.reduceMul, Int.reduceNe, Int.reduceNeg, Int.reduceToNat, Nat.reduceMul]; done) | (simp only [↓R0, R1, rdL, rdH, isCall, istep, ibin, vcells, fillI, setR, flat, okCell, isBase, List.set, List.drop, List.take, List.append, bnds, bhi, blo, srcOf, ↓reduceIte, Nat.reduceEqDiff, Nat.reduceAdd, Nat.reduceLeDiff, reduceCtorEq, Nat.reduceSub, Int.reduceEq, Int.reduceLT, Int.reduceLE, Int.reduceGT, Int.reduceGE, Int.reduceSub, Int.reduceAdd, Int.reduceMul, Int.reduceNe, Int.reduceNeg, Int.reduceToNat, Nat.reduceMul]; rfl) | rfl)
  · (first | (simp only [↓R0, R1, rdL, rdH, isCall, istep, ibin, vcells, fillI, setR, flat, okCell, isBase, List.set, List.drop, List.take, List.append, bnds, bhi, blo, srcOf, ↓reduceIte, Nat.reduceEqDiff, Nat.reduceAdd, Nat.reduceLeDiff, reduceCtorEq, Nat.reduceSub, Int.reduceEq, Int.reduceLT, Int.reduceLE, Int.reduceGT, Int.reduceGE, Int.reduceSub, Int.reduceAdd, Int.reduceMul, Int.reduceNe, Int.reduceNeg, Int.reduceToNat, Nat.reduceMul]; done) | (simp only [↓R0, R1, rdL, rdH, isCall, istep, ibin, vcells, fillI, setR, flat, okCell, isBase, List.set, List.drop, List.take, List.append, bnds, bhi, blo, srcOf, ↓reduceIte, Nat.reduceEqDiff, Nat.reduceAdd, Nat.reduceLeDiff, reduceCtorEq, Nat.reduceSub, Int.reduceEq, Int.reduceLT, Int.reduceLE, Int.reduceGT, Int.reduceGE, Int.reduceSub, Int.reduceAdd, Int.reduceMul, Int.reduceNe, Int.reduceNeg, Int.reduceToNat, Nat.reduceMul]; rfl) | rfl)
  · (first | (simp only [↓R0, R1, rdL, rdH, isCall, istep, ibin, vcells, fillI, setR, flat, okCell, isBase, List.set, List.drop, List.take, List.append, bnds, bhi, blo, srcOf, ↓reduceIte, Nat.reduceEqDiff, Nat.reduceAdd, Nat.reduceLeDiff, reduceCtorEq, Nat.reduceSub, Int.reduceEq, Int.reduceLT, Int.reduceLE, Int.reduceGT, Int.reduceGE, Int.reduceSub, Int.reduceAdd, Int.reduceMul, Int.reduceNe, Int.reduceNeg, Int.reduceToNat, Nat.reduceMul]; done) | (simp only [↓R0, R1, rdL, rdH, isCall, istep, ibin, vcells, fillI, setR, flat, okCell, isBase, List.set, List.drop, List.take, List.append, bnds, bhi, blo, srcOf, ↓reduceIte, Nat.reduceEqDiff, Nat.reduceAdd, Nat.reduceLeDiff, reduceCtorEq, Nat.reduceSub, Int.reduceEq, Int.reduceLT, Int.reduceLE, Int.reduceGT, Int.reduceGE, Int.reduceSub, Int.reduceAdd, Int.reduceMul, Int.reduceNe, Int.reduceNeg, Int.reduceToNat, Nat.reduceMul]; rfl) | rfl)
  · (first | (simp only [↓R0, R1, rdL, rdH, isCall, istep, ibin, vcells, fillI, setR, flat, okCell, isBase, List.set, List.drop, List.take, List.append, bnds, bhi, blo, srcOf, ↓reduceIte, Nat.reduceEqDiff, Nat.reduceAdd, Nat.reduceLeDiff, reduceCtorEq, Nat.reduceSub, Int.reduceEq, Int.reduceLT, Int.reduceLE, Int.reduceGT, Int.reduceGE, Int.reduceSub, Int.reduceAdd, Int.reduceMul, Int.reduceNe, Int.reduceNeg, Int.reduceToNat, Nat.reduceMul]; done) | (simp only [↓R0, R1, rdL, rdH, isCall, istep, ibin, vcells, fillI, setR, flat, okCell, isBase, List.set, List.drop, List.take, List.append, bnds, bhi, blo, srcOf, ↓reduceIte, Nat.reduceEqDiff, Nat.reduceAdd, Nat.reduceLeDiff, reduceCtorEq, Nat.reduceSub, Int.reduceEq, Int.reduceLT, Int.reduceLE, Int.reduceGT, Int.reduceGE, Int.reduceSub, Int.reduceAdd, Int.reduceMul, Int.reduceNe, Int.reduceNeg, Int.reduceToNat, Nat.reduceMul]; rfl) | rfl)
  · (first | (simp only [↓R0, R1, rdL, rdH, isCall, istep, ibin, vcells, fillI, setR, flat, okCell, isBase, List.set, List.drop, List.take, List.append, bnds, bhi, blo, srcOf, ↓reduceIte, Nat.reduceEqDiff, Nat.reduceAdd, Nat.reduceLeDiff, reduceCtorEq, Nat.reduceSub, Int.reduceEq, Int.reduceLT, Int.reduceLE, Int.reduceGT, Int.reduceGE, Int.reduceSub, Int.reduceAdd, Int.reduceMul, Int.reduceNe, Int.reduceNeg, Int.reduceToNat, Nat.reduceMul]; done) | (simp only [↓R0, R1, rdL, rdH, isCall, istep, ibin, vcells, fillI, setR, flat, okCell, isBase, List.set, List.drop, List.take, List.append, bnds, bhi, blo, srcOf, ↓reduceIte, Nat.reduceEqDiff, Nat.reduceAdd, Nat.reduceLeDiff, reduceCtorEq, Nat.reduceSub, Int.reduceEq, Int.reduceLT, Int.reduceLE, Int.reduceGT, Int.reduceGE, Int.reduceSub, Int.reduceAdd, Int.reduceMul, Int.reduceNe, Int.reduceNeg, Int.reduceToNat, Nat.reduceMul]; rfl) | rfl)
  · (first | (simp only [↓R0, R1, rdL, rdH, isCall, istep, ibin, vcells, fillI, setR, flat, okCell, isBase, List.set, List.drop, List.take, List.append, bnds, bhi, blo, srcOf, ↓reduceIte, Nat.reduceEqDiff, Nat.reduceAdd, Nat.reduceLeDiff, reduceCtorEq, Nat.reduceSub, Int.reduceEq, Int.reduceLT, Int.reduceLE, Int.reduceGT, Int.reduceGE, Int.reduceSub, Int.reduceAdd, Int.reduceMul, Int.reduceNe, Int.reduceNeg, Int.reduceToNat, Nat.reduceMul]; done) | (simp only [↓R0, R1, rdL, rdH, isCall, istep, ibin, vcells, fillI, setR, flat, okCell, isBase, List.set, List.drop, List.take, List.append, bnds, bhi, blo, srcOf, ↓reduceIte, Nat.reduceEqDiff, Nat.reduceAdd, Nat.reduceLeDiff, reduceCtorEq, Nat.reduceSub, Int.reduceEq, Int.reduceLT, Int.reduceLE, Int.reduceGT, Int.reduceGE, Int.reduceSub, Int.reduceAdd, Int.reduceMul, Int.reduceNe, Int.reduceNeg, Int.reduceToNat, Nat.reduceMul]; rfl) | rfl)
  · intro q hq
    simp only [↓R0, R1, rdL, rdH, isCall, istep, ibin, vcells, fillI, setR, flat, okCell, isBase, List.set, List.drop, List.take, List.append, bnds, bhi, blo, srcOf, ↓reduceIte, Nat.reduceEqDiff, Nat.reduceAdd, Nat.reduceLeDiff, reduceCtorEq, Nat.reduceSub, Int.reduceEq, Int.reduceLT, Int.reduceLE, Int.reduceGT, Int.reduceGE, Int.reduceSub, Int.reduceAdd, Int.reduceMul, Int.reduceNe, Int.reduceNeg, Int.reduceToNat, Nat.reduceMul, hget_new hq]
end Go.Eng
end
section
set_option linter.unusedVariables false
set_option linter.unusedSimpArgs false
set_option linter.unusedSectionVars false
namespace Go.Eng
def cyM (d q i : Nat) : Nat := q * (d % 4294967296 ^ i) / 4294967296 ^ i
theorem cyM_zero (d q : Nat) : cyM d q 0 = 0 := by simp [cyM, Nat.mod_one]
theorem cyM_div (d q i : Nat) : q * (d % 4294967296 ^ (i + 1)) / 4294967296 ^ i = lm d i * q + cyM d q i := by
  unfold cyM
  rw [mod_step, Nat.mul_add, Nat.mul_comm (4294967296 ^ i), ← Nat.mul_assoc, Nat.add_mul_div_right _ _ (pB i), Nat.mul_comm q (lm d i)]
  omega
theorem cyM_succ (d q i : Nat) : cyM d q (i + 1) = (lm d i * q + cyM d q i) / 4294967296 := by
  rw [← cyM_div]; unfold cyM; rw [Nat.pow_succ, ← Nat.div_div_eq_div_mul]
theorem cyM_limb (d q i : Nat) : lm (q * d) i = (lm d i * q + cyM d q i) % 4294967296 := by
  rw [← cyM_div]
  have e : q * d = q * (d % 4294967296 ^ (i + 1)) + q * (d / 4294967296 ^ (i + 1)) * 4294967296 ^ (i + 1) := by
    conv => lhs; rw [← Nat.mod_add_div d (4294967296 ^ (i + 1))]
    rw [Nat.mul_add, Nat.mul_assoc, Nat.mul_comm (4294967296 ^ (i + 1))]
  rw [e, lm_add_mul (Nat.lt_succ_self i)]; rfl
theorem cyM_lt {d q i : Nat} (hq : q < 4294967296) : cyM d q i < 4294967296 ∧ lm d i * q + cyM d q i < 18446744073709551616 := by
  have h1 : cyM d q i < 4294967296 := by
    unfold cyM
    rw [Nat.div_lt_iff_lt_mul (pB i)]
    have hm := Nat.mod_lt d (pB i)
    exact Nat.mul_lt_mul'' hq hm
  have h2 := lm_lt d i
  have h3 : lm d i * q ≤ 4294967295 * 4294967295 := Nat.mul_le_mul (by omega) (by omega)
  exact ⟨h1, by omega⟩
theorem cyM_top {d q m : Nat} (hd : d < 4294967296 ^ m) (hq : q < 4294967296) : cyM d q m = lm (q * d) m ∧ q * d < 4294967296 ^ (m + 1) := by
  have h : q * d < 4294967296 ^ (m + 1) := by rw [Nat.pow_succ, Nat.mul_comm]; exact Nat.mul_lt_mul'' hd hq
  exact ⟨by rw [lm_top h]; unfold cyM; rw [Nat.mod_eq_of_lt hd], h⟩
def tkT (u p m : Nat) : Nat := u + 4294967296 ^ (m + 1) - p
theorem tk_limb {u p m i : Nat} (hp : p < 4294967296 ^ (m + 1)) (hi : i ≤ m) : ((lm u i : Int) - lm p i - cyS u p i) % 4294967296 = (lm (tkT u p m) i : Int) := by
  refine (sub_limb ?_).symm
  have h := mod_add_cases p (tkT u p m) (pB (i + 1))
  have e : p + tkT u p m = u + 4294967296 ^ (m + 1) := by unfold tkT; omega
  rw [e] at h
  have e2 : 4294967296 ^ (m + 1) = 4294967296 ^ (i + 1) * 4294967296 ^ (m - i) := by rw [← Nat.pow_add]; congr 1; omega
  rw [e2, Nat.add_mul_mod_self_left] at h
  exact h
theorem tk_cy {u p m : Nat} (hu : u < 4294967296 ^ (m + 1)) (hp : p < 4294967296 ^ (m + 1)) : cyS u p (m + 1) = if u < p then 1 else 0 := by
  unfold cyS; rw [Nat.mod_eq_of_lt hu, Nat.mod_eq_of_lt hp]
theorem cyS_int (a b i : Nat) : (if (lm a i : Int) < lm b i + cyS a b i then (1 : Int) else 0) = (cyS a b (i + 1) : Int) := by
  rw [cyS_succ]
  by_cases g : lm a i < lm b i + cyS a b i
  · rw [if_pos g, if_pos (by omega)]; rfl
  · rw [if_neg g, if_neg (by omega)]; rfl
def tkX (u p d m : Nat) : Nat := if u < p then u + 4294967296 ^ (m + 1) - p + d else u - p
theorem tk_done {u p d m j : Nat} (h : ¬ u < p) (hj : j ≤ m) : lm (tkT u p m) j = lm (tkX u p d m) j := by
  unfold tkX tkT
  rw [if_neg h, show u + 4294967296 ^ (m + 1) - p = u - p + 1 * 4294967296 ^ (m + 1) by omega, lm_add_mul (by omega)]
theorem seg_limb {W off len i : Nat} (h : i < len) : lm (W / 4294967296 ^ off % 4294967296 ^ len) i = lm W (off + i) := by
  rw [lm_mod h, lm_shift]
def tkCells (W off m D q L : Nat) : List Value :=
  tb L fun j => if off ≤ j ∧ j < off + (m + 1) then lm (tkX (W / 4294967296 ^ off % 4294967296 ^ (m + 1)) (q * D) D m) (j - off) else lm W j
end Go.Eng
end
section
set_option linter.unusedVariables false
set_option linter.unusedSimpArgs false
set_option linter.unusedSectionVars false
set_option maxRecDepth 4000
namespace Go.Eng
open Go Go.Proofs Go.IntWalk
def spTake : List Value → Heap → Option (Value × Nat × Blk)
  | [.slice (some ⟨ku, off, none⟩) len cap, .slice (some ⟨kd, od, none⟩) dlen dcap, .int .u32 q], h => match hget h ku, shows h (.slice (some ⟨kd, od, none⟩) dlen dcap) with
    | some blk, some ds => if uok blk.cells = true ∧ uok ds = true ∧ len = dlen + 1 ∧ off + len ≤ blk.cells.length ∧ 0 ≤ q ∧ q < 4294967296 ∧ dlen ≤ 34359738368 ∧ ku ≠ kd then
        some (.bool (Nat.blt (ud blk.cells / 4294967296 ^ off % 4294967296 ^ (dlen + 1)) (q.toNat * ud ds)), ku, ⟨blk.elem, blk.sz, blk.x, tkCells (ud blk.cells) off dlen (ud ds) q.toNat blk.cells.length⟩) else none
    | _, _ => none
  | _, _ => none
def c137 : ICode :=
  (.seq (.reg [⟨(some 6), none, (.mv (.c (.bool false)))⟩])
  (.seq (.reg [⟨(some 7), none, (.mv (.c (.int .u64 0)))⟩, ⟨(some 8), none, (.mv (.c (.int .u32 0)))⟩])
  (.seq (.seq (.reg [⟨(some 15), none, (.mv (.t 1))⟩, ⟨(some 16), none, (.lensl (.t 15))⟩, ⟨(some 17), none, (.mv (.c (.int .i64 0)))⟩])
  (.block 0 (.loop (.seq (.reg [⟨(some 18), none, (.bin .lss (.t 17) (.t 16))⟩])
  (.seq (.cond (.t 18)
  .skip
  (.exit 0))
  (.seq (.block 1 (.seq (.reg [⟨(some 19), none, (.mv (.t 17))⟩, ⟨(some 20), none, (.ixsl 1 (.t 15) (.t 17))⟩, ⟨(some 21), none, (.load false 1 (.t 20))⟩, ⟨(some 9), none, (.mv (.t 19))⟩, ⟨(some 10), none, (.mv (.t 21))⟩])
  (.seq (.reg [⟨(some 22), none, (.mv (.t 10))⟩, ⟨(some 23), none, (.conv .u64 (.t 22))⟩, ⟨(some 24), none, (.mv (.t 2))⟩, ⟨(some 25), none, (.conv .u64 (.t 24))⟩, ⟨(some 26), none, (.bin .mul (.t 23) (.t 25))⟩, ⟨(some 27), none, (.mv (.t 7))⟩, ⟨(some 28), none, (.bin .add (.t 26) (.t 27))⟩, ⟨(some 11), none, (.mv (.t 28))⟩])
  (.seq (.reg [⟨(some 29), none, (.mv (.t 11))⟩, ⟨(some 30), none, (.bin .shr (.t 29) (.c (.int .u64 32)))⟩, ⟨(some 7), none, (.mv (.t 30))⟩])
  (.reg [⟨(some 32), none, (.mv (.t 0))⟩, ⟨(some 33), none, (.mv (.t 9))⟩, ⟨(some 34), none, (.mv (.t 0))⟩, ⟨(some 35), none, (.mv (.t 9))⟩, ⟨(some 36), none, (.ixsl 1 (.t 34) (.t 35))⟩, ⟨(some 37), none, (.load false 1 (.t 36))⟩, ⟨(some 38), none, (.mv (.t 11))⟩, ⟨(some 39), none, (.conv .u32 (.t 38))⟩, ⟨(some 40), none, (.mv (.t 8))⟩, ⟨(some 41), none, (.call 123 [(.t 37), (.t 39), (.t 40)])⟩, ⟨(some 31), none, (.mv (.t 41))⟩, ⟨(some 42), none, (.ext (.t 31) 0)⟩, ⟨(some 43), none, (.ext (.t 31) 1)⟩, ⟨(some 44), none, (.ixsl 1 (.t 32) (.t 33))⟩, ⟨none, none, (.store 1 (.t 44) (.t 42))⟩, ⟨(some 8), none, (.mv (.t 43))⟩])))))
  (.reg [⟨(some 45), none, (.bin .add (.t 17) (.c (.int .i64 1)))⟩, ⟨(some 17), none, (.mv (.t 45))⟩])))))))
  (.seq (.reg [⟨(some 47), none, (.mv (.t 0))⟩, ⟨(some 48), none, (.mv (.t 1))⟩, ⟨(some 49), none, (.lensl (.t 48))⟩, ⟨(some 50), none, (.mv (.t 0))⟩, ⟨(some 51), none, (.mv (.t 1))⟩, ⟨(some 52), none, (.lensl (.t 51))⟩, ⟨(some 53), none, (.ixsl 1 (.t 50) (.t 52))⟩, ⟨(some 54), none, (.load false 1 (.t 53))⟩, ⟨(some 55), none, (.mv (.t 7))⟩, ⟨(some 56), none, (.conv .u32 (.t 55))⟩, ⟨(some 57), none, (.mv (.t 8))⟩, ⟨(some 58), none, (.call 123 [(.t 54), (.t 56), (.t 57)])⟩, ⟨(some 46), none, (.mv (.t 58))⟩, ⟨(some 59), none, (.ext (.t 46) 0)⟩, ⟨(some 60), none, (.ext (.t 46) 1)⟩, ⟨(some 61), none, (.ixsl 1 (.t 47) (.t 49))⟩, ⟨none, none, (.store 1 (.t 61) (.t 59))⟩, ⟨(some 8), none, (.mv (.t 60))⟩])
  (.seq (.seq (.reg [⟨(some 62), none, (.mv (.t 8))⟩, ⟨(some 63), none, (.bin .eql (.t 62) (.c (.int .u32 0)))⟩])
  (.cond (.t 63)
  (.seq (.reg [⟨(some 6), none, (.mv (.c (.bool false)))⟩])
  .ret)
  .skip))
  (.seq (.reg [⟨(some 12), none, (.mv (.c (.int .u32 0)))⟩])
  (.seq (.seq (.reg [⟨(some 64), none, (.mv (.t 1))⟩, ⟨(some 65), none, (.lensl (.t 64))⟩, ⟨(some 66), none, (.mv (.c (.int .i64 0)))⟩])
  (.block 2 (.loop (.seq (.reg [⟨(some 67), none, (.bin .lss (.t 66) (.t 65))⟩])
  (.seq (.cond (.t 67)
  .skip
  (.exit 2))
  (.seq (.block 3 (.seq (.reg [⟨(some 68), none, (.mv (.t 66))⟩, ⟨(some 69), none, (.ixsl 1 (.t 64) (.t 66))⟩, ⟨(some 70), none, (.load false 1 (.t 69))⟩, ⟨(some 13), none, (.mv (.t 68))⟩, ⟨(some 14), none, (.mv (.t 70))⟩])
  (.reg [⟨(some 72), none, (.mv (.t 0))⟩, ⟨(some 73), none, (.mv (.t 13))⟩, ⟨(some 74), none, (.mv (.t 0))⟩, ⟨(some 75), none, (.mv (.t 13))⟩, ⟨(some 76), none, (.ixsl 1 (.t 74) (.t 75))⟩, ⟨(some 77), none, (.load false 1 (.t 76))⟩, ⟨(some 78), none, (.mv (.t 14))⟩, ⟨(some 79), none, (.mv (.t 12))⟩, ⟨(some 80), none, (.call 122 [(.t 77), (.t 78), (.t 79)])⟩, ⟨(some 71), none, (.mv (.t 80))⟩, ⟨(some 81), none, (.ext (.t 71) 0)⟩, ⟨(some 82), none, (.ext (.t 71) 1)⟩, ⟨(some 83), none, (.ixsl 1 (.t 72) (.t 73))⟩, ⟨none, none, (.store 1 (.t 83) (.t 81))⟩, ⟨(some 12), none, (.mv (.t 82))⟩])))
  (.reg [⟨(some 84), none, (.bin .add (.t 66) (.c (.int .i64 1)))⟩, ⟨(some 66), none, (.mv (.t 84))⟩])))))))
  (.seq (.reg [⟨(some 85), none, (.mv (.t 0))⟩, ⟨(some 86), none, (.mv (.t 1))⟩, ⟨(some 87), none, (.lensl (.t 86))⟩, ⟨(some 88), none, (.ixsl 1 (.t 85) (.t 87))⟩, ⟨(some 89), none, (.load false 1 (.t 88))⟩, ⟨(some 90), none, (.mv (.t 12))⟩, ⟨(some 91), none, (.bin .add (.t 89) (.t 90))⟩, ⟨(some 92), none, (.ixsl 1 (.t 85) (.t 87))⟩, ⟨none, none, (.store 1 (.t 92) (.t 91))⟩])
  (.seq (.reg [⟨(some 6), none, (.mv (.c (.bool true)))⟩])
  .ret)))))))))
theorem tr137 : trFun Tryz.prog 137 = some ⟨93, [.t 6], c137⟩ := by kernel_rfl
set_option maxHeartbeats 2000000 in
theorem ok_ntake : SpecOK Tryz.prog 137 (upS spTake) := by
  refine up_run (env_cons ok_add32 (env_cons ok_sub32 (env_nil _))) mixed tr137 ?_ ?_
  · intro args h h' v hle e
    unfold spTake at e ⊢
    split at e
    · split at e
      · rename_i blk ds hb hds
        simp only [hle _ _ hb, shows_mono hle hds]; exact e
      · cases e
    · cases e
  intro args v ku b h N hG hN
  unfold spTake at hG
  split at hG
  case h_2 => cases hG
  rename_i ku0 off len cap kd od dlen dcap q
  split at hG
  case h_2 => cases hG
  rename_i blk ds hb hds
  split at hG
  case isFalse => cases hG
  rename_i hl
  obtain ⟨hu, hud, hlen, hle, hq0, hq, hdl, hne⟩ := hl
  cases hG
  have hku := hN _ _ hb
  obtain ⟨q, rfl⟩ := Int.eq_ofNat_of_zero_le hq0
  simp only [Int.toNat_natCast]
  refine ⟨hku, tb_base _ _, rfl, by simp, ?_⟩
  obtain ⟨kb, od', K, cap', blkd, e0, hbd, hled, hcell, hD, hdlen⟩ := shows_tb hds hud
  cases e0
  subst hlen
  obtain ⟨elem, sz, x, cells⟩ := blk
  simp only at hu hle hb ⊢
  have hcells := tb_ud hu
  generalize hW : ud cells = W at *
  generalize hLL : cells.length = L at *
  subst hcells
  clear hW hLL hu hds hud hdlen
  generalize ud ds = D at *
  have hkd := hN _ _ hbd
  have n1 : (ku = kd) = False := eq_false hne
  have hq' : q < 4294967296 := by omega
  obtain ⟨hct, hP⟩ := cyM_top hD hq'
  have hU : W / 4294967296 ^ off % 4294967296 ^ (dlen + 1) < 4294967296 ^ (dlen + 1) := Nat.mod_lt _ (pB _)
  have hseg : ∀ i, i ≤ dlen → lm (W / 4294967296 ^ off % 4294967296 ^ (dlen + 1)) i = lm W (off + i) := fun i hi => seg_limb (by omega)
  unfold tkCells
  generalize W / 4294967296 ^ off % 4294967296 ^ (dlen + 1) = U at *
  generalize hPP : q * D = P at *
  have eq64 : IntKind.u64.wrap (q : Int) = (q : Int) := u64_nat (by omega)
  simp only [c137, initT, List.zipIdx_cons, List.zipIdx_nil, List.map_cons, List.map_nil, Nat.reduceAdd]
  simp only [↓R0, R1, rdL, rdH, isCall, istep, ibin, vcells, fillI, setR, flat, okCell, isBase, List.set, List.drop, List.take, List.append, bnds, bhi, blo, srcOf, ↓reduceIte, Nat.reduceEqDiff, Nat.reduceAdd, Nat.reduceLeDiff, reduceCtorEq, Nat.reduceSub, Int.reduceEq, Int.reduceLT, Int.reduceLE, Int.reduceGT, Int.reduceGE, Int.reduceSub, Int.reduceAdd, Int.reduceMul, Int.reduceNe, Int.reduceNeg, Int.reduceToNat, Nat.reduceMul]
  refine lp_parts (fun m tm hp nx => ∃ (i : Nat) (f : Nat → Nat), m + i = dlen ∧ tmget tm 0 = .slice (some ⟨ku, off, none⟩) (dlen + 1) cap ∧ tmget tm 1 = .slice (some ⟨kd, od, none⟩) dlen dcap ∧ tmget tm 2 = .int .u32 (q : Nat) ∧
      tmget tm 7 = .int .u64 (cyM D q i : Nat) ∧ tmget tm 8 = .int .u32 (cyS U P i : Nat) ∧ tmget tm 15 = .slice (some ⟨kd, od, none⟩) dlen dcap ∧ tmget tm 16 = .int .i64 dlen ∧ tmget tm 17 = .int .i64 i ∧
      hget hp ku = some ⟨elem, sz, x, tb L f⟩ ∧ (∀ j, j < L → f j = if off ≤ j ∧ j < off + i then lm (tkT U P dlen) (j - off) else lm W j) ∧ (∀ q, q < N → q ≠ ku → hget hp q = hget h q) ∧ nx = N + 0) ?_ dlen
    ⟨0, lm W, by omega, ?_, ?_, ?_, ?_, ?_, ?_, ?_, ?_, hb, fun j hj => by rw [if_neg (by omega)], fun q _ _ => rfl, rfl⟩
  · intro m tm hp nx ⟨i, f, hm, h0, h1, h2, h7, h8, h15, h16, h17, hb1, hf, hh, hnx⟩
    rw [hnx]
    clear hnx nx
    have hbb : hget hp kd = some blkd := by rw [hh kd hkd (fun e => hne e.symm)]; exact hbd
    obtain ⟨hc1, hc2⟩ := cyM_lt (d := D) (i := i) hq'
    have c1' : i ≤ dlen := by omega
    have c2' : i < dlen + 1 := by omega
    have c3 : off + i < L := by omega
    have c3' : off + i + 1 ≤ L := by omega
    have hfi : f (off + i) = lm U i := by rw [hf _ c3, if_neg (by omega), hseg i c1']
    have k1 := tb_get' f c3
    rw [hfi] at k1
    have b1 := lm_lt U i
    have b2 := lm_lt P i
    have b3 := cyS_le U P i
    have v1 : ((lm U i : Nat) : Int) < 4294967296 := by omega
    have v2 : ((lm P i : Nat) : Int) < 4294967296 := by omega
    have v3 : ((cyS U P i : Nat) : Int) ≤ 1 := by omega
    have v4 := tk_limb (u := U) hP c1'
    have v5 := cyS_int U P i
    by_cases c1 : i < dlen
    · have hlim := cyM_limb D q i
      rw [hPP] at hlim
      have hcs := cyM_succ D q i
      have b4 := lm_lt D i
      have hx1 : lm D i * q ≤ 4294967295 * 4294967295 := Nat.mul_le_mul (by omega) (by omega)
      have w1 := u64_nat (n := lm D i) (by omega)
      have w2 : IntKind.u64.wrap ((lm D i : Int) * (q : Int)) = ((lm D i * q : Nat) : Int) := by rw [← Int.natCast_mul, u64_nat (by omega)]
      have w3 : IntKind.u64.wrap (((lm D i * q : Nat) : Int) + (cyM D q i : Int)) = ((lm D i * q + cyM D q i : Nat) : Int) := by rw [← Int.natCast_add, u64_nat hc2]
      have w4 : ((lm D i * q + cyM D q i : Nat) : Int).fdiv (2 ^ min 32 IntKind.u64.bits) = ((cyM D q (i + 1) : Nat) : Int) := by
        have : (2 : Int) ^ min 32 IntKind.u64.bits = 4294967296 := rfl
        rw [this, Int.fdiv_eq_ediv_of_nonneg _ (by omega), hcs]; omega
      have w5 : IntKind.u32.wrap ((lm D i * q + cyM D q i : Nat) : Int) = (lm P i : Int) := by rw [u32_mod, ← hlim]
      have e3 : IntKind.i64.wrap ((i : Int) + 1) = ((i + 1 : Nat) : Int) := by rw [i64_in _ (by omega)]; omega
      have k2 := hcell i c1
      simp only [↓R0, R1, rdL, rdH, isCall, istep, ibin, vcells, fillI, setR, flat, okCell, isBase, List.set, List.drop, List.take, List.append, bnds, bhi, blo, srcOf, ↓reduceIte, Nat.reduceEqDiff, Nat.reduceAdd, Nat.reduceLeDiff, reduceCtorEq, Nat.reduceSub, Int.reduceEq, Int.reduceLT, Int.reduceLE, Int.reduceGT, Int.reduceGE, Int.reduceSub, Int.reduceAdd, Int.reduceMul, Int.reduceNe, Int.reduceNeg, Int.reduceToNat, Nat.reduceMul, h0, h1, h2, h7, h8, h15, h16, h17, hb1, hbb, c1, c1', c2', c3, c3', n1, eq64, w1, w2, w3, w4, w5, e3, k1, k2, spSub32, v1, v2, v3, v4, v5, tb_length, tb_set]
      refine ⟨m - 1, by omega, i + 1, _, by omega, rfl, rfl, rfl, rfl, fun j hj => ?_, ?_⟩
      · by_cases g : j = off + i
        · rw [if_pos g, if_pos (by omega), g]; congr 1; omega
        · rw [if_neg g, hf j hj]
          by_cases g2 : off ≤ j ∧ j < off + i
          · rw [if_pos g2, if_pos (by omega)]
          · rw [if_neg g2, if_neg (by omega)]
      · intro q hq hqk
        simp only [if_neg (fun e : ku = q => hqk e.symm)]
        exact hh q hq hqk
    · have ei : i = dlen := by omega
      subst ei
      have w1 : IntKind.u32.wrap (cyM D q i : Int) = (lm P i : Int) := by rw [u32_nat hc1, hct]
      have hcy := tk_cy hU hP
      simp only [↓R0, R1, rdL, rdH, isCall, istep, ibin, vcells, fillI, setR, flat, okCell, isBase, List.set, List.drop, List.take, List.append, bnds, bhi, blo, srcOf, ↓reduceIte, Nat.reduceEqDiff, Nat.reduceAdd, Nat.reduceLeDiff, reduceCtorEq, Nat.reduceSub, Int.reduceEq, Int.reduceLT, Int.reduceLE, Int.reduceGT, Int.reduceGE, Int.reduceSub, Int.reduceAdd, Int.reduceMul, Int.reduceNe, Int.reduceNeg, Int.reduceToNat, Nat.reduceMul, h0, h1, h2, h7, h8, h15, h16, h17, hb1, hbb, c1, c2', c3, c3', n1, w1, k1, spSub32, v1, v2, v3, v4, v5, tb_length, tb_set]
      have hg0 : ∀ j, j < L → (fun j => if j = off + i then lm (tkT U P i) i else f j) j = if off ≤ j ∧ j < off + (i + 1) then lm (tkT U P i) (j - off) else lm W j := by
        intro j hj
        simp only
        by_cases g : j = off + i
        · rw [if_pos g, if_pos (by omega), g]; congr 1; omega
        · rw [if_neg g, hf j hj]
          by_cases g2 : off ≤ j ∧ j < off + i
          · rw [if_pos g2, if_pos (by omega)]
          · rw [if_neg g2, if_neg (by omega)]
      have hh0 : ∀ q, q < N → q ≠ ku → hget ((ku, some (⟨elem, sz, x, tb L (fun j => if j = off + i then lm (tkT U P i) i else f j)⟩ : Blk)) :: hp) q = hget h q := by
        intro q hq hqk
        simp only [hget, if_neg (fun e : ku = q => hqk e.symm)]
        exact hh q hq hqk
      generalize (fun j => if j = off + i then lm (tkT U P i) i else f j) = g at *
      by_cases hlt : U < P
      · rw [if_pos hlt] at hcy
        have z1 : ((1 : Nat) : Int) = 1 := rfl
        have hblt : Nat.blt U P = true := by rw [Nat.blt_eq]; exact hlt
        have hX : tkX U P D i = tkT U P i + D := by unfold tkX tkT; rw [if_pos hlt]
        rw [hblt, hX]
        generalize tkT U P i = T at *
        simp only [↓R0, R1, rdL, rdH, isCall, istep, ibin, vcells, fillI, setR, flat, okCell, isBase, List.set, List.drop, List.take, List.append, bnds, bhi, blo, srcOf, ↓reduceIte, Nat.reduceEqDiff, Nat.reduceAdd, Nat.reduceLeDiff, reduceCtorEq, Nat.reduceSub, Int.reduceEq, Int.reduceLT, Int.reduceLE, Int.reduceGT, Int.reduceGE, Int.reduceSub, Int.reduceAdd, Int.reduceMul, Int.reduceNe, Int.reduceNeg, Int.reduceToNat, Nat.reduceMul, hcy, z1, h1]
        refine lp_parts (fun m2 tm hp nx => ∃ (r : Nat) (f : Nat → Nat), m2 + r = i ∧ tmget tm 0 = .slice (some ⟨ku, off, none⟩) (i + 1) cap ∧ tmget tm 1 = .slice (some ⟨kd, od, none⟩) i dcap ∧
          tmget tm 12 = .int .u32 (cyA T D r : Nat) ∧ tmget tm 64 = .slice (some ⟨kd, od, none⟩) i dcap ∧ tmget tm 65 = .int .i64 i ∧ tmget tm 66 = .int .i64 r ∧
          hget hp ku = some ⟨elem, sz, x, tb L f⟩ ∧ (∀ j, j < L → f j = if off ≤ j ∧ j < off + r then lm (T + D) (j - off) else if off ≤ j ∧ j < off + (i + 1) then lm T (j - off) else lm W j) ∧ (∀ q, q < N → q ≠ ku → hget hp q = hget h q) ∧ nx = N + 0) ?_ i
          ⟨0, g, by omega, ?_, ?_, ?_, ?_, ?_, ?_, ?_, fun j hj => by rw [hg0 j hj, if_neg (show ¬ (off ≤ j ∧ j < off + 0) by omega)], hh0, rfl⟩
        · clear hh0 hg0 hh hbb hb1 hf h0 h1 h2 h7 h8 h15 h16 h17 k1 v1 v3 v4 v5 hfi
          clear tm hp f g hm m
          intro m2 tm hp nx ⟨r, f, hm, h0, h1, h12, h64, h65, h66, hb1, hf, hh, hnx⟩
          rw [hnx]
          clear hnx nx
          have hbb : hget hp kd = some blkd := by rw [hh kd hkd (fun e => hne e.symm)]; exact hbd
          have c4 : r ≤ i := by omega
          have c4' : r < i + 1 := by omega
          have c5 : off + r < L := by omega
          have c5' : off + r + 1 ≤ L := by omega
          have hfr : f (off + r) = lm T r := by rw [hf _ c5, if_neg (by omega), if_pos (by omega)]; congr 1; omega
          have k1 := tb_get' f c5
          rw [hfr] at k1
          have b1 := lm_lt T r
          have b2 := lm_lt D r
          have b3 := cyA_le T D r
          have v1 : ((lm T r : Nat) : Int) < 4294967296 := by omega
          have v2 : ((lm D r : Nat) : Int) < 4294967296 := by omega
          have v3 : ((cyA T D r : Nat) : Int) ≤ 1 := by omega
          have v4 : ((lm T r : Int) + lm D r + cyA T D r) % 4294967296 = (lm (T + D) r : Int) := by rw [add_limb]; omega
          have v5 : ((lm T r : Int) + lm D r + cyA T D r) / 4294967296 = (cyA T D (r + 1) : Int) := by rw [cyA_succ]; omega
          by_cases c6 : r < i
          · have k2 := hcell r c6
            have e3 : IntKind.i64.wrap ((r : Int) + 1) = ((r + 1 : Nat) : Int) := by rw [i64_in _ (by omega)]; omega
            simp only [↓R0, R1, rdL, rdH, isCall, istep, ibin, vcells, fillI, setR, flat, okCell, isBase, List.set, List.drop, List.take, List.append, bnds, bhi, blo, srcOf, ↓reduceIte, Nat.reduceEqDiff, Nat.reduceAdd, Nat.reduceLeDiff, reduceCtorEq, Nat.reduceSub, Int.reduceEq, Int.reduceLT, Int.reduceLE, Int.reduceGT, Int.reduceGE, Int.reduceSub, Int.reduceAdd, Int.reduceMul, Int.reduceNe, Int.reduceNeg, Int.reduceToNat, Nat.reduceMul, h0, h1, h12, h64, h65, h66, hb1, hbb, c4, c4', c5, c5', c6, n1, e3, k1, k2, spAdd32, v1, v2, v3, v4, v5, tb_length, tb_set]
            refine ⟨m2 - 1, by omega, r + 1, _, by omega, rfl, rfl, rfl, fun j hj => ?_, ?_⟩
            · by_cases g : j = off + r
              · rw [if_pos g, if_pos (by omega), g]; congr 1; omega
              · rw [if_neg g, hf j hj]
                by_cases g2 : off ≤ j ∧ j < off + r
                · rw [if_pos g2, if_pos (by omega)]
                · rw [if_neg g2, if_neg (show ¬ (off ≤ j ∧ j < off + (r + 1)) by omega)]
            · intro q hq hqk
              simp only [if_neg (fun e : ku = q => hqk e.symm)]
              exact hh q hq hqk
          · have er : r = i := by omega
            subst er
            have hz : lm D r = 0 := lm_of_lt' hD (Nat.le_refl _)
            have w1 : IntKind.u32.wrap ((lm T r : Int) + (cyA T D r : Int)) = (lm (T + D) r : Int) := by rw [u32_int, add_limb, hz]; omega
            simp only [↓R0, R1, rdL, rdH, isCall, istep, ibin, vcells, fillI, setR, flat, okCell, isBase, List.set, List.drop, List.take, List.append, bnds, bhi, blo, srcOf, ↓reduceIte, Nat.reduceEqDiff, Nat.reduceAdd, Nat.reduceLeDiff, reduceCtorEq, Nat.reduceSub, Int.reduceEq, Int.reduceLT, Int.reduceLE, Int.reduceGT, Int.reduceGE, Int.reduceSub, Int.reduceAdd, Int.reduceMul, Int.reduceNe, Int.reduceNeg, Int.reduceToNat, Nat.reduceMul, h0, h1, h12, h64, h65, h66, hb1, hbb, c4, c4', c5, c5', c6, n1, k1, w1, tb_length, tb_set, FinU, Fin, isEnd, resL, res1, iE, rE]
            refine ⟨_, rfl, rfl, ?_, ?_⟩
            · congr 2
              apply tb_congr
              intro j hj
              by_cases g : j = off + r
              · rw [if_pos g, if_pos (by omega), g]; congr 1; omega
              · rw [if_neg g, hf j hj]
                by_cases g2 : off ≤ j ∧ j < off + r
                · rw [if_pos g2, if_pos (by omega)]
                · rw [if_neg g2]
                  by_cases g3 : off ≤ j ∧ j < off + (r + 1)
                  · omega
                  · rw [if_neg g3, if_neg g3]
            · intro q hq hqk
              simp only [if_neg (fun e : ku = q => hqk e.symm)]
              exact hh q hq hqk
        · (first | (simp only [↓R0, R1, rdL, rdH, isCall, istep, ibin, vcells, fillI, setR, flat, okCell, isBase, List.set, List.drop, List.take, List.append, bnds, bhi, blo, srcOf, ↓reduceIte, Nat.reduceEqDiff, Nat.reduceAdd, Nat.reduceLeDiff, reduceCtorEq, Nat.reduceSub, Int.reduceEq, Int.reduceLT, Int.reduceLE, Int.reduceGT, Int.reduceGE, Int.reduceSub, Int.reduceAdd, Int.reduceMul, Int.reduceNe, Int.reduceNeg, Int.reduceToNat, Nat.reduceMul, h0]; done) | (simp only [↓R0, R1, rdL, rdH, isCall, istep, ibin, vcells, fillI, setR, flat, okCell, isBase, List.set, List.drop, List.take, List.append, bnds, bhi, blo, srcOf, ↓reduceIte, Nat.reduceEqDiff, Nat.reduceAdd, Nat.reduceLeDiff, reduceCtorEq, Nat.reduceSub, Int.reduceEq, Int.reduceLT, Int.reduceLE, Int.reduceGT, Int.reduceGE, Int.reduceSub, Int.reduceAdd, Int.reduceMul, Int.reduceNe, Int.reduceNeg, Int.reduceToNat, Nat.reduceMul, h0]; rfl) | rfl)
        · (first | (simp only [↓R0, R1, rdL, rdH, isCall, istep, ibin, vcells, fillI, setR, flat, okCell, isBase, List.set, List.drop, List.take, List.append, bnds, bhi, blo, srcOf, ↓reduceIte, Nat.reduceEqDiff, Nat.reduceAdd, Nat.reduceLeDiff, reduceCtorEq, Nat.reduceSub, Int.reduceEq, Int.reduceLT, Int.reduceLE, Int.reduceGT, Int.reduceGE, Int.reduceSub, Int.reduceAdd, Int.reduceMul, Int.reduceNe, Int.reduceNeg, Int.reduceToNat, Nat.reduceMul, h1]; done) | (simp only [↓R0, R1, rdL, rdH, isCall, istep, ibin, vcells, fillI, setR, flat, okCell, isBase, List.set, List.drop, List.take, List.append, bnds, bhi, blo, srcOf, ↓reduceIte, Nat.reduceEqDiff, Nat.reduceAdd, Nat.reduceLeDiff, reduceCtorEq, Nat.reduceSub, Int.reduceEq, Int.reduceLT, Int.reduceLE, Int.reduceGT, Int.reduceGE, Int.reduceSub, Int.reduceAdd, Int.reduceMul, Int.reduceNe, Int.reduceNeg, Int.reduceToNat, Nat.reduceMul, h1]; rfl) | rfl)
        · (first | (simp only [↓R0, R1, rdL, rdH, isCall, istep, ibin, vcells, fillI, setR, flat, okCell, isBase, List.set, List.drop, List.take, List.append, bnds, bhi, blo, srcOf, ↓reduceIte, Nat.reduceEqDiff, Nat.reduceAdd, Nat.reduceLeDiff, reduceCtorEq, Nat.reduceSub, Int.reduceEq, Int.reduceLT, Int.reduceLE, Int.reduceGT, Int.reduceGE, Int.reduceSub, Int.reduceAdd, Int.reduceMul, Int.reduceNe, Int.reduceNeg, Int.reduceToNat, Nat.reduceMul, cyA_zero]; done) | (simp only [↓R0, R1, rdL, rdH, isCall, istep, ibin, vcells, fillI, setR, flat, okCell, isBase, List.set, List.drop, List.take, List.append, bnds, bhi, blo, srcOf, ↓reduceIte, Nat.reduceEqDiff, Nat.reduceAdd, Nat.reduceLeDiff, reduceCtorEq, Nat.reduceSub, Int.reduceEq, Int.reduceLT, Int.reduceLE, Int.reduceGT, Int.reduceGE, Int.reduceSub, Int.reduceAdd, Int.reduceMul, Int.reduceNe, Int.reduceNeg, Int.reduceToNat, Nat.reduceMul, cyA_zero]; rfl) | rfl)
        · (first | (simp only [↓R0, R1, rdL, rdH, isCall, istep, ibin, vcells, fillI, setR, flat, okCell, isBase, List.set, List.drop, List.take, List.append, bnds, bhi, blo, srcOf, ↓reduceIte, Nat.reduceEqDiff, Nat.reduceAdd, Nat.reduceLeDiff, reduceCtorEq, Nat.reduceSub, Int.reduceEq, Int.reduceLT, Int.reduceLE, Int.reduceGT, Int.reduceGE, Int.reduceSub, Int.reduceAdd, Int.reduceMul, Int.reduceNe, Int.reduceNeg, Int.reduceToNat, Nat.reduceMul, h1]; done) | (simp only [↓R0, R1, rdL, rdH, isCall, istep, ibin, vcells, fillI, setR, flat, okCell, isBase, List.set, List.drop, List.take, List.append, bnds, bhi, blo, srcOf, ↓reduceIte, Nat.reduceEqDiff, Nat.reduceAdd, Nat.reduceLeDiff, reduceCtorEq, Nat.reduceSub, Int.reduceEq, Int.reduceLT, Int.reduceLE, Int.reduceGT, Int.reduceGE, Int.reduceSub, Int.reduceAdd, Int.reduceMul, Int.reduceNe, Int.reduceNeg, Int.reduceToNat, Nat.reduceMul, h1]; rfl) | rfl)
        · (first | (simp only [↓R0, R1, rdL, rdH, isCall, istep, ibin, vcells, fillI, setR, flat, okCell, isBase, List.set, List.drop, List.take, List.append, bnds, bhi, blo, srcOf, ↓reduceIte, Nat.reduceEqDiff, Nat.reduceAdd, Nat.reduceLeDiff, reduceCtorEq, Nat.reduceSub, Int.reduceEq, Int.reduceLT, Int.reduceLE, Int.reduceGT, Int.reduceGE, Int.reduceSub, Int.reduceAdd, Int.reduceMul, Int.reduceNe, Int.reduceNeg, Int.reduceToNat, Nat.reduceMul]; done) | (simp only [↓R0, R1, rdL, rdH, isCall, istep, ibin, vcells, fillI, setR, flat, okCell, isBase, List.set, List.drop, List.take, List.append, bnds, bhi, blo, srcOf, ↓reduceIte, Nat.reduceEqDiff, Nat.reduceAdd, Nat.reduceLeDiff, reduceCtorEq, Nat.reduceSub, Int.reduceEq, Int.reduceLT, Int.reduceLE, Int.reduceGT, Int.reduceGE, Int.reduceSub, Int.reduceAdd, Int.reduceMul, Int.reduceNe, Int.reduceNeg, Int.reduceToNat, Nat.reduceMul]; rfl) | rfl)
        · (first | (simp only [↓R0, R1, rdL, rdH, isCall, istep, ibin, vcells, fillI, setR, flat, okCell, isBase, List.set, List.drop, List.take, List.append, bnds, bhi, blo, srcOf, ↓reduceIte, Nat.reduceEqDiff, Nat.reduceAdd, Nat.reduceLeDiff, reduceCtorEq, Nat.reduceSub, Int.reduceEq, Int.reduceLT, Int.reduceLE, Int.reduceGT, Int.reduceGE, Int.reduceSub, Int.reduceAdd, Int.reduceMul, Int.reduceNe, Int.reduceNeg, Int.reduceToNat, Nat.reduceMul]; done) | (simp only [↓R0, R1, rdL, rdH, isCall, istep, ibin, vcells, fillI, setR, flat, okCell, isBase, List.set, List.drop, List.take, List.append, bnds, bhi, blo, srcOf, ↓reduceIte, Nat.reduceEqDiff, Nat.reduceAdd, Nat.reduceLeDiff, reduceCtorEq, Nat.reduceSub, Int.reduceEq, Int.reduceLT, Int.reduceLE, Int.reduceGT, Int.reduceGE, Int.reduceSub, Int.reduceAdd, Int.reduceMul, Int.reduceNe, Int.reduceNeg, Int.reduceToNat, Nat.reduceMul]; rfl) | rfl)
        · (first | (simp only [↓R0, R1, rdL, rdH, isCall, istep, ibin, vcells, fillI, setR, flat, okCell, isBase, List.set, List.drop, List.take, List.append, bnds, bhi, blo, srcOf, ↓reduceIte, Nat.reduceEqDiff, Nat.reduceAdd, Nat.reduceLeDiff, reduceCtorEq, Nat.reduceSub, Int.reduceEq, Int.reduceLT, Int.reduceLE, Int.reduceGT, Int.reduceGE, Int.reduceSub, Int.reduceAdd, Int.reduceMul, Int.reduceNe, Int.reduceNeg, Int.reduceToNat, Nat.reduceMul]; done) | (simp only [↓R0, R1, rdL, rdH, isCall, istep, ibin, vcells, fillI, setR, flat, okCell, isBase, List.set, List.drop, List.take, List.append, bnds, bhi, blo, srcOf, ↓reduceIte, Nat.reduceEqDiff, Nat.reduceAdd, Nat.reduceLeDiff, reduceCtorEq, Nat.reduceSub, Int.reduceEq, Int.reduceLT, Int.reduceLE, Int.reduceGT, Int.reduceGE, Int.reduceSub, Int.reduceAdd, Int.reduceMul, Int.reduceNe, Int.reduceNeg, Int.reduceToNat, Nat.reduceMul]; rfl) | rfl)
      · rw [if_neg hlt] at hcy
        have z1 : ((0 : Nat) : Int) = 0 := rfl
        have hblt : Nat.blt U P = false := by
          cases hb : Nat.blt U P with
          | false => rfl
          | true => rw [Nat.blt_eq] at hb; exact absurd hb hlt
        rw [hblt]
        simp only [↓R0, R1, rdL, rdH, isCall, istep, ibin, vcells, fillI, setR, flat, okCell, isBase, List.set, List.drop, List.take, List.append, bnds, bhi, blo, srcOf, ↓reduceIte, Nat.reduceEqDiff, Nat.reduceAdd, Nat.reduceLeDiff, reduceCtorEq, Nat.reduceSub, Int.reduceEq, Int.reduceLT, Int.reduceLE, Int.reduceGT, Int.reduceGE, Int.reduceSub, Int.reduceAdd, Int.reduceMul, Int.reduceNe, Int.reduceNeg, Int.reduceToNat, Nat.reduceMul, hcy, z1, FinU, Fin, isEnd, resL, res1, iE, rE]
        refine ⟨_, rfl, rfl, ?_, ?_⟩
        · congr 2
          apply tb_congr
          intro j hj
          rw [hg0 j hj]
          by_cases g2 : off ≤ j ∧ j < off + (i + 1)
          · rw [if_pos g2, if_pos g2, tk_done hlt (by omega)]
          · rw [if_neg g2, if_neg g2]
        · intro q hq hqk
          simp only [if_neg (fun e : ku = q => hqk e.symm)]
          exact hh q hq hqk
  · (first | (simp only [↓R0, R1, rdL, rdH, isCall, istep, ibin, vcells, fillI, setR, flat, okCell, isBase, List.set, List.drop, List.take, List.append, bnds, bhi, blo, srcOf, ↓reduceIte, Nat.reduceEqDiff, Nat.reduceAdd, Nat.reduceLeDiff, reduceCtorEq, Nat.reduceSub, Int.reduceEq, Int.reduceLT, Int.reduceLE, Int.reduceGT, Int.reduceGE, Int.reduceSub, Int.reduceAdd, Int.reduceMul, Int.reduceNe, Int.reduceNeg, Int.reduceToNat, Nat.reduceMul]; done) | (simp only [↓R0, R1, rdL, rdH, isCall, istep, ibin, vcells, fillI, setR, flat, okCell, isBase, List.set, List.drop, List.take, List.append, bnds, bhi, blo, srcOf, ↓reduceIte, Nat.reduceEqDiff, Nat.reduceAdd, Nat.reduceLeDiff, reduceCtorEq, Nat.reduceSub, Int.reduceEq, Int.reduceLT, Int.reduceLE, Int.reduceGT, Int.reduceGE, Int.reduceSub, Int.reduceAdd, Int.reduceMul, Int.reduceNe, Int.reduceNeg, Int.reduceToNat, Nat.reduceMul]; rfl) | rfl)
  · (first | (simp only [↓R0, R1, rdL, rdH, isCall, istep, ibin, vcells, fillI, setR, flat, okCell, isBase, List.set, List.drop, List.take, List.append, bnds, bhi, blo, srcOf, ↓reduceIte, Nat.reduceEqDiff, Nat.reduceAdd, Nat.reduceLeDiff, reduceCtorEq, Nat.reduceSub, Int.reduceEq, Int.reduceLT, Int.reduceLE, Int.reduceGT, Int.reduceGE, Int.reduceSub, Int.reduceAdd, Int.reduceMul, Int.reduceNe, Int.reduceNeg, Int.reduceToNat, Nat.reduceMul]; done) | (simp only [↓R0, R1, rdL, rdH, isCall, istep, ibin, vcells, fillI, setR, flat, okCell, isBase, List.set, List.drop, List.take, List.append, bnds, bhi, blo, srcOf, ↓reduceIte, Nat.reduceEqDiff, Nat.reduceAdd, Nat.reduceLeDiff, reduceCtorEq, Nat.reduceSub, Int.reduceEq, Int.reduceLT, Int.reduceLE, Int.reduceGT, Int.reduceGE, Int.reduceSub, Int.reduceAdd, Int.reduceMul, Int.reduceNe, Int.reduceNeg, Int.reduceToNat, Nat.reduceMul]; rfl) | rfl)
  · (first | (simp only [↓R0, R1, rdL, rdH, isCall, istep, ibin, vcells, fillI, setR, flat, okCell, isBase, List.set, List.drop, List.take, List.append, bnds, bhi, blo, srcOf, ↓reduceIte, Nat.reduceEqDiff, Nat.reduceAdd, Nat.reduceLeDiff, reduceCtorEq, Nat.reduceSub, Int.reduceEq, Int.reduceLT, Int.reduceLE, Int.reduceGT, Int.reduceGE, Int.reduceSub, Int.reduceAdd, Int.reduceMul, Int.reduceNe, Int.reduceNeg, Int.reduceToNat, Nat.reduceMul]; done) | (simp only [↓R0, R1, rdL, rdH, isCall, istep, ibin, vcells, fillI, setR, flat, okCell, isBase, List.set, List.drop, List.take, List.append, bnds, bhi, blo, srcOf, ↓reduceIte, Nat.reduceEqDiff, Nat.reduceAdd, Nat.reduceLeDiff, reduceCtorEq, Nat.reduceSub, Int.reduceEq, Int.reduceLT, Int.reduceLE, Int.reduceGT, Int.reduceGE, Int.reduceSub, Int.reduceAdd, Int.reduceMul, Int.reduceNe, Int.reduceNeg, Int.reduceToNat, Nat.reduceMul]; rfl) | rfl)
  · (first | (simp only [↓R0, R1, rdL, rdH, isCall, istep, ibin, vcells, fillI, setR, flat, okCell, isBase, List.set, List.drop, List.take, List.append, bnds, bhi, blo, srcOf, ↓reduceIte, Nat.reduceEqDiff, Nat.reduceAdd, Nat.reduceLeDiff, reduceCtorEq, Nat.reduceSub, Int.reduceEq, Int.reduceLT, Int.reduceLE, Int.reduceGT, Int.reduceGE, Int.reduceSub, Int.reduceAdd, Int.reduceMul, Int.reduceNe, Int.reduceNeg, Int.reduceToNat, Nat.reduceMul, cyM_zero]; done) | (simp only [↓R0, R1, rdL, rdH, isCall, istep, ibin, vcells, fillI, setR, flat, okCell, isBase, List.set, List.drop, List.take, List.append, bnds, bhi, blo, srcOf, ↓reduceIte, Nat.reduceEqDiff, Nat.reduceAdd, Nat.reduceLeDiff, reduceCtorEq, Nat.reduceSub, Int.reduceEq, Int.reduceLT, Int.reduceLE, Int.reduceGT, Int.reduceGE, Int.reduceSub, Int.reduceAdd, Int.reduceMul, Int.reduceNe, Int.reduceNeg, Int.reduceToNat, Nat.reduceMul, cyM_zero]; rfl) | rfl)
  · (first | (simp only [↓R0, R1, rdL, rdH, isCall, istep, ibin, vcells, fillI, setR, flat, okCell, isBase, List.set, List.drop, List.take, List.append, bnds, bhi, blo, srcOf, ↓reduceIte, Nat.reduceEqDiff, Nat.reduceAdd, Nat.reduceLeDiff, reduceCtorEq, Nat.reduceSub, Int.reduceEq, Int.reduceLT, Int.reduceLE, Int.reduceGT, Int.reduceGE, Int.reduceSub, Int.reduceAdd, Int.reduceMul, Int.reduceNe, Int.reduceNeg, Int.reduceToNat, Nat.reduceMul, cyS_zero]; done) | (simp only [↓R0, R1, rdL, rdH, isCall, istep, ibin, vcells, fillI, setR, flat, okCell, isBase, List.set, List.drop, List.take, List.append, bnds, bhi, blo, srcOf, ↓reduceIte, Nat.reduceEqDiff, Nat.reduceAdd, Nat.reduceLeDiff, reduceCtorEq, Nat.reduceSub, Int.reduceEq, Int.reduceLT, Int.reduceLE, Int.reduceGT, Int.reduceGE, Int.reduceSub, Int.reduceAdd, Int.reduceMul, Int.reduceNe, Int.reduceNeg, Int.reduceToNat, Nat.reduceMul, cyS_zero]; rfl) | rfl)
  · (first | (simp only [↓R0, R1, rdL, rdH, isCall, istep, ibin, vcells, fillI, setR, flat, okCell, isBase, List.set, List.drop, List.take, List.append, bnds, bhi, blo, srcOf, ↓reduceIte, Nat.reduceEqDiff, Nat.reduceAdd, Nat.reduceLeDiff, reduceCtorEq, Nat.reduceSub, Int.reduceEq, Int.reduceLT, Int.reduceLE, Int.reduceGT, Int.reduceGE, Int.reduceSub, Int.reduceAdd, Int.reduceMul, Int.reduceNe, Int.reduceNeg, Int.reduceToNat, Nat.reduceMul]; done) | (simp only [↓R0, R1, rdL, rdH, isCall, istep, ibin, vcells, fillI, setR, flat, okCell, isBase, List.set, List.drop, List.take, List.append, bnds, bhi, blo, srcOf, ↓reduceIte, Nat.reduceEqDiff, Nat.reduceAdd, Nat.reduceLeDiff, reduceCtorEq, Nat.reduceSub, Int.reduceEq, Int.reduceLT, Int.reduceLE, Int.reduceGT, Int.reduceGE, Int.reduceSub, Int.reduceAdd, Int.reduceMul, Int.reduceNe, Int.reduceNeg, Int.reduceToNat, Nat.reduceMul]; rfl) | rfl)
  · (first | (simp only [↓R0, R1, rdL, rdH, isCall, istep, ibin, vcells, fillI, setR, flat, okCell, isBase, List.set, List.drop, List.take, List.append, bnds, bhi, blo, srcOf, ↓reduceIte, Nat.reduceEqDiff, Nat.reduceAdd, Nat.reduceLeDiff, reduceCtorEq, Nat.reduceSub, Int.reduceEq, Int.reduceLT, Int.reduceLE, Int.reduceGT, Int.reduceGE, Int.reduceSub, Int.reduceAdd, Int.reduceMul, Int.reduceNe, Int.reduceNeg, Int.reduceToNat, Nat.reduceMul]; done) | (simp only [↓R0, R1, rdL, rdH, isCall, istep, ibin, vcells, fillI, setR, flat, okCell, isBase, List.set, List.drop, List.take, List.append, bnds, bhi, blo, srcOf, ↓reduceIte, Nat.reduceEqDiff, Nat.reduceAdd, Nat.reduceLeDiff, reduceCtorEq, Nat.reduceSub, Int.reduceEq, Int.reduceLT, Int.reduceLE, Int.reduceGT, Int.reduceGE, Int.reduceSub, Int.reduceAdd, Int.reduceMul, Int.reduceNe, Int.reduceNeg, Int.reduceToNat, Nat.reduceMul]; rfl) | rfl)
  · (first | (simp only [↓R0, R1, rdL, rdH, isCall, istep, ibin, vcells, fillI, setR, flat, okCell, isBase, List.set, List.drop, List.take, List.append, bnds, bhi, blo, srcOf, ↓reduceIte, Nat.reduceEqDiff, Nat.reduceAdd, Nat.reduceLeDiff, reduceCtorEq, Nat.reduceSub, Int.reduceEq, Int.reduceLT, Int.reduceLE, Int.reduceGT, Int.reduceGE, Int.reduceSub, Int.reduceAdd, Int.reduceMul, Int.reduceNe, Int.reduceNeg, Int.reduceToNat, Nat.reduceMul]; done) | (simp only [↓R0, R1, rdL, rdH, isCall, istep, ibin, vcells, fillI, setR, flat, okCell, isBase, List.set, List.drop, List.take, List.append, bnds, bhi, blo, srcOf, ↓reduceIte, Nat.reduceEqDiff, Nat.reduceAdd, Nat.reduceLeDiff, reduceCtorEq, Nat.reduceSub, Int.reduceEq, Int.reduceLT, Int.reduceLE, Int.reduceGT, Int.reduceGE, Int.reduceSub, Int.reduceAdd, Int.reduceMul, Int.reduceNe, Int.reduceNeg, Int.reduceToNat, Nat.reduceMul]; rfl) | rfl)
end Go.Eng
end
section
set_option linter.unusedVariables false
set_option linter.unusedSimpArgs false
set_option linter.unusedSectionVars false
namespace Go.Eng
theorem lg_facts {R Dv k p : Nat} (hD : Dv < 4294967296 ^ (p + 2)) (hD1 : 4294967296 ^ (p + 1) ≤ Dv) (hR : R < Dv * 4294967296 ^ (k + 1)) :
    1 ≤ lm Dv (p + 1) ∧ R / 4294967296 ^ k / Dv < 4294967296 ∧
    lm R (k + (p + 2)) * 4294967296 + lm R (k + (p + 1)) < (lm Dv (p + 1) + 1) * 4294967296 ∧
    R / 4294967296 ^ k / Dv * (lm Dv (p + 1) * 4294967296 + lm Dv p) ≤ (lm R (k + (p + 2)) * 4294967296 + lm R (k + (p + 1))) * 4294967296 + lm R (k + p) ∧
    ∀ q r, q * lm Dv (p + 1) + r = lm R (k + (p + 2)) * 4294967296 + lm R (k + (p + 1)) → q * lm Dv p ≤ r * 4294967296 + lm R (k + p) → q < 4294967296 → q ≤ R / 4294967296 ^ k / Dv + 1 := by
  have hDp : 0 < Dv := Nat.lt_of_lt_of_le (pB (p + 1)) hD1
  have hseg : R / 4294967296 ^ k < Dv * 4294967296 := by
    refine Nat.div_lt_of_lt_mul ?_
    rw [Nat.pow_succ, ← Nat.mul_assoc, Nat.mul_comm Dv, Nat.mul_assoc] at hR
    exact hR
  have hseg3 : R / 4294967296 ^ k < 4294967296 ^ (p + 3) := by
    rw [show p + 3 = p + 2 + 1 by omega, Nat.pow_succ]
    exact Nat.lt_of_lt_of_le hseg (Nat.mul_le_mul_right _ (Nat.le_of_lt hD))
  have e1 := lm_shift R k (p + 2)
  have e2 := lm_shift R k (p + 1)
  have e3 := lm_shift R k p
  rw [← e1, ← e2, ← e3]
  generalize R / 4294967296 ^ k = seg at *
  have hparts := kn_parts hD
  have hfront := kn_front hseg3
  have hdl := Nat.mod_lt Dv (pB p)
  have hsl := Nat.mod_lt seg (pB p)
  have hd2 := lm_lt Dv p
  have htop : 1 ≤ lm Dv (p + 1) := by
    rw [lm_top (j := p + 1) hD]
    exact (Nat.le_div_iff_mul_le (pB _)).2 (by rw [Nat.one_mul]; exact hD1)
  refine ⟨htop, ?_, ?_, ?_, ?_⟩
  · rw [Nat.div_lt_iff_lt_mul hDp, Nat.mul_comm]; exact hseg
  · exact kn_lt hparts hd2 hdl hfront hseg (by omega)
  · exact kn_true hparts hfront hsl (by rw [Nat.mul_comm]; exact Nat.mul_div_le _ _)
  · intro q r hr hc hq
    have h := kn_end (P := 4294967296 ^ p) hr hc hq htop hdl
    rw [← hparts] at h
    have h2 : (q - 1) * Dv ≤ seg := by rw [hfront]; omega
    have := (Nat.le_div_iff_mul_le hDp).2 h2
    omega
theorem lg_cells {R Dv k m q qd : Nat} (hDp : 0 < Dv) (hD : Dv < 4294967296 ^ m) (hR : R < Dv * 4294967296 ^ (k + 1)) (hqd : qd = R / 4294967296 ^ k / Dv) (hle : qd ≤ q) (hge : q ≤ qd + 1) :
    (R / 4294967296 ^ k < q * Dv ↔ q = qd + 1) ∧ ∀ j, (if k ≤ j ∧ j < k + (m + 1) then lm (tkX (R / 4294967296 ^ k) (q * Dv) Dv m) (j - k) else lm R j) = lm (R - qd * (Dv * 4294967296 ^ k)) j := by
  have hRB : R < 4294967296 ^ (k + m + 1) := by
    refine Nat.lt_of_lt_of_le hR ?_
    rw [show k + m + 1 = m + (k + 1) by omega, Nat.pow_add _ m]
    exact Nat.mul_le_mul_right _ (Nat.le_of_lt hD)
  have hdm := Nat.div_add_mod R (4294967296 ^ k)
  have hml := Nat.mod_lt R (pB k)
  have hq1 : qd * Dv ≤ R / 4294967296 ^ k := by rw [hqd, Nat.mul_comm]; exact Nat.mul_div_le _ _
  have hq2 : R / 4294967296 ^ k < (qd + 1) * Dv := by rw [hqd, Nat.mul_comm]; exact Nat.lt_mul_div_succ _ hDp
  clear hqd
  generalize hs : R / 4294967296 ^ k = seg at *
  have hcase : (seg < q * Dv ↔ q = qd + 1) := by
    constructor
    · intro h
      rcases Nat.lt_or_ge q (qd + 1) with g | g
      · have : q = qd := by omega
        subst this; omega
      · omega
    · intro h; rw [h]; exact hq2
  refine ⟨hcase, fun j => ?_⟩
  have hY : R - qd * (Dv * 4294967296 ^ k) = R % 4294967296 ^ k + (seg - qd * Dv) * 4294967296 ^ k := by
    have e : seg = (seg - qd * Dv) + qd * Dv := by omega
    have : 4294967296 ^ k * seg = (seg - qd * Dv) * 4294967296 ^ k + qd * (Dv * 4294967296 ^ k) := by
      conv => lhs; rw [e]
      rw [Nat.mul_comm, Nat.add_mul, Nat.mul_assoc qd]
    omega
  have hX : ∀ i, i ≤ m → lm (tkX seg (q * Dv) Dv m) i = lm (seg - qd * Dv) i := by
    intro i hi
    unfold tkX
    by_cases c : seg < q * Dv
    · have hq := hcase.1 c
      rw [if_pos c, hq]
      have hB : Dv ≤ 4294967296 ^ (m + 1) := Nat.le_trans (Nat.le_of_lt hD) (Nat.pow_le_pow_right (by omega) (by omega))
      rw [Nat.add_mul, Nat.one_mul]
      rw [show seg + 4294967296 ^ (m + 1) - (qd * Dv + Dv) + Dv = seg - qd * Dv + 1 * 4294967296 ^ (m + 1) by omega, lm_add_mul (by omega)]
    · have hq : q = qd := by
        rcases Nat.lt_or_ge qd q with g | g
        · exact absurd (hcase.2 (by omega)) c
        · omega
      rw [if_neg c, hq]
  by_cases c : k ≤ j ∧ j < k + (m + 1)
  · rw [if_pos c, hX _ (by omega)]
    obtain ⟨i, rfl⟩ : ∃ i, j = k + i := ⟨j - k, by omega⟩
    rw [← lm_shift, hY, Nat.add_mul_div_right _ _ (pB k), Nat.div_eq_of_lt hml, Nat.zero_add]
    congr 1; omega
  · rw [if_neg c]
    by_cases c2 : j < k
    · rw [hY, lm_add_mul c2, lm_mod c2]
    · have hj : k + m + 1 ≤ j := by omega
      rw [lm_of_lt' hRB hj, lm_of_lt' (Nat.lt_of_le_of_lt (Nat.sub_le _ _) hRB) hj]
structure LG (u d p K L : Nat) : Prop where
  hi : d < 4294967296 ^ (p + 2)
  lo : 4294967296 ^ (p + 1) ≤ d
  quo : u < d * 4294967296 ^ K
  len : u < 4294967296 ^ L
def lgR (u d M : Nat) : Nat := u % (d * 4294967296 ^ M)
theorem lgR_top {u d p K L : Nat} (g : LG u d p K L) : lgR u d K = u := Nat.mod_eq_of_lt g.quo
theorem lgR_zero (u d : Nat) : lgR u d 0 = u % d := by unfold lgR; rw [Nat.pow_zero, Nat.mul_one]
theorem lg_ud {u d p K L m : Nat} (g : LG u d p K L) : ud (tb L (lm (lgR u d m))) = lgR u d m := by
  rw [ud_tb, Nat.mod_eq_of_lt]
  exact Nat.lt_of_le_of_lt (Nat.mod_le _ _) g.len
theorem lg_dv {u d p K L : Nat} (g : LG u d p K L) : ud (tb (p + 2) (lm d)) = d := by rw [ud_tb, Nat.mod_eq_of_lt g.hi]
theorem lg_end {u d p K L : Nat} (g : LG u d p K L) : ud (tb (p + 2) (lm (lgR u d 0))) = u % d := by
  rw [ud_tb, lgR_zero, Nat.mod_eq_of_lt]
  exact Nat.lt_trans (Nat.mod_lt _ (Nat.lt_of_lt_of_le (pB _) g.lo)) g.hi
theorem lg_step {u d p K L k : Nat} (g : LG u d p K L) (hk : k < K) (hL : k + (p + 2) < L) :
    ∃ t2 t1 t0 top d2 qd, lm (lgR u d (k + 1)) (k + (p + 2)) = t2 ∧ lm (lgR u d (k + 1)) (k + (p + 1)) = t1 ∧ lm (lgR u d (k + 1)) (k + p) = t0 ∧ lm d (p + 1) = top ∧ lm d p = d2 ∧ lm (u / d) k = qd ∧
      t2 < 4294967296 ∧ t1 < 4294967296 ∧ t0 < 4294967296 ∧ top < 4294967296 ∧ d2 < 4294967296 ∧ 1 ≤ top ∧ qd < 4294967296 ∧ t2 * 4294967296 + t1 < (top + 1) * 4294967296 ∧
      qd * (top * 4294967296 + d2) ≤ (t2 * 4294967296 + t1) * 4294967296 + t0 ∧
      (∀ q r, q * top + r = t2 * 4294967296 + t1 → q * d2 ≤ r * 4294967296 + t0 → q < 4294967296 → q ≤ qd + 1) ∧
      (∀ q, qd ≤ q → q ≤ qd + 1 → Nat.blt (lgR u d (k + 1) / 4294967296 ^ k % 4294967296 ^ (p + 2 + 1)) (q * d) = Nat.beq q (qd + 1) ∧ tkCells (lgR u d (k + 1)) k (p + 2) d q L = tb L (lm (lgR u d k))) := by
  have hd0 : 0 < d := Nat.lt_of_lt_of_le (pB _) g.lo
  have hR : lgR u d (k + 1) < d * 4294967296 ^ (k + 1) := Nat.mod_lt _ (Nat.mul_pos hd0 (pB _))
  have hq := dig_lm u d k hd0
  have hrest := dig_rest u d k hd0
  have e1 : u % (d * 4294967296 ^ (k + 1)) = lgR u d (k + 1) := rfl
  have e2 : u % (d * 4294967296 ^ k) = lgR u d k := rfl
  rw [e1] at hq hrest
  rw [e2] at hrest
  obtain ⟨f1, f2, f3, f4, f5⟩ := lg_facts g.hi g.lo hR
  refine ⟨_, _, _, _, _, _, rfl, rfl, rfl, rfl, rfl, rfl, lm_lt _ _, lm_lt _ _, lm_lt _ _, lm_lt _ _, lm_lt _ _, f1, lm_lt _ _, f3, ?_, ?_, ?_⟩
  · rw [← hq]; exact f4
  · rw [← hq]; exact f5
  · intro q h1 h2
    obtain ⟨c1, c2⟩ := lg_cells (m := p + 2) hd0 g.hi hR hq.symm h1 h2
    have hseg : lgR u d (k + 1) / 4294967296 ^ k < 4294967296 ^ (p + 2 + 1) := by
      refine Nat.div_lt_of_lt_mul (Nat.lt_of_lt_of_le hR ?_)
      rw [← Nat.pow_add, show k + (p + 2 + 1) = p + 2 + (k + 1) by omega, Nat.pow_add _ (p + 2)]
      exact Nat.mul_le_mul_right _ (Nat.le_of_lt g.hi)
    rw [Nat.mod_eq_of_lt hseg]
    constructor
    · rw [Bool.eq_iff_iff, Nat.blt_eq, Nat.beq_eq]; exact c1
    · unfold tkCells
      rw [Nat.mod_eq_of_lt hseg]
      apply tb_congr
      intro j _
      rw [c2 j, hrest]
def w2 (a b : Nat) : Nat := a * 4294967296 + b
theorem w2_lt {a b : Nat} (ha : a < 4294967296) (hb : b < 4294967296) : w2 a b < 18446744073709551616 := by unfold w2; omega
def LI (X top qd q r : Nat) : Prop := q * top + r = X ∧ qd ≤ q
theorem lg_step2 {u d p K L k : Nat} (g : LG u d p K L) (hk : k < K) (hL : k + (p + 2) < L) :
    ∃ t2 t1 t0 top d2 qd X, lm (lgR u d (k + 1)) (k + (p + 2)) = t2 ∧ lm (lgR u d (k + 1)) (k + (p + 1)) = t1 ∧ lm (lgR u d (k + 1)) (k + p) = t0 ∧ lm d (p + 1) = top ∧ lm d p = d2 ∧ lm (u / d) k = qd ∧ w2 t2 t1 = X ∧
      t2 < 4294967296 ∧ t1 < 4294967296 ∧ t0 < 4294967296 ∧ top < 4294967296 ∧ d2 < 4294967296 ∧ 1 ≤ top ∧ qd < 4294967296 ∧ X < 18446744073709551616 ∧
      LI X top qd (X / top) (X % top) ∧ (∀ q r, LI X top qd q r → 4294967296 ≤ q ∨ w2 r t0 < q * d2 → 1 ≤ q ∧ LI X top qd (q - 1) (r + top)) ∧
      (∀ q r, LI X top qd q r → q < 4294967296 → q * d2 ≤ w2 r t0 → qd ≤ q ∧ q ≤ qd + 1 ∧ q < 4294967296) ∧
      (∀ q r, LI X top qd q r → 4294967296 ≤ r → qd ≤ q ∧ q ≤ qd + 1 ∧ q < 4294967296) ∧ (∀ q r, LI X top qd q r → q ≤ X) ∧
      (∀ q, qd ≤ q → q ≤ qd + 1 → Nat.blt (lgR u d (k + 1) / 4294967296 ^ k % 4294967296 ^ (p + 2 + 1)) (q * d) = Nat.beq q (qd + 1) ∧ tkCells (lgR u d (k + 1)) k (p + 2) d q L = tb L (lm (lgR u d k))) := by
  obtain ⟨t2, t1, t0, top, d2, qd, g1, g2, g3, g4, g5, g6, b2, b1, b0, bt, bd, ht, bq, hX, hqd, hend, hcells⟩ := lg_step g hk hL
  refine ⟨t2, t1, t0, top, d2, qd, w2 t2 t1, g1, g2, g3, g4, g5, g6, rfl, b2, b1, b0, bt, bd, ht, bq, w2_lt b2 b1, ⟨?_, ?_⟩, ?_, ?_, ?_, ?_, hcells⟩
  · rw [Nat.mul_comm]; exact Nat.div_add_mod _ _
  · refine (Nat.le_div_iff_mul_le (by omega)).2 ?_
    have key : ∀ X, qd * (top * 4294967296 + d2) ≤ X * 4294967296 + t0 → qd * top ≤ X := by
      intro X h
      refine Nat.le_of_not_lt fun hlt => ?_
      have h1 : (X + 1) * 4294967296 ≤ qd * top * 4294967296 := Nat.mul_le_mul_right _ hlt
      rw [Nat.mul_add, ← Nat.mul_assoc] at h
      clear hqd hX hend hcells
      omega
    exact key _ hqd
  · intro q r ⟨h1, h2⟩ hc
    have := kn_step hqd h1 h2 bq hc
    refine ⟨by omega, ?_, by omega⟩
    obtain ⟨q, rfl⟩ : ∃ q', q = q' + 1 := ⟨q - 1, by omega⟩
    rw [Nat.add_sub_cancel]
    rw [Nat.add_mul] at h1
    omega
  · intro q r ⟨h1, h2⟩ hq hc
    exact ⟨h2, hend q r h1 hc hq, hq⟩
  · intro q r ⟨h1, h2⟩ hr
    obtain ⟨h3, h4⟩ := kn_break (u2 := t0) h1 hX hr bd
    exact ⟨h2, hend q r h1 h4 h3, h3⟩
  · intro q r ⟨h1, h2⟩
    have : q * 1 ≤ q * top := Nat.mul_le_mul_left _ ht
    omega
end Go.Eng
end
