/-
  A part of the proof: the machine, the contracts of the functions and the plain laws, merged from smaller texts.
-/
import Derived.Test.YtcmhlhgddifpeaaGreatDoorBt2
section
set_option linter.unusedVariables false
set_option linter.unusedSimpArgs false
set_option linter.unusedSectionVars false
set_option maxRecDepth 4000
namespace Go.Eng
open Go Go.Proofs Go.IntWalk
def spFU64 : List Value → Option Value
  | [.int .u64 n] => if 0 ≤ n ∧ n < 18446744073709551616 then some (.string ⟨⟨bl n.toNat⟩⟩) else none
  | _ => none
def c70 : ICode :=
  (.seq (.reg [qq 2 (.mv (.c e0))]) (.seq (.reg [qq 3 (.mv (.t 0)), qq 4 (.conv .u32 (.t 3)), qq 5 (.mv (.t 0)), qq 6 (.bin .shr (.t 5) (.c (.int .u64 32))), qq 7 (.conv .u32 (.t 6)), qq 8 (.bslice 118 1 2 [(.int .u32 0), (.int .u32 0)] [(0, 1, (.t 4)), (1, 1, (.t 7))]), qq 9 (.call 113 [(.t 8)]), qq 2 (.mv (.t 9))]) .ret))
theorem tr70 : trFun Tryz.prog 70 = some ⟨10, [.t 2], c70⟩ := by kernel_rfl
theorem ok_nFU64 : SpecOK Tryz.prog 70 (flat spFU64) := by
  refine flat_run (env_cons ok_nmag (env_nil _)) mixed tr70 ?_
  intro args v h N hG
  unfold spFU64 at hG
  split at hG
  case h_2 => cases hG
  rename_i n
  split at hG
  case isFalse => cases hG
  rename_i hl
  obtain ⟨h1, h2⟩ := hl
  cases hG
  refine ⟨rfl, by simp, ?_⟩
  obtain ⟨n, rfl⟩ := Int.eq_ofNat_of_zero_le h1
  have e1 := u32_mod n
  have e2 : (n : Int).fdiv (2 ^ min 32 IntKind.u64.bits) = ((n / 4294967296 : Nat) : Int) := by
    have : (2 : Int) ^ min 32 IntKind.u64.bits = 4294967296 := rfl
    rw [this, Int.fdiv_eq_ediv_of_nonneg _ (by omega)]; omega
  have e3 := u32_nat (n := n / 4294967296) (by omega)
  have f1 : ((n % 4294967296 : Nat) : Int) < 4294967296 := by omega
  have f2 : ((n / 4294967296 : Nat) : Int) < 4294967296 := by omega
  have f3 : n % 4294967296 + 4294967296 * (n / 4294967296 + 4294967296 * 0) = n := by omega
  simp only [c70, G0, Nat.reduceAdd]
  simp only [↓R0, R1, simprocAttr, -Int.reduceAbs, e1, e2, e3, rdS, spMag, shows, uok, ud, f1, f2, f3, Fin, isEnd, resL, res1, iE, rE]
  exact ⟨_, rfl, rfl, fun k hk => by simp only [ne_nb hk, if_false]⟩
def spU64 : List Value → Option Value
  | [.string ⟨⟨l⟩⟩] => if l.length ≤ 1099511627776 then some (.tuple ⟨if nl l < 18446744073709551616 then [.int .u64 (nl l : Nat), .bool true] else [.int .u64 0, .bool false]⟩) else none
  | _ => none
def c109 : ICode :=
  (.seq (.reg [qq 2 (.mv (.c (.int .u64 0))), qq 3 (.mv (.c (.bool false)))]) (.seq (.reg [qq 6 (.mv (.t 0)), qq 7 (.call 108 [(.t 6)]), qq 0 (.mv (.t 7))]) (.seq (.seq (.reg [qq 8 (.mv (.t 0)), qq 9 (.lens (.t 8)), qq 10 (.bin .gtr (.t 9) (ci 8))]) (.cond (.t 10) (.seq (.reg [qq 2 (.mv (.c (.int .u64 0))), qq 3 (.mv (.c (.bool false)))]) .ret) .skip)) (.seq (.reg [qq 4 (.mv (.c (.int .u64 0)))]) (.seq (.seq (.reg [qq 11 (.mv (.t 0)), qq 12 (.lens (.t 11)), qq 13 (.mv (ci 0))]) (.block 0 (.loop (.seq (.reg [qq 14 (.bin .lss (.t 13) (.t 12))]) (.seq (.cond (.t 14) .skip (.exit 0)) (.seq (.block 1 (.seq (.reg [qq 15 (.mv (.t 13)), qq 5 (.mv (.t 15))]) (.reg [qq 16 (.mv (.t 4)), qq 17 (.mv (.t 0)), qq 18 (.mv (.t 5)), qq 19 (.idstr (.t 17) (.t 18)), qq 20 (.conv .u64 (.t 19)), qq 21 (.mv (.t 5)), qq 22 (.bin .mul (ci 8) (.t 21)), qq 23 (.bin .shl (.t 20) (.t 22)), qq 24 (.bin .or (.t 16) (.t 23)), qq 4 (.mv (.t 24))]))) (.reg [qq 25 (.bin .add (.t 13) (ci 1)), qq 13 (.mv (.t 25))]))))))) (.seq (.reg [qq 26 (.mv (.t 4)), qq 2 (.mv (.t 26)), qq 3 (.mv (.c (.bool true)))]) .ret))))))
theorem tr109 : trFun Tryz.prog 109 = some ⟨27, [.t 2, .t 3], c109⟩ := by kernel_rfl
theorem shl64 {c s : Nat} (h : c * 2 ^ s < 18446744073709551616) (hs : s ≤ 64) : IntKind.u64.wrap ((c : Int) * 2 ^ min s IntKind.u64.bits) = ((c * 2 ^ s : Nat) : Int) := by
  have : min s IntKind.u64.bits = s := Nat.min_eq_left hs
  rw [this, ← u64_nat h, Int.natCast_mul, Int.natCast_pow]; rfl
theorem ok_nU64 : SpecOK Tryz.prog 109 (flat spU64) := by
  refine flat_run (env_cons ok_nNorm (env_nil _)) mixed tr109 ?_
  intro args v h N hG
  unfold spU64 at hG
  split at hG
  case h_2 => cases hG
  rename_i l
  split at hG
  case isFalse => cases hG
  rename_i hl
  cases hG
  refine ⟨by split <;> rfl, by simp, ?_⟩
  have hL : (bl (nl l)).length ≤ 1099511627776 := Nat.le_trans (bl_length_nl l) hl
  generalize hn : nl l = n at *
  have h8 : (bl n).length ≤ 8 ↔ n < 18446744073709551616 := bl_length_le (k := 8)
  simp only [c109, G0, Nat.reduceAdd]
  by_cases c : n < 18446744073709551616
  · rw [if_pos c]
    have hle := h8.2 c
    have g : (((bl n).length : Int) > 8) = False := eq_false (by omega)
    simp only [↓R0, R1, simprocAttr, -Int.reduceAbs, spNNorm, hl, hn, g]
    refine lp_parts (fun m tm hp nx => ∃ (i : Nat), m + i = (bl n).length ∧ tmget tm 0 = .string ⟨⟨bl n⟩⟩ ∧ tmget tm 4 = .int .u64 (nl ((bl n).take i) : Nat) ∧ tmget tm 12 = .int .i64 (bl n).length ∧ tmget tm 13 = .int .i64 i ∧
        hp = h ∧ nx = N + 0) ?_ (bl n).length ⟨0, by omega, ?_, ?_, ?_, ?_, rfl, rfl⟩
    · intro m tm hp nx ⟨i, hm, h0, h4, h12, h13, hh, hnx⟩
      subst hnx hh
      by_cases c1 : i < (bl n).length
      · obtain ⟨b, hbb⟩ : ∃ b, (bl n)[i]? = some b := ⟨_, List.getElem?_eq_getElem c1⟩
        have hts := nl_take_succ (bl n) i
        rw [hbb, Option.getD_some] at hts
        have hlt := nl_take_lt (bl n) i
        have hlt2 := nl_take_lt (bl n) (i + 1)
        have hp8 : 256 ^ i = 2 ^ (8 * i) := by rw [Nat.pow_mul]
        have hq8 : 256 ^ (i + 1) ≤ 256 ^ 8 := Nat.pow_le_pow_right (by omega) (by omega)
        rw [hts] at hlt2
        rw [hp8] at hlt hlt2 hts
        have hsum : nl ((bl n).take i) + b.toNat * 2 ^ (8 * i) < 18446744073709551616 := by
          rw [Nat.mul_comm (b.toNat)]
          exact Nat.lt_of_lt_of_le hlt2 hq8
        have e1 := u64_nat (n := b.toNat) (by have := b.toNat_lt; omega)
        have e3 : IntKind.i64.wrap (8 * (i : Int)) = ((8 * i : Nat) : Int) := by rw [i64_in _ (by omega)]; omega
        have e4 : ¬ (((8 * i : Nat) : Int) < 0) := by omega
        have e5 := shl64 (c := b.toNat) (s := 8 * i) (by omega) (by omega)
        have e6 := or_u64 hlt hsum
        have e7 : IntKind.i64.wrap ((i : Int) + 1) = ((i + 1 : Nat) : Int) := by rw [i64_in _ (by omega)]; omega
        simp only [↓R0, R1, simprocAttr, -Int.reduceAbs, h0, h4, h12, h13, c1, hbb, e1, e3, e4, e5, e6, e7]
        refine ⟨m - 1, by omega, i + 1, by omega, ?_, rfl, rfl⟩
        rw [hts, Nat.mul_comm (b.toNat)]
      · have ei : i = (bl n).length := by omega
        subst ei
        rw [List.take_length, nl_bl] at h4
        simp only [↓R0, R1, simprocAttr, -Int.reduceAbs, h0, h4, h12, h13, c1, Fin, isEnd, resL, res1, iE, rE]
        exact ⟨_, rfl, rfl, fun k hk => by simp only [ne_nb hk, if_false]⟩
    · (first | (simp only [↓R0, R1, simprocAttr, -Int.reduceAbs]; done) | (simp only [↓R0, R1, simprocAttr, -Int.reduceAbs]; rfl) | rfl)
    · (first | (simp only [↓R0, R1, simprocAttr, -Int.reduceAbs, List.take_zero, nl]; done) | (simp only [↓R0, R1, simprocAttr, -Int.reduceAbs, List.take_zero, nl]; rfl) | rfl)
    · (first | (simp only [↓R0, R1, simprocAttr, -Int.reduceAbs]; done) | (simp only [↓R0, R1, simprocAttr, -Int.reduceAbs]; rfl) | rfl)
    · (first | (simp only [↓R0, R1, simprocAttr, -Int.reduceAbs]; done) | (simp only [↓R0, R1, simprocAttr, -Int.reduceAbs]; rfl) | rfl)
  · rw [if_neg c]
    have g : (((bl n).length : Int) > 8) = True := eq_true (by omega)
    simp only [↓R0, R1, simprocAttr, -Int.reduceAbs, spNNorm, hl, hn, g, Fin, isEnd, resL, res1, iE, rE]
    exact ⟨_, rfl, rfl, fun k hk => by simp only [ne_nb hk, if_false]⟩
def spNCmp : List Value → Option Value
  | [.string ⟨⟨l⟩⟩, .string ⟨⟨m⟩⟩] => if l.length ≤ 1099511627776 ∧ m.length ≤ 1099511627776 then some (.int .i64 (cmpN (nl l) (nl m))) else none
  | _ => none
def c111 : ICode :=
  (.seq (.reg [qq 4 (.mv (ci 0))]) (.seq (.reg [qq 7 (.mv (.t 0)), qq 8 (.call 108 [(.t 7)]), qq 9 (.mv (.t 1)), qq 10 (.call 108 [(.t 9)]), qq 0 (.mv (.t 8)), qq 1 (.mv (.t 10))]) (.seq (.seq (.reg [qq 11 (.mv (.t 0)), qq 12 (.lens (.t 11)), qq 13 (.mv (.t 1)), qq 14 (.lens (.t 13)), qq 15 (.bin .neq (.t 12) (.t 14))]) (.cond (.t 15) (.seq (.seq (.reg [qq 16 (.mv (.t 0)), qq 17 (.lens (.t 16)), qq 18 (.mv (.t 1)), qq 19 (.lens (.t 18)), qq 20 (.bin .lss (.t 17) (.t 19))]) (.cond (.t 20) (.seq (.reg [qq 4 (.mv (ci (-1)))]) .ret) .skip)) (.seq (.reg [qq 4 (.mv (ci 1))]) .ret)) .skip)) (.seq (.seq (.reg [qq 21 (.mv (.t 0)), qq 22 (.lens (.t 21)), qq 23 (.mv (ci 0))]) (.block 0 (.loop (.seq (.reg [qq 24 (.bin .lss (.t 23) (.t 22))]) (.seq (.cond (.t 24) .skip (.exit 0)) (.seq (.block 1 (.seq (.reg [qq 25 (.mv (.t 23)), qq 5 (.mv (.t 25))]) (.seq (.reg [qq 26 (.mv (.t 0)), qq 27 (.lens (.t 26)), qq 28 (.bin .sub (.t 27) (ci 1)), qq 29 (.mv (.t 5)), qq 30 (.bin .sub (.t 28) (.t 29)), qq 6 (.mv (.t 30))]) (.seq (.dreg [qu 31 (.mv (.t 0)), qu 32 (.mv (.t 6)), qu 33 (.idstr (.t 31) (.t 32)), qu 34 (.mv (.t 1)), qu 35 (.mv (.t 6)), qu 36 (.idstr (.t 34) (.t 35)), qu 37 (.bin .neq (.t 33) (.t 36))]) (.cond (.t 37) (.seq (.seq (.dreg [qu 38 (.mv (.t 0)), qu 39 (.mv (.t 6)), qu 40 (.idstr (.t 38) (.t 39)), qu 41 (.mv (.t 1)), qu 42 (.mv (.t 6)), qu 43 (.idstr (.t 41) (.t 42)), qu 44 (.bin .lss (.t 40) (.t 43))]) (.cond (.t 44) (.seq (.reg [qq 4 (.mv (ci (-1)))]) .ret) .skip)) (.seq (.reg [qq 4 (.mv (ci 1))]) .ret)) .skip))))) (.reg [qq 45 (.bin .add (.t 23) (ci 1)), qq 23 (.mv (.t 45))]))))))) (.seq (.reg [qq 4 (.mv (ci 0))]) .ret)))))
theorem tr111 : trFun Tryz.prog 111 = some ⟨46, [.t 4], c111⟩ := by kernel_rfl
theorem ok_nCmp : SpecOK Tryz.prog 111 (flat spNCmp) := by
  refine flat_run (env_cons ok_nNorm (env_nil _)) mixed tr111 ?_
  intro args v h N hG
  unfold spNCmp at hG
  split at hG
  case h_2 => cases hG
  rename_i l m
  split at hG
  case isFalse => cases hG
  rename_i hl
  obtain ⟨hl, hm⟩ := hl
  cases hG
  refine ⟨rfl, by simp, ?_⟩
  have hL : (bl (nl l)).length ≤ 1099511627776 := Nat.le_trans (bl_length_nl l) hl
  have hM : (bl (nl m)).length ≤ 1099511627776 := Nat.le_trans (bl_length_nl m) hm
  generalize ha : nl l = a at *
  generalize hb : nl m = b at *
  simp only [c111, G0, Nat.reduceAdd]
  by_cases c0 : (bl a).length = (bl b).length
  · simp only [↓R0, R1, simprocAttr, -Int.reduceAbs, spNNorm, hl, hm, ha, hb, c0, decide_not, Bool.not_true]
    refine lp_parts (fun n tm hp nx => ∃ (i : Nat), n + i = (bl b).length ∧ tmget tm 0 = .string ⟨⟨bl a⟩⟩ ∧ tmget tm 1 = .string ⟨⟨bl b⟩⟩ ∧ tmget tm 22 = .int .i64 (bl b).length ∧ tmget tm 23 = .int .i64 i ∧
        (bl a).drop n = (bl b).drop n ∧ hp = h ∧ nx = N + 0) ?_ (bl b).length ⟨0, by omega, ?_, ?_, ?_, ?_, ?_, rfl, rfl⟩
    · intro n tm hp nx ⟨i, hn, h0, h1, h22, h23, hd, hh, hnx⟩
      subst hnx hh
      by_cases c1 : i < (bl b).length
      · obtain ⟨n, rfl⟩ : ∃ n', n = n' + 1 := ⟨n - 1, by omega⟩
        obtain ⟨p, hp⟩ : ∃ p, (bl a)[n]? = some p := ⟨_, List.getElem?_eq_getElem (by omega)⟩
        obtain ⟨q, hq⟩ : ∃ q, (bl b)[n]? = some q := ⟨_, List.getElem?_eq_getElem (by omega)⟩
        have e1 : IntKind.i64.wrap (((bl b).length : Int) - 1) = (((bl b).length - 1 : Nat) : Int) := by rw [i64_in _ (by omega)]; omega
        have e2 : IntKind.i64.wrap ((((bl b).length - 1 : Nat) : Int) - (i : Int)) = (n : Int) := by rw [i64_in _ (by omega)]; omega
        have e7 : IntKind.i64.wrap ((i : Int) + 1) = ((i + 1 : Nat) : Int) := by rw [i64_in _ (by omega)]; omega
        by_cases c2 : p = q
        · subst c2
          simp only [↓R0, R1, simprocAttr, -Int.reduceAbs, h0, h1, h22, h23, c1, c0, e1, e2, e7, hp, hq, decide_not, Bool.not_true]
          refine ⟨n, by omega, i + 1, by omega, rfl, ?_⟩
          rw [List.drop_eq_getElem_cons (by omega : n < (bl a).length), List.drop_eq_getElem_cons (by omega : n < (bl b).length), hd]
          rw [List.getElem?_eq_getElem (by omega)] at hp hq
          rw [Option.some.inj hp, Option.some.inj hq]
          exact ⟨rfl, rfl⟩
        · have c3 : ¬ ((p.toNat : Int) = (q.toNat : Int)) := fun e => c2 (UInt8.toNat_inj.1 (by omega))
          by_cases c4 : p.toNat < q.toNat
          · have hlt := nl_lt_of hp hq hd c4
            rw [nl_bl, nl_bl] at hlt
            rw [cmpN_lt hlt]
            have c3' : ¬ (p.toNat = q.toNat) := by omega
            simp only [↓R0, R1, simprocAttr, -Int.reduceAbs, h0, h1, h22, h23, c1, c0, e1, e2, e7, hp, hq, c3, c3', c4, decide_not, Bool.not_false, Fin, isEnd, resL, res1, iE, rE]
            exact ⟨_, rfl, rfl, fun k hk => by simp only [ne_nb hk, if_false]⟩
          · have hlt := nl_lt_of hq hp hd.symm (by omega)
            rw [nl_bl, nl_bl] at hlt
            rw [cmpN_gt hlt]
            have c3' : ¬ (p.toNat = q.toNat) := by omega
            simp only [↓R0, R1, simprocAttr, -Int.reduceAbs, h0, h1, h22, h23, c1, c0, e1, e2, e7, hp, hq, c3, c3', c4, decide_not, Bool.not_false, Fin, isEnd, resL, res1, iE, rE]
            exact ⟨_, rfl, rfl, fun k hk => by simp only [ne_nb hk, if_false]⟩
      · have en : n = 0 := by omega
        subst en
        rw [List.drop_zero, List.drop_zero] at hd
        have := bl_inj hd
        subst this
        rw [cmpN_eq]
        simp only [↓R0, R1, simprocAttr, -Int.reduceAbs, h0, h1, h22, h23, c1, Fin, isEnd, resL, res1, iE, rE]
        exact ⟨_, rfl, rfl, fun k hk => by simp only [ne_nb hk, if_false]⟩
    · (first | (simp only [↓R0, R1, simprocAttr, -Int.reduceAbs]; done) | (simp only [↓R0, R1, simprocAttr, -Int.reduceAbs]; rfl) | rfl)
    · (first | (simp only [↓R0, R1, simprocAttr, -Int.reduceAbs]; done) | (simp only [↓R0, R1, simprocAttr, -Int.reduceAbs]; rfl) | rfl)
    · (first | (simp only [↓R0, R1, simprocAttr, -Int.reduceAbs]; done) | (simp only [↓R0, R1, simprocAttr, -Int.reduceAbs]; rfl) | rfl)
    · (first | (simp only [↓R0, R1, simprocAttr, -Int.reduceAbs]; done) | (simp only [↓R0, R1, simprocAttr, -Int.reduceAbs]; rfl) | rfl)
    · rw [← c0, List.drop_length, c0, List.drop_length]
  · by_cases c1 : (bl a).length < (bl b).length
    · rw [cmpN_lt (bl_length_lt c1)]
      simp only [↓R0, R1, simprocAttr, -Int.reduceAbs, spNNorm, hl, hm, ha, hb, c0, c1, decide_not, Bool.not_false, Fin, isEnd, resL, res1, iE, rE]
      exact ⟨_, rfl, rfl, fun k hk => by simp only [ne_nb hk, if_false]⟩
    · rw [cmpN_gt (bl_length_lt (by omega))]
      simp only [↓R0, R1, simprocAttr, -Int.reduceAbs, spNNorm, hl, hm, ha, hb, c0, c1, decide_not, Bool.not_false, Fin, isEnd, resL, res1, iE, rE]
      exact ⟨_, rfl, rfl, fun k hk => by simp only [ne_nb hk, if_false]⟩
def spNAdd : List Value → Option Value
  | [.string ⟨⟨l⟩⟩, .string ⟨⟨m⟩⟩] => if l.length ≤ 68719476736 ∧ m.length ≤ 68719476736 then some (.string ⟨⟨bl (nl l + nl m)⟩⟩) else none
  | _ => none
def c79 : ICode :=
  (.seq (.reg [qq 4 (.mv (.c e0))]) (.seq (.reg [qq 11 (.mv (.t 0)), qq 12 (.call 110 [(.t 11)]), qq 13 (.mv (.t 1)), qq 14 (.call 110 [(.t 13)]), qq 5 (.mv (.t 12)), qq 6 (.mv (.t 14))]) (.seq (.seq (.reg [qq 15 (.mv (.t 5)), qq 16 (.lensl (.t 15)), qq 17 (.mv (.t 6)), qq 18 (.lensl (.t 17)), qq 19 (.bin .lss (.t 16) (.t 18))]) (.cond (.t 19) (.reg [qq 20 (.mv (.t 6)), qq 21 (.mv (.t 5)), qq 5 (.mv (.t 20)), qq 6 (.mv (.t 21))]) .skip)) (.seq (.reg [qq 22 (.mv (.t 5)), qq 23 (.lensl (.t 22)), qq 24 (.bin .add (.t 23) (ci 1)), qq 25 (.mkslice 118 1 4 [(.int .u32 0)] (.t 24) (.t 24)), qq 7 (.mv (.t 25))]) (.seq (.reg [qq 8 (.mv (.c (.int .u32 0)))]) (.seq (.seq (.reg [qq 26 (.mv (.t 5)), qq 27 (.lensl (.t 26)), qq 28 (.mv (ci 0))]) (.block 0 (.loop (.seq (.reg [qq 29 (.bin .lss (.t 28) (.t 27))]) (.seq (.cond (.t 29) .skip (.exit 0)) (.seq (.block 1 (.seq (.reg [qq 30 (.mv (.t 28)), qq 9 (.mv (.t 30))]) (.seq (.reg [qq 10 (.mv (.c (.int .u32 0)))]) (.seq (.seq (.reg [qq 31 (.mv (.t 9)), qq 32 (.mv (.t 6)), qq 33 (.lensl (.t 32)), qq 34 (.bin .lss (.t 31) (.t 33))]) (.cond (.t 34) (.reg [qq 35 (.mv (.t 6)), qq 36 (.mv (.t 9)), qq 37 (.ixsl 1 (.t 35) (.t 36)), qq 38 (.load false 1 (.t 37)), qq 10 (.mv (.t 38))]) .skip)) (.reg [qq 40 (.mv (.t 7)), qq 41 (.mv (.t 9)), qq 42 (.mv (.t 5)), qq 43 (.mv (.t 9)), qq 44 (.ixsl 1 (.t 42) (.t 43)), qq 45 (.load false 1 (.t 44)), qq 46 (.mv (.t 10)), qq 47 (.mv (.t 8)), qq 48 (.call 122 [(.t 45), (.t 46), (.t 47)]), qq 39 (.mv (.t 48)), qq 49 (.ext (.t 39) 0), qq 50 (.ext (.t 39) 1), qq 51 (.ixsl 1 (.t 40) (.t 41)), qn (.store 1 (.t 51) (.t 49)), qq 8 (.mv (.t 50))]))))) (.reg [qq 52 (.bin .add (.t 28) (ci 1)), qq 28 (.mv (.t 52))]))))))) (.seq (.reg [qq 53 (.mv (.t 7)), qq 54 (.mv (.t 5)), qq 55 (.lensl (.t 54)), qq 56 (.mv (.t 8)), qq 57 (.ixsl 1 (.t 53) (.t 55)), qn (.store 1 (.t 57) (.t 56))]) (.seq (.reg [qq 58 (.mv (.t 7)), qq 59 (.call 113 [(.t 58)]), qq 4 (.mv (.t 59))]) .ret))))))))
theorem tr79 : trFun Tryz.prog 79 = some ⟨60, [.t 4], c79⟩ := by kernel_rfl
theorem lk_len {n k : Nat} (h : (bl n).length ≤ 4 * k) : lk n ≤ k := by unfold lk; omega
theorem lm_out {n i : Nat} (h : ¬ i < lk n) : lm n i = 0 := lm_of_lt' (lk_lt n) (by omega)
set_option maxHeartbeats 1000000 in
theorem ok_nAdd : SpecOK Tryz.prog 79 (flat spNAdd) := by
  refine flat_run (env_cons ok_nlimbs (env_cons ok_nmag (env_cons ok_add32 (env_nil _)))) mixed tr79 ?_
  intro args v h N hG
  unfold spNAdd at hG
  split at hG
  case h_2 => cases hG
  rename_i l m
  split at hG
  case isFalse => cases hG
  rename_i hl
  obtain ⟨hl, hm⟩ := hl
  cases hG
  refine ⟨rfl, by simp, ?_⟩
  have hL : lk (nl l) ≤ 17179869184 := lk_len (Nat.le_trans (bl_length_nl l) (by omega))
  have hM : lk (nl m) ≤ 17179869184 := lk_len (Nat.le_trans (bl_length_nl m) (by omega))
  have hl' : l.length ≤ 1099511627776 := by omega
  have hm' : m.length ≤ 1099511627776 := by omega
  simp only [c79, G0, Nat.reduceAdd]
  simp only [↓R0, R1, simprocAttr, -Int.reduceAbs, nwS, spLimbs, hl', hm']
  by_cases c0 : lk (nl l) < lk (nl m)
  · have hab : lk (nl l) ≤ lk (nl m) := by omega
    rw [Nat.add_comm (nl l)]
    generalize nl l = bb at *
    generalize nl m = aa at *
    simp only [↓R0, R1, simprocAttr, -Int.reduceAbs, c0]
    have g1 : IntKind.i64.wrap ((lk aa : Int) + 1) = ((lk aa + 1 : Nat) : Int) := by rw [i64_in _ (by omega)]; omega
    have g2 : 4 * ((lk aa + 1 : Nat) : Int) ≤ 281474976710656 := by omega
    have g3 : ((lk aa + 1 : Nat) : Int) ≤ 9223372036854775807 := by omega
    simp only [↓R0, R1, simprocAttr, -Int.reduceAbs, g1, g2, g3, tb_rep]
    clear g1 g2 g3
    refine lp_parts (fun m tm hp nx => ∃ (i : Nat) (f : Nat → Nat), m + i = lk aa ∧ tmget tm 5 = .slice (some ⟨N + 1, 0, none⟩) (lk aa) (lk aa) ∧ tmget tm 6 = .slice (some ⟨N + 0, 0, none⟩) (lk bb) (lk bb) ∧
        tmget tm 7 = .slice (some ⟨N + 2, 0, none⟩) (lk aa + 1) (lk aa + 1) ∧ tmget tm 8 = .int .u32 (cyA aa bb i : Nat) ∧ tmget tm 27 = .int .i64 (lk aa) ∧ tmget tm 28 = .int .i64 i ∧
        hget hp (N + 1) = some ⟨118, 1, false, tb (lk aa) (lm aa)⟩ ∧ hget hp (N + 0) = some ⟨118, 1, false, tb (lk bb) (lm bb)⟩ ∧
        hget hp (N + 2) = some ⟨118, 1, false, tb (lk aa + 1) f⟩ ∧ (∀ j, j < i → f j = lm (aa + bb) j) ∧ (∀ q, q < N → hget hp q = hget h q) ∧ nx = N + 3) ?_ (lk aa)
      ⟨0, fun _ => 0, by omega, ?_, ?_, ?_, ?_, ?_, ?_, ?_, ?_, ?_, fun j hj => by omega, ?_, rfl⟩
    · intro m tm hp nx ⟨i, f, hm, h5, h6, h7, h8, h27, h28, hb1, hb2, hb3, hf, hh, hnx⟩
      subst hnx
      have b1 := lm_lt aa i
      have b2 := lm_lt bb i
      have b3 := cyA_le aa bb i
      have v1 : ((lm aa i : Nat) : Int) < 4294967296 := by omega
      have v2 : ((lm bb i : Nat) : Int) < 4294967296 := by omega
      have v3 : ((cyA aa bb i : Nat) : Int) ≤ 1 := by omega
      have v4 : ((lm aa i : Int) + lm bb i + cyA aa bb i) % 4294967296 = (lm (aa + bb) i : Int) := by rw [add_limb]; omega
      have v5 : ((lm aa i : Int) + lm bb i + cyA aa bb i) / 4294967296 = (cyA aa bb (i + 1) : Int) := by rw [cyA_succ]; omega
      have e7 : IntKind.i64.wrap ((i : Int) + 1) = ((i + 1 : Nat) : Int) := by rw [i64_in _ (by omega)]; omega
      by_cases c1 : i < lk aa
      · have c1' : i < lk aa + 1 := by omega
        have c1'' : i ≤ lk aa := by omega
        have k1 := tb_get' (lm aa) c1
        have hset : ∀ j, j < i + 1 → (fun j => if j = i then lm (aa + bb) i else f j) j = lm (aa + bb) j := by
          intro j hj
          simp only
          by_cases e : j = i
          · rw [if_pos e, e]
          · rw [if_neg e]; exact hf j (by omega)
        by_cases c2 : i < lk bb
        · have k2 := tb_get' (lm bb) c2
          simp only [↓R0, R1, simprocAttr, -Int.reduceAbs, h5, h6, h7, h8, h27, h28, hb1, hb2, hb3, c1, c1', c1'', c2, k1, k2, e7, spAdd32, v1, v2, v3, v4, v5, tb_length, tb_set]
          refine ⟨m - 1, by omega, i + 1, _, by omega, rfl, rfl, rfl, hset, ?_⟩
          intro q hq
          simp only [if_neg (show ¬ N + 2 = q by omega)]
          exact hh q hq
        · have z2 := lm_out c2
          rw [z2] at v4 v5
          have z0 : ((0 : Nat) : Int) = 0 := rfl
          rw [z0] at v4 v5
          simp only [↓R0, R1, simprocAttr, -Int.reduceAbs, h5, h6, h7, h8, h27, h28, hb1, hb2, hb3, c1, c1', c1'', c2, k1, e7, spAdd32, v1, v3, v4, v5, tb_length, tb_set]
          refine ⟨m - 1, by omega, i + 1, _, by omega, rfl, rfl, rfl, hset, ?_⟩
          intro q hq
          simp only [if_neg (show ¬ N + 2 = q by omega)]
          exact hh q hq
      · have ei : i = lk aa := by omega
        subst ei
        have c3 : lk aa < lk aa + 1 := by omega
        have c4 : ((lk aa : Nat) : Int) < ((lk aa + 1 : Nat) : Int) := by omega
        have c5 : lk aa + 1 ≤ 34359738368 := by omega
        have hA := lk_lt aa
        have hB : bb < 4294967296 ^ lk aa := Nat.lt_of_lt_of_le (lk_lt bb) (Nat.pow_le_pow_right (by omega) hab)
        have hS : aa + bb < 4294967296 ^ (lk aa + 1) := by rw [Nat.pow_succ]; omega
        have hcy : cyA aa bb (lk aa) = lm (aa + bb) (lk aa) := by
          rw [lm_top hS]; unfold cyA; rw [Nat.mod_eq_of_lt hA, Nat.mod_eq_of_lt hB]
        have htb : (tb (lk aa + 1) fun j => if j = lk aa then cyA aa bb (lk aa) else f j) = tb (lk aa + 1) (lm (aa + bb)) := by
          apply tb_congr
          intro j hj
          by_cases e : j = lk aa
          · rw [if_pos e, e, hcy]
          · rw [if_neg e]; exact hf j (by omega)
        have hud : ud (tb (lk aa + 1) (lm (aa + bb))) = aa + bb := by rw [ud_tb, Nat.mod_eq_of_lt hS]
        simp only [↓R0, R1, simprocAttr, -Int.reduceAbs, h5, h6, h7, h8, h27, h28, hb1, hb2, hb3, c1, c3, c4, tb_length, tb_set, htb, rdS, spMag, shows, tb_all, uok_lm, c5, hud, Fin, isEnd, resL, res1, iE, rE]
        first | exact ⟨_, rfl, rfl, hh⟩ | exact ⟨_, rfl, rfl, fun k hk => by simp only [ne_nb hk, if_false]; exact hh k hk⟩
    · (first | (simp only [↓R0, R1, simprocAttr, -Int.reduceAbs]; done) | (simp only [↓R0, R1, simprocAttr, -Int.reduceAbs]; rfl) | rfl)
    · (first | (simp only [↓R0, R1, simprocAttr, -Int.reduceAbs]; done) | (simp only [↓R0, R1, simprocAttr, -Int.reduceAbs]; rfl) | rfl)
    · (first | (simp only [↓R0, R1, simprocAttr, -Int.reduceAbs]; done) | (simp only [↓R0, R1, simprocAttr, -Int.reduceAbs]; rfl) | rfl)
    · (first | (simp only [↓R0, R1, simprocAttr, -Int.reduceAbs, cyA_zero]; done) | (simp only [↓R0, R1, simprocAttr, -Int.reduceAbs, cyA_zero]; rfl) | rfl)
    · (first | (simp only [↓R0, R1, simprocAttr, -Int.reduceAbs]; done) | (simp only [↓R0, R1, simprocAttr, -Int.reduceAbs]; rfl) | rfl)
    · (first | (simp only [↓R0, R1, simprocAttr, -Int.reduceAbs]; done) | (simp only [↓R0, R1, simprocAttr, -Int.reduceAbs]; rfl) | rfl)
    · (first | (simp only [↓R0, R1, simprocAttr, -Int.reduceAbs]; done) | (simp only [↓R0, R1, simprocAttr, -Int.reduceAbs]; rfl) | rfl)
    · (first | (simp only [↓R0, R1, simprocAttr, -Int.reduceAbs]; done) | (simp only [↓R0, R1, simprocAttr, -Int.reduceAbs]; rfl) | rfl)
    · (first | (simp only [↓R0, R1, simprocAttr, -Int.reduceAbs]; done) | (simp only [↓R0, R1, simprocAttr, -Int.reduceAbs]; rfl) | rfl)
    · intro q hq
      simp only [↓R0, R1, simprocAttr, -Int.reduceAbs, hget_new hq]
  · have hab : lk (nl m) ≤ lk (nl l) := by omega
    generalize nl l = aa at *
    generalize nl m = bb at *
    simp only [↓R0, R1, simprocAttr, -Int.reduceAbs, c0]
    have g1 : IntKind.i64.wrap ((lk aa : Int) + 1) = ((lk aa + 1 : Nat) : Int) := by rw [i64_in _ (by omega)]; omega
    have g2 : 4 * ((lk aa + 1 : Nat) : Int) ≤ 281474976710656 := by omega
    have g3 : ((lk aa + 1 : Nat) : Int) ≤ 9223372036854775807 := by omega
    simp only [↓R0, R1, simprocAttr, -Int.reduceAbs, g1, g2, g3, tb_rep]
    clear g1 g2 g3
    refine lp_parts (fun m tm hp nx => ∃ (i : Nat) (f : Nat → Nat), m + i = lk aa ∧ tmget tm 5 = .slice (some ⟨N + 0, 0, none⟩) (lk aa) (lk aa) ∧ tmget tm 6 = .slice (some ⟨N + 1, 0, none⟩) (lk bb) (lk bb) ∧
        tmget tm 7 = .slice (some ⟨N + 2, 0, none⟩) (lk aa + 1) (lk aa + 1) ∧ tmget tm 8 = .int .u32 (cyA aa bb i : Nat) ∧ tmget tm 27 = .int .i64 (lk aa) ∧ tmget tm 28 = .int .i64 i ∧
        hget hp (N + 0) = some ⟨118, 1, false, tb (lk aa) (lm aa)⟩ ∧ hget hp (N + 1) = some ⟨118, 1, false, tb (lk bb) (lm bb)⟩ ∧
        hget hp (N + 2) = some ⟨118, 1, false, tb (lk aa + 1) f⟩ ∧ (∀ j, j < i → f j = lm (aa + bb) j) ∧ (∀ q, q < N → hget hp q = hget h q) ∧ nx = N + 3) ?_ (lk aa)
      ⟨0, fun _ => 0, by omega, ?_, ?_, ?_, ?_, ?_, ?_, ?_, ?_, ?_, fun j hj => by omega, ?_, rfl⟩
    · intro m tm hp nx ⟨i, f, hm, h5, h6, h7, h8, h27, h28, hb1, hb2, hb3, hf, hh, hnx⟩
      subst hnx
      have b1 := lm_lt aa i
      have b2 := lm_lt bb i
      have b3 := cyA_le aa bb i
      have v1 : ((lm aa i : Nat) : Int) < 4294967296 := by omega
      have v2 : ((lm bb i : Nat) : Int) < 4294967296 := by omega
      have v3 : ((cyA aa bb i : Nat) : Int) ≤ 1 := by omega
      have v4 : ((lm aa i : Int) + lm bb i + cyA aa bb i) % 4294967296 = (lm (aa + bb) i : Int) := by rw [add_limb]; omega
      have v5 : ((lm aa i : Int) + lm bb i + cyA aa bb i) / 4294967296 = (cyA aa bb (i + 1) : Int) := by rw [cyA_succ]; omega
      have e7 : IntKind.i64.wrap ((i : Int) + 1) = ((i + 1 : Nat) : Int) := by rw [i64_in _ (by omega)]; omega
      by_cases c1 : i < lk aa
      · have c1' : i < lk aa + 1 := by omega
        have c1'' : i ≤ lk aa := by omega
        have k1 := tb_get' (lm aa) c1
        have hset : ∀ j, j < i + 1 → (fun j => if j = i then lm (aa + bb) i else f j) j = lm (aa + bb) j := by
          intro j hj
          simp only
          by_cases e : j = i
          · rw [if_pos e, e]
          · rw [if_neg e]; exact hf j (by omega)
        by_cases c2 : i < lk bb
        · have k2 := tb_get' (lm bb) c2
          simp only [↓R0, R1, simprocAttr, -Int.reduceAbs, h5, h6, h7, h8, h27, h28, hb1, hb2, hb3, c1, c1', c1'', c2, k1, k2, e7, spAdd32, v1, v2, v3, v4, v5, tb_length, tb_set]
          refine ⟨m - 1, by omega, i + 1, _, by omega, rfl, rfl, rfl, hset, ?_⟩
          intro q hq
          simp only [if_neg (show ¬ N + 2 = q by omega)]
          exact hh q hq
        · have z2 := lm_out c2
          rw [z2] at v4 v5
          have z0 : ((0 : Nat) : Int) = 0 := rfl
          rw [z0] at v4 v5
          simp only [↓R0, R1, simprocAttr, -Int.reduceAbs, h5, h6, h7, h8, h27, h28, hb1, hb2, hb3, c1, c1', c1'', c2, k1, e7, spAdd32, v1, v3, v4, v5, tb_length, tb_set]
          refine ⟨m - 1, by omega, i + 1, _, by omega, rfl, rfl, rfl, hset, ?_⟩
          intro q hq
          simp only [if_neg (show ¬ N + 2 = q by omega)]
          exact hh q hq
      · have ei : i = lk aa := by omega
        subst ei
        have c3 : lk aa < lk aa + 1 := by omega
        have c4 : ((lk aa : Nat) : Int) < ((lk aa + 1 : Nat) : Int) := by omega
        have c5 : lk aa + 1 ≤ 34359738368 := by omega
        have hA := lk_lt aa
        have hB : bb < 4294967296 ^ lk aa := Nat.lt_of_lt_of_le (lk_lt bb) (Nat.pow_le_pow_right (by omega) hab)
        have hS : aa + bb < 4294967296 ^ (lk aa + 1) := by rw [Nat.pow_succ]; omega
        have hcy : cyA aa bb (lk aa) = lm (aa + bb) (lk aa) := by
          rw [lm_top hS]; unfold cyA; rw [Nat.mod_eq_of_lt hA, Nat.mod_eq_of_lt hB]
        have htb : (tb (lk aa + 1) fun j => if j = lk aa then cyA aa bb (lk aa) else f j) = tb (lk aa + 1) (lm (aa + bb)) := by
          apply tb_congr
          intro j hj
          by_cases e : j = lk aa
          · rw [if_pos e, e, hcy]
          · rw [if_neg e]; exact hf j (by omega)
        have hud : ud (tb (lk aa + 1) (lm (aa + bb))) = aa + bb := by rw [ud_tb, Nat.mod_eq_of_lt hS]
        simp only [↓R0, R1, simprocAttr, -Int.reduceAbs, h5, h6, h7, h8, h27, h28, hb1, hb2, hb3, c1, c3, c4, tb_length, tb_set, htb, rdS, spMag, shows, tb_all, uok_lm, c5, hud, Fin, isEnd, resL, res1, iE, rE]
        first | exact ⟨_, rfl, rfl, hh⟩ | exact ⟨_, rfl, rfl, fun k hk => by simp only [ne_nb hk, if_false]; exact hh k hk⟩
    · (first | (simp only [↓R0, R1, simprocAttr, -Int.reduceAbs]; done) | (simp only [↓R0, R1, simprocAttr, -Int.reduceAbs]; rfl) | rfl)
    · (first | (simp only [↓R0, R1, simprocAttr, -Int.reduceAbs]; done) | (simp only [↓R0, R1, simprocAttr, -Int.reduceAbs]; rfl) | rfl)
    · (first | (simp only [↓R0, R1, simprocAttr, -Int.reduceAbs]; done) | (simp only [↓R0, R1, simprocAttr, -Int.reduceAbs]; rfl) | rfl)
    · (first | (simp only [↓R0, R1, simprocAttr, -Int.reduceAbs, cyA_zero]; done) | (simp only [↓R0, R1, simprocAttr, -Int.reduceAbs, cyA_zero]; rfl) | rfl)
    · (first | (simp only [↓R0, R1, simprocAttr, -Int.reduceAbs]; done) | (simp only [↓R0, R1, simprocAttr, -Int.reduceAbs]; rfl) | rfl)
    · (first | (simp only [↓R0, R1, simprocAttr, -Int.reduceAbs]; done) | (simp only [↓R0, R1, simprocAttr, -Int.reduceAbs]; rfl) | rfl)
    · (first | (simp only [↓R0, R1, simprocAttr, -Int.reduceAbs]; done) | (simp only [↓R0, R1, simprocAttr, -Int.reduceAbs]; rfl) | rfl)
    · (first | (simp only [↓R0, R1, simprocAttr, -Int.reduceAbs]; done) | (simp only [↓R0, R1, simprocAttr, -Int.reduceAbs]; rfl) | rfl)
    · (first | (simp only [↓R0, R1, simprocAttr, -Int.reduceAbs]; done) | (simp only [↓R0, R1, simprocAttr, -Int.reduceAbs]; rfl) | rfl)
    · intro q hq
      simp only [↓R0, R1, simprocAttr, -Int.reduceAbs, hget_new hq]
def spNSub : List Value → Option Value
  | [.string ⟨⟨l⟩⟩, .string ⟨⟨m⟩⟩] => if l.length ≤ 68719476736 ∧ m.length ≤ 68719476736 then
      (if nl l < nl m then some (.tuple ⟨[.string ⟨⟨[]⟩⟩, .bool false]⟩) else some (.tuple ⟨[.string ⟨⟨bl (nl l - nl m)⟩⟩, .bool true]⟩)) else none
  | _ => none
def c80 : ICode :=
  (.seq (.reg [qq 4 (.mv (.c e0)), qq 5 (.mv (.c (.bool false)))]) (.seq (.seq (.reg [qq 12 (.mv (.t 0)), qq 13 (.mv (.t 1)), qq 14 (.call 111 [(.t 12), (.t 13)]), qq 15 (.bin .lss (.t 14) (ci 0))]) (.cond (.t 15) (.seq (.reg [qq 4 (.mv (.c e0)), qq 5 (.mv (.c (.bool false)))]) .ret) .skip)) (.seq (.reg [qq 16 (.mv (.t 0)), qq 17 (.call 110 [(.t 16)]), qq 18 (.mv (.t 1)), qq 19 (.call 110 [(.t 18)]), qq 6 (.mv (.t 17)), qq 7 (.mv (.t 19))]) (.seq (.reg [qq 20 (.mv (.t 6)), qq 21 (.lensl (.t 20)), qq 22 (.mkslice 118 1 4 [(.int .u32 0)] (.t 21) (.t 21)), qq 8 (.mv (.t 22))]) (.seq (.reg [qq 9 (.mv (.c (.int .u32 0)))]) (.seq (.seq (.reg [qq 23 (.mv (.t 6)), qq 24 (.lensl (.t 23)), qq 25 (.mv (ci 0))]) (.block 0 (.loop (.seq (.reg [qq 26 (.bin .lss (.t 25) (.t 24))]) (.seq (.cond (.t 26) .skip (.exit 0)) (.seq (.block 1 (.seq (.reg [qq 27 (.mv (.t 25)), qq 10 (.mv (.t 27))]) (.seq (.reg [qq 11 (.mv (.c (.int .u32 0)))]) (.seq (.seq (.reg [qq 28 (.mv (.t 10)), qq 29 (.mv (.t 7)), qq 30 (.lensl (.t 29)), qq 31 (.bin .lss (.t 28) (.t 30))]) (.cond (.t 31) (.reg [qq 32 (.mv (.t 7)), qq 33 (.mv (.t 10)), qq 34 (.ixsl 1 (.t 32) (.t 33)), qq 35 (.load false 1 (.t 34)), qq 11 (.mv (.t 35))]) .skip)) (.reg [qq 37 (.mv (.t 8)), qq 38 (.mv (.t 10)), qq 39 (.mv (.t 6)), qq 40 (.mv (.t 10)), qq 41 (.ixsl 1 (.t 39) (.t 40)), qq 42 (.load false 1 (.t 41)), qq 43 (.mv (.t 11)), qq 44 (.mv (.t 9)), qq 45 (.call 123 [(.t 42), (.t 43), (.t 44)]), qq 36 (.mv (.t 45)), qq 46 (.ext (.t 36) 0), qq 47 (.ext (.t 36) 1), qq 48 (.ixsl 1 (.t 37) (.t 38)), qn (.store 1 (.t 48) (.t 46)), qq 9 (.mv (.t 47))]))))) (.reg [qq 49 (.bin .add (.t 25) (ci 1)), qq 25 (.mv (.t 49))]))))))) (.seq (.reg [qq 50 (.mv (.t 8)), qq 51 (.call 113 [(.t 50)]), qq 4 (.mv (.t 51)), qq 5 (.mv (.c (.bool true)))]) .ret)))))))
theorem tr80 : trFun Tryz.prog 80 = some ⟨52, [.t 4, .t 5], c80⟩ := by kernel_rfl
theorem cmpN_neg {a b : Nat} : (cmpN a b < 0) = (a < b) := by
  unfold cmpN
  by_cases h : a < b
  · simp [h]
  · by_cases h2 : a = b
    · simp [h2]
    · simp [h, h2]
set_option maxHeartbeats 1000000 in
theorem ok_nSub : SpecOK Tryz.prog 80 (flat spNSub) := by
  refine flat_run (env_cons ok_nCmp (env_cons ok_nlimbs (env_cons ok_nmag (env_cons ok_sub32 (env_nil _))))) mixed tr80 ?_
  intro args v h N hG
  unfold spNSub at hG
  split at hG
  case h_2 => cases hG
  rename_i l m
  split at hG
  case isFalse => cases hG
  rename_i hl
  obtain ⟨hl, hm⟩ := hl
  have hl' : l.length ≤ 1099511627776 := by omega
  have hm' : m.length ≤ 1099511627776 := by omega
  split at hG
  · rename_i hlt
    cases hG
    refine ⟨rfl, by simp, ?_⟩
    simp only [c80, G0, Nat.reduceAdd]
    simp only [↓R0, R1, simprocAttr, -Int.reduceAbs, spNCmp, hl', hm', cmpN_lt hlt, Fin, isEnd, resL, res1, iE, rE]
    exact ⟨_, rfl, rfl, fun k hk => by simp only [ne_nb hk, if_false]⟩
  rename_i hlt
  cases hG
  refine ⟨rfl, by simp, ?_⟩
  have hL : lk (nl l) ≤ 17179869184 := lk_len (Nat.le_trans (bl_length_nl l) (by omega))
  simp only [c80, G0, Nat.reduceAdd]
  generalize ha : nl l = aa at *
  generalize hb : nl m = bb at *
  have g2 : 4 * (lk aa : Int) ≤ 281474976710656 := by omega
  have g3 : (lk aa : Int) ≤ 9223372036854775807 := by omega
  simp only [↓R0, R1, simprocAttr, -Int.reduceAbs, spNCmp, nwS, spLimbs, hl', hm', ha, hb, cmpN_neg, hlt, g2, g3, tb_rep]
  clear g2 g3
  refine lp_parts (fun m tm hp nx => ∃ (i : Nat) (f : Nat → Nat), m + i = lk aa ∧ tmget tm 6 = .slice (some ⟨N + 0, 0, none⟩) (lk aa) (lk aa) ∧ tmget tm 7 = .slice (some ⟨N + 1, 0, none⟩) (lk bb) (lk bb) ∧
      tmget tm 8 = .slice (some ⟨N + 2, 0, none⟩) (lk aa) (lk aa) ∧ tmget tm 9 = .int .u32 (cyS aa bb i : Nat) ∧ tmget tm 24 = .int .i64 (lk aa) ∧ tmget tm 25 = .int .i64 i ∧
      hget hp (N + 0) = some ⟨118, 1, false, tb (lk aa) (lm aa)⟩ ∧ hget hp (N + 1) = some ⟨118, 1, false, tb (lk bb) (lm bb)⟩ ∧
      hget hp (N + 2) = some ⟨118, 1, false, tb (lk aa) f⟩ ∧ (∀ j, j < i → f j = lm (aa - bb) j) ∧ (∀ q, q < N → hget hp q = hget h q) ∧ nx = N + 3) ?_ (lk aa)
    ⟨0, fun _ => 0, by omega, ?_, ?_, ?_, ?_, ?_, ?_, ?_, ?_, ?_, fun j hj => by omega, ?_, rfl⟩
  · intro m tm hp nx ⟨i, f, hm, h6, h7, h8, h9, h24, h25, hb1, hb2, hb3, hf, hh, hnx⟩
    subst hnx
    have b1 := lm_lt aa i
    have b2 := lm_lt bb i
    have b3 := cyS_le aa bb i
    have v1 : ((lm aa i : Nat) : Int) < 4294967296 := by omega
    have v2 : ((lm bb i : Nat) : Int) < 4294967296 := by omega
    have v3 : ((cyS aa bb i : Nat) : Int) ≤ 1 := by omega
    have hmod := sub_mods (show bb ≤ aa by omega) i
    have v4 : ((lm aa i : Int) - lm bb i - cyS aa bb i) % 4294967296 = (lm (aa - bb) i : Int) := (sub_limb hmod).symm
    have v5 : (if (lm aa i : Int) < lm bb i + cyS aa bb i then (1 : Int) else 0) = (cyS aa bb (i + 1) : Int) := by
      rw [cyS_succ]
      by_cases g : lm aa i < lm bb i + cyS aa bb i
      · rw [if_pos g, if_pos (by omega)]; rfl
      · rw [if_neg g, if_neg (by omega)]; rfl
    have e7 : IntKind.i64.wrap ((i : Int) + 1) = ((i + 1 : Nat) : Int) := by rw [i64_in _ (by omega)]; omega
    by_cases c1 : i < lk aa
    · have c1' : i + 1 ≤ lk aa := c1
      have k1 := tb_get' (lm aa) c1
      have hset : ∀ j, j < i + 1 → (fun j => if j = i then lm (aa - bb) i else f j) j = lm (aa - bb) j := by
        intro j hj
        simp only
        by_cases e : j = i
        · rw [if_pos e, e]
        · rw [if_neg e]; exact hf j (by omega)
      by_cases c2 : i < lk bb
      · have k2 := tb_get' (lm bb) c2
        simp only [↓R0, R1, simprocAttr, -Int.reduceAbs, h6, h7, h8, h9, h24, h25, hb1, hb2, hb3, c1, c1', c2, k1, k2, e7, spSub32, v1, v2, v3, v4, v5, tb_length, tb_set]
        refine ⟨m - 1, by omega, i + 1, _, by omega, rfl, rfl, rfl, hset, ?_⟩
        intro q hq
        simp only [if_neg (show ¬ N + 2 = q by omega)]
        exact hh q hq
      · have z2 := lm_out c2
        rw [z2] at v4 v5
        have z0 : ((0 : Nat) : Int) = 0 := rfl
        rw [z0] at v4 v5
        simp only [↓R0, R1, simprocAttr, -Int.reduceAbs, h6, h7, h8, h9, h24, h25, hb1, hb2, hb3, c1, c1', c2, k1, e7, spSub32, v1, v3, v4, v5, tb_length, tb_set]
        refine ⟨m - 1, by omega, i + 1, _, by omega, rfl, rfl, rfl, hset, ?_⟩
        intro q hq
        simp only [if_neg (show ¬ N + 2 = q by omega)]
        exact hh q hq
    · have ei : i = lk aa := by omega
      subst ei
      have c5 : lk aa ≤ 34359738368 := by omega
      have htb : tb (lk aa) f = tb (lk aa) (lm (aa - bb)) := tb_congr hf
      have hud : ud (tb (lk aa) (lm (aa - bb))) = aa - bb := by rw [ud_tb, Nat.mod_eq_of_lt (Nat.lt_of_le_of_lt (Nat.sub_le _ _) (lk_lt aa))]
      simp only [↓R0, R1, simprocAttr, -Int.reduceAbs, h6, h7, h8, h9, h24, h25, hb1, hb2, hb3, c1, tb_length, htb, rdS, spMag, shows, tb_all, uok_lm, c5, hud, Fin, isEnd, resL, res1, iE, rE]
      first | exact ⟨_, rfl, rfl, hh⟩ | exact ⟨_, rfl, rfl, fun k hk => by simp only [ne_nb hk, if_false]; exact hh k hk⟩
  · (first | (simp only [↓R0, R1, simprocAttr, -Int.reduceAbs]; done) | (simp only [↓R0, R1, simprocAttr, -Int.reduceAbs]; rfl) | rfl)
  · (first | (simp only [↓R0, R1, simprocAttr, -Int.reduceAbs]; done) | (simp only [↓R0, R1, simprocAttr, -Int.reduceAbs]; rfl) | rfl)
  · (first | (simp only [↓R0, R1, simprocAttr, -Int.reduceAbs]; done) | (simp only [↓R0, R1, simprocAttr, -Int.reduceAbs]; rfl) | rfl)
  · (first | (simp only [↓R0, R1, simprocAttr, -Int.reduceAbs, cyS_zero]; done) | (simp only [↓R0, R1, simprocAttr, -Int.reduceAbs, cyS_zero]; rfl) | rfl)
  · (first | (simp only [↓R0, R1, simprocAttr, -Int.reduceAbs]; done) | (simp only [↓R0, R1, simprocAttr, -Int.reduceAbs]; rfl) | rfl)
  · (first | (simp only [↓R0, R1, simprocAttr, -Int.reduceAbs]; done) | (simp only [↓R0, R1, simprocAttr, -Int.reduceAbs]; rfl) | rfl)
  · (first | (simp only [↓R0, R1, simprocAttr, -Int.reduceAbs]; done) | (simp only [↓R0, R1, simprocAttr, -Int.reduceAbs]; rfl) | rfl)
  · (first | (simp only [↓R0, R1, simprocAttr, -Int.reduceAbs]; done) | (simp only [↓R0, R1, simprocAttr, -Int.reduceAbs]; rfl) | rfl)
  · (first | (simp only [↓R0, R1, simprocAttr, -Int.reduceAbs]; done) | (simp only [↓R0, R1, simprocAttr, -Int.reduceAbs]; rfl) | rfl)
  · intro q hq
    simp only [↓R0, R1, simprocAttr, -Int.reduceAbs, hget_new hq]
end Go.Eng
end
section
set_option linter.unusedVariables false
set_option linter.unusedSimpArgs false
set_option linter.unusedSectionVars false
namespace Go.Eng
def mvV (v0 xi y i k : Nat) : Nat := v0 + xi * (y % 4294967296 ^ k) * 4294967296 ^ i
def mvC (v0 xi y i k : Nat) : Nat := mvV v0 xi y i k / 4294967296 ^ (i + k) - v0 / 4294967296 ^ (i + k)
def mvN (v0 xi y i k : Nat) : Nat := xi * lm y k + lm v0 (i + k) + mvC v0 xi y i k
theorem mvV_zero (v0 xi y i : Nat) : mvV v0 xi y i 0 = v0 := by simp [mvV, Nat.mod_one]
theorem mvC_zero (v0 xi y i : Nat) : mvC v0 xi y i 0 = 0 := by simp [mvC, mvV_zero]
theorem mvV_succ (v0 xi y i k : Nat) : mvV v0 xi y i (k + 1) = mvV v0 xi y i k + xi * lm y k * 4294967296 ^ (i + k) := by
  unfold mvV
  rw [mod_step, Nat.pow_add, Nat.mul_add, Nat.add_mul, ← Nat.add_assoc]
  congr 1
  rw [Nat.mul_comm (4294967296 ^ k), ← Nat.mul_assoc, Nat.mul_assoc, Nat.mul_comm (4294967296 ^ k)]
theorem mv_div (v0 xi y i k : Nat) : mvV v0 xi y i (k + 1) / 4294967296 ^ (i + k) = mvN v0 xi y i k + 4294967296 * (v0 / 4294967296 ^ (i + k + 1)) := by
  have h1 : v0 / 4294967296 ^ (i + k) ≤ mvV v0 xi y i k / 4294967296 ^ (i + k) := Nat.div_le_div_right (by unfold mvV; omega)
  rw [mvV_succ, Nat.add_mul_div_right _ _ (pB _)]
  unfold mvN mvC
  have h2 := div_step v0 (i + k)
  omega
theorem mv_limb (v0 xi y i k : Nat) : lm (mvV v0 xi y i (k + 1)) (i + k) = mvN v0 xi y i k % 4294967296 := by
  unfold lm; rw [mv_div]; omega
theorem mv_carry (v0 xi y i k : Nat) : mvC v0 xi y i (k + 1) = mvN v0 xi y i k / 4294967296 := by
  have e : i + (k + 1) = i + k + 1 := by omega
  unfold mvC
  rw [e, Nat.pow_succ, ← Nat.div_div_eq_div_mul, mv_div, ← Nat.div_div_eq_div_mul, Nat.pow_succ, ← Nat.div_div_eq_div_mul]
  omega
theorem mv_low {v0 xi y i k j : Nat} (h : j < i + k) : lm (mvV v0 xi y i (k + 1)) j = lm (mvV v0 xi y i k) j := by
  rw [mvV_succ, lm_add_mul h]
theorem mv_bound {v0 xi y i k : Nat} (hx : xi < 4294967296) (hc : mvC v0 xi y i k < 4294967296) : mvN v0 xi y i k < 18446744073709551616 ∧ mvC v0 xi y i (k + 1) < 4294967296 := by
  have h1 := lm_lt y k
  have h2 := lm_lt v0 (i + k)
  have h3 : xi * lm y k ≤ 4294967295 * 4294967295 := Nat.mul_le_mul (by omega) (by omega)
  rw [mv_carry]
  have hN : mvN v0 xi y i k < 18446744073709551616 := by unfold mvN; omega
  exact ⟨hN, by omega⟩
theorem mv_row {x y i ky : Nat} (hy : y < 4294967296 ^ ky) : mvV (x % 4294967296 ^ i * y) (lm x i) y i ky = x % 4294967296 ^ (i + 1) * y := by
  unfold mvV
  rw [Nat.mod_eq_of_lt hy, mod_step, Nat.add_mul]
  congr 1
  rw [Nat.mul_comm, Nat.mul_assoc]
theorem mv_rowlt {x y i ky : Nat} (hy : y < 4294967296 ^ ky) : x % 4294967296 ^ i * y < 4294967296 ^ (i + ky) := by
  rw [Nat.pow_add]
  exact Nat.mul_lt_mul'' (Nat.mod_lt _ (pB _)) hy
theorem mv_top {x y i ky : Nat} (hy : y < 4294967296 ^ ky) : mvC (x % 4294967296 ^ i * y) (lm x i) y i ky = lm (x % 4294967296 ^ (i + 1) * y) (i + ky) := by
  unfold mvC
  rw [mv_row hy, Nat.div_eq_of_lt (mv_rowlt hy), Nat.sub_zero, lm_top]
  have := mv_rowlt (x := x) (i := i + 1) hy
  rw [show i + ky + 1 = i + 1 + ky by omega]; exact this
theorem sh_rest (n d i : Nat) : n / 4294967296 ^ i % d = (n / 4294967296 ^ (i + 1) % d * 4294967296 + lm n i) % d := by
  rw [div_step n i]
  generalize n / 4294967296 ^ (i + 1) = Q
  have : (Q * 4294967296) % d = (Q % d * 4294967296) % d := by rw [Nat.mul_mod, Nat.mul_mod (Q % d) 4294967296, Nat.mod_mod]
  rw [Nat.mul_comm 4294967296, Nat.add_mod, this, ← Nat.add_mod]
theorem sh_quo {n d i : Nat} (hd : 0 < d) : lm (n / d) i = (n / 4294967296 ^ (i + 1) % d * 4294967296 + lm n i) / d ∧ (n / 4294967296 ^ (i + 1) % d * 4294967296 + lm n i) / d < 4294967296 := by
  have hr := Nat.mod_lt (n / 4294967296 ^ (i + 1)) hd
  have hl := lm_lt n i
  have e0 : lm (n / d) i = n / 4294967296 ^ i / d % 4294967296 := by
    unfold lm; rw [Nat.div_div_eq_div_mul, Nat.mul_comm d, ← Nat.div_div_eq_div_mul]
  rw [e0, div_step n i]
  generalize lm n i = l at *
  have hd1 := Nat.div_add_mod (n / 4294967296 ^ (i + 1)) d
  generalize n / 4294967296 ^ (i + 1) = Q at *
  have hz : (Q % d * 4294967296 + l) / d < 4294967296 := by
    rw [Nat.div_lt_iff_lt_mul hd]
    have : (Q % d + 1) * 4294967296 ≤ d * 4294967296 := Nat.mul_le_mul_right _ hr
    rw [Nat.add_mul] at this
    rw [Nat.mul_comm _ d]
    omega
  have e : 4294967296 * Q + l = d * (4294967296 * (Q / d)) + (Q % d * 4294967296 + l) := by
    conv => lhs; rw [← hd1]
    rw [Nat.mul_add, ← Nat.mul_assoc, ← Nat.mul_assoc, Nat.mul_comm d 4294967296]; omega
  refine ⟨?_, hz⟩
  rw [e, Nat.mul_add_div hd, Nat.mul_add_mod, Nat.mod_eq_of_lt hz]
theorem shl_limb {n s i : Nat} (hs : s < 32) :
    (∀ j, lm (n % 4294967296 ^ (i + 1) * 2 ^ s) j = if j = i + 1 then lm n i * 2 ^ s / 4294967296 else if j = i then lm (n % 4294967296 ^ i * 2 ^ s) i + lm n i * 2 ^ s % 4294967296 else lm (n % 4294967296 ^ i * 2 ^ s) j) ∧
    lm (n % 4294967296 ^ i * 2 ^ s) i < 2 ^ s ∧ lm n i * 2 ^ s % 4294967296 = (lm n i * 2 ^ s % 4294967296) / 2 ^ s * 2 ^ s ∧ lm (n % 4294967296 ^ i * 2 ^ s) i + lm n i * 2 ^ s % 4294967296 < 4294967296 := by
  have hS : 4294967296 = 2 ^ (32 - s) * 2 ^ s := by rw [← Nat.pow_add, show 32 - s + s = 32 by omega]
  have hS0 : 0 < 2 ^ s := Nat.pow_pos (by omega)
  have hm := Nat.mod_lt n (pB i)
  have hx := lm_lt n i
  have e0 : lm n i * 2 ^ s % 4294967296 = lm n i % 2 ^ (32 - s) * 2 ^ s := by
    conv => lhs; rw [hS]
    rw [Nat.mul_mod_mul_right]
  have hT : 2 ^ s ≤ 4294967296 := by conv => rhs; rw [hS]
                                     exact Nat.le_mul_of_pos_left _ (Nat.pow_pos (by omega))
  have hlo : n % 4294967296 ^ i * 2 ^ s < 4294967296 ^ i * 2 ^ s := Nat.mul_lt_mul_of_pos_right hm hS0
  have hlo1 : n % 4294967296 ^ i * 2 ^ s < 4294967296 ^ (i + 1) := by rw [Nat.pow_succ]; exact Nat.lt_of_lt_of_le hlo (Nat.mul_le_mul_left _ hT)
  have h1 : lm (n % 4294967296 ^ i * 2 ^ s) i < 2 ^ s := by
    rw [lm_top hlo1]; exact Nat.div_lt_of_lt_mul hlo
  have h2 : lm n i % 2 ^ (32 - s) * 2 ^ s + 2 ^ s ≤ 4294967296 := by
    have := Nat.mul_le_mul_right (2 ^ s) (Nat.mod_lt (lm n i) (Nat.pow_pos (n := 32 - s) (show 0 < 2 by omega)))
    rw [Nat.succ_mul, ← hS] at this
    exact this
  refine ⟨fun j => ?_, h1, ?_, ?_⟩
  · have e : n % 4294967296 ^ (i + 1) * 2 ^ s = n % 4294967296 ^ i * 2 ^ s + lm n i * 2 ^ s * 4294967296 ^ i := by
      rw [mod_step, Nat.add_mul, Nat.mul_assoc, Nat.mul_comm (4294967296 ^ i)]
    have ediv : (n % 4294967296 ^ i * 2 ^ s + lm n i * 2 ^ s * 4294967296 ^ i) / 4294967296 ^ i = lm (n % 4294967296 ^ i * 2 ^ s) i + lm n i * 2 ^ s := by
      rw [Nat.add_mul_div_right _ _ (pB i), lm_top hlo1]
    rw [e]
    rcases Nat.lt_trichotomy j i with g | g | g
    · rw [if_neg (by omega), if_neg (by omega), lm_add_mul g]
    · subst g
      rw [if_neg (by omega), if_pos rfl]
      have e9 : ∀ W, lm W j = W / 4294967296 ^ j % 4294967296 := fun W => rfl
      rw [e9, ediv]
      have : lm (n % 4294967296 ^ j * 2 ^ s) j + lm n j * 2 ^ s % 4294967296 < 4294967296 := by rw [e0]; omega
      omega
    · by_cases g2 : j = i + 1
      · rw [if_pos g2, g2]
        have e9 : ∀ W, lm W (i + 1) = W / 4294967296 ^ i / 4294967296 % 4294967296 := fun W => by unfold lm; rw [Nat.pow_succ, ← Nat.div_div_eq_div_mul]
        rw [e9, ediv]
        have q1 : lm n i * 2 ^ s < 4294967296 * 4294967296 := Nat.mul_lt_mul_of_lt_of_le hx hT (by omega)
        have q2 : lm n i * 2 ^ s % 4294967296 + 2 ^ s ≤ 4294967296 := by rw [e0]; exact h2
        omega
      · rw [if_neg g2, if_neg (by omega)]
        have hhi : n % 4294967296 ^ i * 2 ^ s + lm n i * 2 ^ s * 4294967296 ^ i < 4294967296 ^ (i + 2) := by
          have e8 : 4294967296 ^ (i + 2) = 4294967296 ^ (i + 1) * 4294967296 := Nat.pow_succ _ _
          rw [← e, e8]
          exact Nat.mul_lt_mul_of_lt_of_le (Nat.mod_lt _ (pB _)) hT (by omega)
        rw [lm_of_lt' hhi (by omega), lm_of_lt' hlo1 (by omega)]
  · rw [e0, Nat.mul_div_cancel _ hS0]
  · rw [e0]; omega
theorem shr_limb {n s i : Nat} (hs : s < 32) : lm (n / 2 ^ s) i = (lm n i + lm n (i + 1) * 4294967296) / 2 ^ s % 4294967296 := by
  have e : n / 4294967296 ^ i = 4294967296 * 4294967296 * (n / 4294967296 ^ (i + 2)) + (lm n i + lm n (i + 1) * 4294967296) := by
    have h1 := div_step n i
    have h2 := div_step n (i + 1)
    rw [show i + 2 = i + 1 + 1 from rfl]
    omega
  have hS : 4294967296 = 2 ^ s * 2 ^ (32 - s) := by rw [← Nat.pow_add, show s + (32 - s) = 32 by omega]
  have hS0 : 0 < 2 ^ s := Nat.pow_pos (by omega)
  have e0 : lm (n / 2 ^ s) i = n / 4294967296 ^ i / 2 ^ s % 4294967296 := by
    unfold lm; rw [Nat.div_div_eq_div_mul, Nat.mul_comm, ← Nat.div_div_eq_div_mul]
  rw [e0, e]
  have e2 : 4294967296 * 4294967296 * (n / 4294967296 ^ (i + 2)) = 2 ^ s * (4294967296 * (2 ^ (32 - s) * (n / 4294967296 ^ (i + 2)))) := by
    rw [← Nat.mul_assoc, ← Nat.mul_assoc, Nat.mul_comm (2 ^ s), Nat.mul_assoc 4294967296 (2 ^ s), ← hS]
  rw [e2, Nat.mul_add_div hS0, Nat.mul_add_mod]
end Go.Eng
end
section
set_option linter.unusedVariables false
set_option linter.unusedSimpArgs false
set_option linter.unusedSectionVars false
set_option maxRecDepth 4000
namespace Go.Eng
open Go Go.Proofs Go.IntWalk
def spNMul : List Value → Option Value
  | [.string ⟨⟨l⟩⟩, .string ⟨⟨m⟩⟩] => if l.length ≤ 34359738368 ∧ m.length ≤ 34359738368 then some (.string ⟨⟨bl (nl l * nl m)⟩⟩) else none
  | _ => none
def c81 : ICode :=
  (.seq (.reg [qq 4 (.mv (.c e0))]) (.seq (.reg [qq 12 (.mv (.t 0)), qq 13 (.call 110 [(.t 12)]), qq 14 (.mv (.t 1)), qq 15 (.call 110 [(.t 14)]), qq 5 (.mv (.t 13)), qq 6 (.mv (.t 15))]) (.seq (.reg [qq 16 (.mv (.t 5)), qq 17 (.lensl (.t 16)), qq 18 (.mv (.t 6)), qq 19 (.lensl (.t 18)), qq 20 (.bin .add (.t 17) (.t 19)), qq 21 (.mkslice 118 1 4 [(.int .u32 0)] (.t 20) (.t 20)), qq 7 (.mv (.t 21))]) (.seq (.seq (.reg [qq 22 (.mv (.t 5)), qq 23 (.lensl (.t 22)), qq 24 (.mv (ci 0))]) (.block 0 (.loop (.seq (.reg [qq 25 (.bin .lss (.t 24) (.t 23))]) (.seq (.cond (.t 25) .skip (.exit 0)) (.seq (.block 1 (.seq (.reg [qq 26 (.mv (.t 24)), qq 8 (.mv (.t 26))]) (.seq (.reg [qq 9 (.mv (.c (.int .u64 0)))]) (.seq (.seq (.reg [qq 27 (.mv (.t 6)), qq 28 (.lensl (.t 27)), qq 29 (.mv (ci 0))]) (.block 2 (.loop (.seq (.reg [qq 30 (.bin .lss (.t 29) (.t 28))]) (.seq (.cond (.t 30) .skip (.exit 2)) (.seq (.block 3 (.seq (.reg [qq 31 (.mv (.t 29)), qq 10 (.mv (.t 31))]) (.seq (.dreg [qu 32 (.mv (.t 5)), qu 33 (.mv (.t 8)), qu 34 (.ixsl 1 (.t 32) (.t 33)), qu 35 (.load false 1 (.t 34)), qu 36 (.conv .u64 (.t 35)), qu 37 (.mv (.t 6)), qu 38 (.mv (.t 10)), qu 39 (.ixsl 1 (.t 37) (.t 38)), qu 40 (.load false 1 (.t 39)), qu 41 (.conv .u64 (.t 40)), qu 42 (.bin .mul (.t 36) (.t 41)), qu 43 (.mv (.t 7)), qu 44 (.mv (.t 8)), qu 45 (.mv (.t 10)), qu 46 (.bin .add (.t 44) (.t 45)), qu 47 (.ixsl 1 (.t 43) (.t 46)), qu 48 (.load false 1 (.t 47)), qu 49 (.conv .u64 (.t 48)), qu 50 (.bin .add (.t 42) (.t 49)), qu 51 (.mv (.t 9)), qu 52 (.bin .add (.t 50) (.t 51)), qu 11 (.mv (.t 52))]) (.reg [qq 53 (.mv (.t 7)), qq 54 (.mv (.t 8)), qq 55 (.mv (.t 10)), qq 56 (.bin .add (.t 54) (.t 55)), qq 57 (.mv (.t 11)), qq 58 (.conv .u32 (.t 57)), qq 59 (.mv (.t 11)), qq 60 (.bin .shr (.t 59) (.c (.int .u64 32))), qq 61 (.ixsl 1 (.t 53) (.t 56)), qn (.store 1 (.t 61) (.t 58)), qq 9 (.mv (.t 60))])))) (.reg [qq 62 (.bin .add (.t 29) (ci 1)), qq 29 (.mv (.t 62))]))))))) (.reg [qq 63 (.mv (.t 7)), qq 64 (.mv (.t 8)), qq 65 (.mv (.t 6)), qq 66 (.lensl (.t 65)), qq 67 (.bin .add (.t 64) (.t 66)), qq 68 (.mv (.t 9)), qq 69 (.conv .u32 (.t 68)), qq 70 (.ixsl 1 (.t 63) (.t 67)), qn (.store 1 (.t 70) (.t 69))]))))) (.reg [qq 71 (.bin .add (.t 24) (ci 1)), qq 24 (.mv (.t 71))]))))))) (.seq (.reg [qq 72 (.mv (.t 7)), qq 73 (.call 113 [(.t 72)]), qq 4 (.mv (.t 73))]) .ret)))))
theorem tr81 : trFun Tryz.prog 81 = some ⟨74, [.t 4], c81⟩ := by kernel_rfl
set_option maxHeartbeats 1000000 in
theorem ok_nMul : SpecOK Tryz.prog 81 (flat spNMul) := by
  refine flat_run (env_cons ok_nlimbs (env_cons ok_nmag (env_nil _))) mixed tr81 ?_
  intro args v h N hG
  unfold spNMul at hG
  split at hG
  case h_2 => cases hG
  rename_i l m
  split at hG
  case isFalse => cases hG
  rename_i hl
  obtain ⟨hl, hm⟩ := hl
  cases hG
  refine ⟨rfl, by simp, ?_⟩
  have hL : lk (nl l) ≤ 8589934592 := lk_len (Nat.le_trans (bl_length_nl l) (by omega))
  have hM : lk (nl m) ≤ 8589934592 := lk_len (Nat.le_trans (bl_length_nl m) (by omega))
  have hl' : l.length ≤ 1099511627776 := by omega
  have hm' : m.length ≤ 1099511627776 := by omega
  have hx := lk_lt (nl l)
  have hy := lk_lt (nl m)
  generalize ha : nl l = x at *
  generalize hb : nl m = y at *
  have g1 : IntKind.i64.wrap ((lk x : Int) + (lk y : Int)) = ((lk x + lk y : Nat) : Int) := by rw [i64_in _ (by omega)]; omega
  have g2 : 4 * ((lk x + lk y : Nat) : Int) ≤ 281474976710656 := by omega
  have g3 : ((lk x + lk y : Nat) : Int) ≤ 9223372036854775807 := by omega
  simp only [c81, G0, Nat.reduceAdd]
  simp only [↓R0, R1, simprocAttr, -Int.reduceAbs, nwS, spLimbs, hl', hm', ha, hb, g1, g2, g3, tb_rep]
  clear g1 g2 g3
  generalize hkx : lk x = kx at *
  generalize hky : lk y = ky at *
  refine lp_parts (fun m tm hp nx => ∃ (i : Nat), m + i = kx ∧ tmget tm 5 = .slice (some ⟨N + 0, 0, none⟩) kx kx ∧ tmget tm 6 = .slice (some ⟨N + 1, 0, none⟩) ky ky ∧
      tmget tm 7 = .slice (some ⟨N + 2, 0, none⟩) (kx + ky) (kx + ky) ∧ tmget tm 23 = .int .i64 kx ∧ tmget tm 24 = .int .i64 i ∧
      hget hp (N + 0) = some ⟨118, 1, false, tb kx (lm x)⟩ ∧ hget hp (N + 1) = some ⟨118, 1, false, tb ky (lm y)⟩ ∧
      hget hp (N + 2) = some ⟨118, 1, false, tb (kx + ky) (lm (x % 4294967296 ^ i * y))⟩ ∧ (∀ q, q < N → hget hp q = hget h q) ∧ nx = N + 3) ?_ kx
    ⟨0, by omega, ?_, ?_, ?_, ?_, ?_, ?_, ?_, ?_, ?_, rfl⟩
  · intro m tm hp nx ⟨i, hm, h5, h6, h7, h23, h24, hb1, hb2, hb3, hh, hnx⟩
    subst hnx
    by_cases c1 : i < kx
    · have ex : IntKind.i64.wrap ((i : Int) + 1) = ((i + 1 : Nat) : Int) := by rw [i64_in _ (by omega)]; omega
      simp only [↓R0, R1, simprocAttr, -Int.reduceAbs, h5, h6, h7, h23, h24, hb1, hb2, hb3, c1]
      refine lp_parts (fun m2 tm hp nx => ∃ (k : Nat) (f : Nat → Nat), m2 + k = ky ∧ tmget tm 5 = .slice (some ⟨N + 0, 0, none⟩) kx kx ∧ tmget tm 6 = .slice (some ⟨N + 1, 0, none⟩) ky ky ∧
        tmget tm 7 = .slice (some ⟨N + 2, 0, none⟩) (kx + ky) (kx + ky) ∧ tmget tm 23 = .int .i64 kx ∧ tmget tm 24 = .int .i64 i ∧ tmget tm 8 = .int .i64 i ∧ tmget tm 28 = .int .i64 ky ∧ tmget tm 29 = .int .i64 k ∧
        tmget tm 9 = .int .u64 (mvC (x % 4294967296 ^ i * y) (lm x i) y i k : Nat) ∧ mvC (x % 4294967296 ^ i * y) (lm x i) y i k < 4294967296 ∧
        hget hp (N + 0) = some ⟨118, 1, false, tb kx (lm x)⟩ ∧ hget hp (N + 1) = some ⟨118, 1, false, tb ky (lm y)⟩ ∧
        hget hp (N + 2) = some ⟨118, 1, false, tb (kx + ky) f⟩ ∧ (∀ j, f j = if j < i + k then lm (mvV (x % 4294967296 ^ i * y) (lm x i) y i k) j else lm (x % 4294967296 ^ i * y) j) ∧
        (∀ q, q < N → hget hp q = hget h q) ∧ nx = N + 3) ?_ ky
        ⟨0, _, by omega, ?_, ?_, ?_, ?_, ?_, ?_, ?_, ?_, ?_, ?_, hb1, hb2, hb3, fun j => ?_, hh, rfl⟩
      · clear h5 h6 h7 h23 h24 hb1 hb2 hb3 hh
        clear tm hp
        intro m2 tm hp nx ⟨k, f, hm2, h5, h6, h7, h23, h24, h8, h28, h29, h9, hc, hb1, hb2, hb3, hf, hh, hnx⟩
        subst hnx
        by_cases c2 : k < ky
        · obtain ⟨hN, hc'⟩ := mv_bound (v0 := x % 4294967296 ^ i * y) (y := y) (i := i) (k := k) (lm_lt x i) hc
          have hfk : f (i + k) = lm (x % 4294967296 ^ i * y) (i + k) := by rw [hf, if_neg (by omega)]
          have hNd : mvN (x % 4294967296 ^ i * y) (lm x i) y i k = lm x i * lm y k + f (i + k) + mvC (x % 4294967296 ^ i * y) (lm x i) y i k := by rw [hfk]; rfl
          have hcar := mv_carry (x % 4294967296 ^ i * y) (lm x i) y i k
          have hlim := mv_limb (x % 4294967296 ^ i * y) (lm x i) y i k
          have hlow : ∀ j, j < i + k → lm (mvV (x % 4294967296 ^ i * y) (lm x i) y i (k + 1)) j = lm (mvV (x % 4294967296 ^ i * y) (lm x i) y i k) j := fun j h => mv_low h
          generalize hC : mvC (x % 4294967296 ^ i * y) (lm x i) y i k = C at *
          generalize hNN : mvN (x % 4294967296 ^ i * y) (lm x i) y i k = W at *
          have bx := lm_lt x i
          have b_y := lm_lt y k
          have bf : f (i + k) < 4294967296 := by rw [hfk]; exact lm_lt _ _
          have bxy : lm x i * lm y k ≤ 4294967295 * 4294967295 := Nat.mul_le_mul (by omega) (by omega)
          have w1 := u64_nat (n := lm x i) (by omega)
          have w2 := u64_nat (n := lm y k) (by omega)
          have w3 := u64_nat (n := f (i + k)) (by omega)
          have w4 : IntKind.u64.wrap ((lm x i : Int) * (lm y k : Int)) = ((lm x i * lm y k : Nat) : Int) := by rw [← Int.natCast_mul, u64_nat (by omega)]
          have w5 : IntKind.u64.wrap (((lm x i * lm y k : Nat) : Int) + (f (i + k) : Int)) = ((lm x i * lm y k + f (i + k) : Nat) : Int) := by rw [← Int.natCast_add, u64_nat (by omega)]
          have w6 : IntKind.u64.wrap (((lm x i * lm y k + f (i + k) : Nat) : Int) + (C : Int)) = (W : Int) := by rw [← Int.natCast_add, hNd, u64_nat (by omega)]
          have w7 := u32_mod W
          have w8 : (W : Int).fdiv (2 ^ min 32 IntKind.u64.bits) = ((W / 4294967296 : Nat) : Int) := by
            have : (2 : Int) ^ min 32 IntKind.u64.bits = 4294967296 := rfl
            rw [this, Int.fdiv_eq_ediv_of_nonneg _ (by omega)]; omega
          have e1 : IntKind.i64.wrap ((i : Int) + (k : Int)) = ((i + k : Nat) : Int) := by rw [i64_in _ (by omega)]; omega
          have e2 : IntKind.i64.wrap ((k : Int) + 1) = ((k + 1 : Nat) : Int) := by rw [i64_in _ (by omega)]; omega
          have k1 := tb_get' (lm x) c1
          have k2 := tb_get' (lm y) c2
          have c3 : i + k < kx + ky := by omega
          have c3' : i + k + 1 ≤ kx + ky := by omega
          have k3 := tb_get' f c3
          simp only [↓R0, R1, simprocAttr, -Int.reduceAbs, h5, h6, h7, h23, h24, h8, h28, h29, h9, hb1, hb2, hb3, c1, c2, c3, c3', k1, k2, k3, w1, w2, w3, w4, w5, w6, w7, w8, e1, e2, tb_length, tb_set]
          refine ⟨m2 - 1, by omega, k + 1, _, by omega, rfl, ?_, ?_, rfl, fun j => ?_, ?_⟩
          · rw [hcar]
          · exact hc'
          · by_cases g : j = i + k
            · rw [if_pos g, if_pos (by omega), g, hlim]
            · rw [if_neg g, hf j]
              by_cases g2 : j < i + k
              · rw [if_pos g2, if_pos (by omega), hlow j g2]
              · rw [if_neg g2, if_neg (by omega)]
          · intro q hq
            simp only [if_neg (show ¬ N + 2 = q by omega)]
            exact hh q hq
        · have ek : k = ky := by omega
          subst ek
          have hy' : y < 4294967296 ^ k := by rw [← hky]; exact lk_lt y
          have w1 := u32_nat hc
          have e1 : IntKind.i64.wrap ((i : Int) + (k : Int)) = ((i + k : Nat) : Int) := by rw [i64_in _ (by omega)]; omega
          have c3 : i + k < kx + k := by omega
          have c3' : i + k + 1 ≤ kx + k := by omega
          simp only [↓R0, R1, simprocAttr, -Int.reduceAbs, h5, h6, h7, h23, h24, h8, h28, h29, h9, hb1, hb2, hb3, c1, c2, c3, c3', w1, e1, ex, tb_length, tb_set]
          refine ⟨m - 1, by omega, i + 1, by omega, rfl, ?_, ?_⟩
          · congr 2
            apply tb_congr
            intro j hj
            by_cases g : j = i + k
            · rw [if_pos g, mv_top hy', g]
            · rw [if_neg g, hf j]
              by_cases g2 : j < i + k
              · rw [if_pos g2, mv_row hy']
              · rw [if_neg g2, lm_of_lt' (mv_rowlt hy') (by omega), lm_of_lt' (mv_rowlt hy') (by omega)]
          · intro q hq
            simp only [if_neg (show ¬ N + 2 = q by omega)]
            exact hh q hq
      · (first | (simp only [↓R0, R1, simprocAttr, -Int.reduceAbs, h5]; done) | (simp only [↓R0, R1, simprocAttr, -Int.reduceAbs, h5]; rfl) | rfl)
      · (first | (simp only [↓R0, R1, simprocAttr, -Int.reduceAbs, h6]; done) | (simp only [↓R0, R1, simprocAttr, -Int.reduceAbs, h6]; rfl) | rfl)
      · (first | (simp only [↓R0, R1, simprocAttr, -Int.reduceAbs, h7]; done) | (simp only [↓R0, R1, simprocAttr, -Int.reduceAbs, h7]; rfl) | rfl)
      · (first | (simp only [↓R0, R1, simprocAttr, -Int.reduceAbs, h23]; done) | (simp only [↓R0, R1, simprocAttr, -Int.reduceAbs, h23]; rfl) | rfl)
      · (first | (simp only [↓R0, R1, simprocAttr, -Int.reduceAbs, h24]; done) | (simp only [↓R0, R1, simprocAttr, -Int.reduceAbs, h24]; rfl) | rfl)
      · (first | (simp only [↓R0, R1, simprocAttr, -Int.reduceAbs, h24]; done) | (simp only [↓R0, R1, simprocAttr, -Int.reduceAbs, h24]; rfl) | rfl)
      · (first | (simp only [↓R0, R1, simprocAttr, -Int.reduceAbs]; done) | (simp only [↓R0, R1, simprocAttr, -Int.reduceAbs]; rfl) | rfl)
      · (first | (simp only [↓R0, R1, simprocAttr, -Int.reduceAbs]; done) | (simp only [↓R0, R1, simprocAttr, -Int.reduceAbs]; rfl) | rfl)
      · (first | (simp only [↓R0, R1, simprocAttr, -Int.reduceAbs, mvC_zero]; done) | (simp only [↓R0, R1, simprocAttr, -Int.reduceAbs, mvC_zero]; rfl) | rfl)
      · rw [mvC_zero]; omega
      · rw [mvV_zero]; simp
    · have ei : i = kx := by omega
      subst ei
      have hX : x % 4294967296 ^ i = x := Nat.mod_eq_of_lt hx
      have hxy : x * y < 4294967296 ^ (i + ky) := by rw [Nat.pow_add]; exact Nat.mul_lt_mul'' hx hy
      have hud : ud (tb (i + ky) (lm (x * y))) = x * y := by rw [ud_tb, Nat.mod_eq_of_lt hxy]
      have c5 : i + ky ≤ 34359738368 := by omega
      rw [hX] at hb3
      simp only [↓R0, R1, simprocAttr, -Int.reduceAbs, h5, h6, h7, h23, h24, hb1, hb2, hb3, c1, tb_length, rdS, spMag, shows, tb_all, uok_lm, c5, hud, Fin, isEnd, resL, res1, iE, rE]
      first | exact ⟨_, rfl, rfl, hh⟩ | exact ⟨_, rfl, rfl, fun k hk => by simp only [ne_nb hk, if_false]; exact hh k hk⟩
  · (first | (simp only [↓R0, R1, simprocAttr, -Int.reduceAbs]; done) | (simp only [↓R0, R1, simprocAttr, -Int.reduceAbs]; rfl) | rfl)
  · (first | (simp only [↓R0, R1, simprocAttr, -Int.reduceAbs]; done) | (simp only [↓R0, R1, simprocAttr, -Int.reduceAbs]; rfl) | rfl)
  · (first | (simp only [↓R0, R1, simprocAttr, -Int.reduceAbs]; done) | (simp only [↓R0, R1, simprocAttr, -Int.reduceAbs]; rfl) | rfl)
  · (first | (simp only [↓R0, R1, simprocAttr, -Int.reduceAbs]; done) | (simp only [↓R0, R1, simprocAttr, -Int.reduceAbs]; rfl) | rfl)
  · (first | (simp only [↓R0, R1, simprocAttr, -Int.reduceAbs]; done) | (simp only [↓R0, R1, simprocAttr, -Int.reduceAbs]; rfl) | rfl)
  · (first | (simp only [↓R0, R1, simprocAttr, -Int.reduceAbs]; done) | (simp only [↓R0, R1, simprocAttr, -Int.reduceAbs]; rfl) | rfl)
  · (first | (simp only [↓R0, R1, simprocAttr, -Int.reduceAbs]; done) | (simp only [↓R0, R1, simprocAttr, -Int.reduceAbs]; rfl) | rfl)
  · (first | (simp only [↓R0, R1, simprocAttr, -Int.reduceAbs, Nat.pow_zero, Nat.mod_one, Nat.zero_mul, lm_0]; done) | (simp only [↓R0, R1, simprocAttr, -Int.reduceAbs, Nat.pow_zero, Nat.mod_one, Nat.zero_mul, lm_0]; rfl) | rfl)
  · intro q hq
    simp only [↓R0, R1, simprocAttr, -Int.reduceAbs, hget_new hq]
end Go.Eng
end
section
set_option linter.unusedVariables false
set_option linter.unusedSimpArgs false
set_option linter.unusedSectionVars false
set_option maxRecDepth 4000
namespace Go.Eng
open Go Go.Proofs Go.IntWalk
def spShort : List Value → Heap → Option ((Nat → Value) × Blk)
  | [v, .int .u32 d], h => match shows h v with
    | some cs => if uok cs = true ∧ cs.length ≤ 34359738368 ∧ 0 < d ∧ d < 4294967296 then
        some (fun k => .tuple ⟨[.slice (some ⟨k, 0, none⟩) cs.length cs.length, .int .u32 (ud cs % d.toNat : Nat)]⟩, ⟨118, 1, false, tb cs.length (lm (ud cs / d.toNat))⟩) else none
    | none => none
  | _, _ => none
def c112 : ICode :=
  (.seq (.reg [qq 4 (.mv (.c (.slice none 0 0))), qq 5 (.mv (.c (.int .u32 0)))]) (.seq (.reg [qq 10 (.mv (.t 0)), qq 11 (.lensl (.t 10)), qq 12 (.mkslice 118 1 4 [(.int .u32 0)] (.t 11) (.t 11)), qq 6 (.mv (.t 12))]) (.seq (.reg [qq 7 (.mv (.c (.int .u32 0)))]) (.seq (.seq (.reg [qq 13 (.mv (.t 0)), qq 14 (.lensl (.t 13)), qq 15 (.mv (ci 0))]) (.block 0 (.loop (.seq (.reg [qq 16 (.bin .lss (.t 15) (.t 14))]) (.seq (.cond (.t 16) .skip (.exit 0)) (.seq (.block 1 (.seq (.reg [qq 17 (.mv (.t 15)), qq 8 (.mv (.t 17))]) (.seq (.reg [qq 18 (.mv (.t 0)), qq 19 (.lensl (.t 18)), qq 20 (.bin .sub (.t 19) (ci 1)), qq 21 (.mv (.t 8)), qq 22 (.bin .sub (.t 20) (.t 21)), qq 9 (.mv (.t 22))]) (.reg [qq 24 (.mv (.t 6)), qq 25 (.mv (.t 9)), qq 26 (.mv (.t 7)), qq 27 (.mv (.t 0)), qq 28 (.mv (.t 9)), qq 29 (.ixsl 1 (.t 27) (.t 28)), qq 30 (.load false 1 (.t 29)), qq 31 (.mv (.t 1)), qq 32 (.call 134 [(.t 26), (.t 30), (.t 31)]), qq 23 (.mv (.t 32)), qq 33 (.ext (.t 23) 0), qq 34 (.ext (.t 23) 1), qq 35 (.ixsl 1 (.t 24) (.t 25)), qn (.store 1 (.t 35) (.t 33)), qq 7 (.mv (.t 34))])))) (.reg [qq 36 (.bin .add (.t 15) (ci 1)), qq 15 (.mv (.t 36))]))))))) (.seq (.reg [qq 37 (.mv (.t 6)), qq 38 (.mv (.t 7)), qq 4 (.mv (.t 37)), qq 5 (.mv (.t 38))]) .ret)))))
theorem tr112 : trFun Tryz.prog 112 = some ⟨39, [.t 4, .t 5], c112⟩ := by kernel_rfl
set_option maxHeartbeats 1000000 in
theorem ok_nshort : SpecOK Tryz.prog 112 (nwS spShort) := by
  refine nw_run (env_cons ok_div32 (env_nil _)) mixed tr112 ?_ ?_
  · intro args h h' v hle e
    unfold spShort at e ⊢
    split at e
    · split at e
      · rename_i cs hcs
        simp only [shows_mono hle hcs]; exact e
      · cases e
    · cases e
  intro args vf b h N hG hN
  unfold spShort at hG
  split at hG
  case h_2 => cases hG
  rename_i sv d _
  split at hG
  case h_2 => cases hG
  rename_i cs hcs
  split at hG
  case isFalse => cases hG
  rename_i hl
  obtain ⟨hu, hl, hd, hd2⟩ := hl
  cases hG
  refine ⟨rfl, tb_base _ _, vr1_pair (vr1_sl _ _ _) (vr1_flat rfl), by simp, ?_⟩
  obtain ⟨kb, off, K, cap, blk, rfl, hb, hle, hcell, hV, hlen⟩ := shows_tb hcs hu
  have hkb := hN _ _ hb
  have hne : ∀ a, ¬ (N + a = kb) := fun a => by omega
  rw [hlen] at hl ⊢
  generalize ud cs = V at *
  obtain ⟨d, rfl⟩ := Int.eq_ofNat_of_zero_le (Int.le_of_lt hd)
  simp only [Int.toNat_natCast]
  have hd0 : 0 < d := by omega
  have g2 : 4 * (K : Int) ≤ 281474976710656 := by omega
  have g3 : (K : Int) ≤ 9223372036854775807 := by omega
  simp only [c112, G0, Nat.reduceAdd]
  simp only [↓R0, R1, simprocAttr, -Int.reduceAbs, g2, g3, tb_rep]
  clear g2 g3
  refine lp_parts (fun m tm hp nx => ∃ (i : Nat) (f : Nat → Nat), m + i = K ∧ tmget tm 0 = .slice (some ⟨kb, off, none⟩) K cap ∧ tmget tm 1 = .int .u32 (d : Nat) ∧ tmget tm 6 = .slice (some ⟨N + 0, 0, none⟩) K K ∧
      tmget tm 7 = .int .u32 (V / 4294967296 ^ m % d : Nat) ∧ tmget tm 14 = .int .i64 K ∧ tmget tm 15 = .int .i64 i ∧
      hget hp (N + 0) = some ⟨118, 1, false, tb K f⟩ ∧ (∀ j, m ≤ j → j < K → f j = lm (V / d) j) ∧ (∀ q, q < N → hget hp q = hget h q) ∧ nx = N + 1) ?_ K
    ⟨0, fun _ => 0, by omega, ?_, ?_, ?_, ?_, ?_, ?_, ?_, fun j hj hj2 => by omega, ?_, rfl⟩
  · intro m tm hp nx ⟨i, f, hm, h0, h1, h6, h7, h14, h15, hb1, hf, hh, hnx⟩
    subst hnx
    by_cases c1 : i < K
    · obtain ⟨m, rfl⟩ : ∃ m', m = m' + 1 := ⟨m - 1, by omega⟩
      have hbb : hget hp kb = some blk := by rw [hh kb hkb]; exact hb
      have c2 : m < K := by omega
      have c2' : m + 1 ≤ K := by omega
      obtain ⟨q1, q2⟩ := sh_quo (n := V) (i := m) hd0
      have q3 := sh_rest V d m
      have hr := Nat.mod_lt (V / 4294967296 ^ (m + 1)) hd0
      have bl := lm_lt V m
      have e1 : IntKind.i64.wrap ((K : Int) - 1) = ((K - 1 : Nat) : Int) := by rw [i64_in _ (by omega)]; omega
      have e2 : IntKind.i64.wrap (((K - 1 : Nat) : Int) - (i : Int)) = (m : Int) := by rw [i64_in _ (by omega)]; omega
      have e3 : IntKind.i64.wrap ((i : Int) + 1) = ((i + 1 : Nat) : Int) := by rw [i64_in _ (by omega)]; omega
      have v1 : ((V / 4294967296 ^ (m + 1) % d : Nat) : Int) < (d : Int) := by omega
      have v2 : ((lm V m : Nat) : Int) < 4294967296 := by omega
      have v3 : (((V / 4294967296 ^ (m + 1) % d : Nat) : Int) * 4294967296 + (lm V m : Int)) / (d : Int) = ((lm (V / d) m : Nat) : Int) := by rw [q1]; rfl
      have v4 : (((V / 4294967296 ^ (m + 1) % d : Nat) : Int) * 4294967296 + (lm V m : Int)) % (d : Int) = ((V / 4294967296 ^ m % d : Nat) : Int) := by rw [q3]; rfl
      have v5 := hcell m c2
      simp only [↓R0, R1, simprocAttr, -Int.reduceAbs, h0, h1, h6, h7, h14, h15, hb1, hbb, c1, c2, c2', e1, e2, e3, spDiv32, v1, v2, v3, v4, v5, hd2, hr, tb_length, tb_set]
      refine ⟨m, by omega, i + 1, _, by omega, rfl, rfl, rfl, fun j hj hj2 => ?_, ?_⟩
      · by_cases g : j = m
        · rw [if_pos g, g]
        · rw [if_neg g]; exact hf j (by omega) hj2
      · intro q hq
        simp only [if_neg (show ¬ N + 0 = q by omega)]
        exact hh q hq
    · have ei : i = K := by omega
      subst ei
      have em : m = 0 := by omega
      subst em
      rw [Nat.pow_zero, Nat.div_one] at h7
      have htb : tb i f = tb i (lm (V / d)) := tb_congr fun j hj => hf j (by omega) hj
      simp only [↓R0, R1, simprocAttr, -Int.reduceAbs, h0, h1, h6, h7, h14, h15, hb1, c1]
      refine ⟨trivial, _, N + 0, false, rfl, ?_, by omega, by rw [hb1, htb], hh⟩
      (first | (simp only [↓R0, R1, simprocAttr, -Int.reduceAbs, one]; done) | (simp only [↓R0, R1, simprocAttr, -Int.reduceAbs, one]; rfl) | rfl)
  · (first | (simp only [↓R0, R1, simprocAttr, -Int.reduceAbs]; done) | (simp only [↓R0, R1, simprocAttr, -Int.reduceAbs]; rfl) | rfl)
  · (first | (simp only [↓R0, R1, simprocAttr, -Int.reduceAbs]; done) | (simp only [↓R0, R1, simprocAttr, -Int.reduceAbs]; rfl) | rfl)
  · (first | (simp only [↓R0, R1, simprocAttr, -Int.reduceAbs]; done) | (simp only [↓R0, R1, simprocAttr, -Int.reduceAbs]; rfl) | rfl)
  · (first | (simp only [↓R0, R1, simprocAttr, -Int.reduceAbs, Nat.div_eq_of_lt hV, Nat.zero_mod]; done) | (simp only [↓R0, R1, simprocAttr, -Int.reduceAbs, Nat.div_eq_of_lt hV, Nat.zero_mod]; rfl) | rfl)
  · (first | (simp only [↓R0, R1, simprocAttr, -Int.reduceAbs]; done) | (simp only [↓R0, R1, simprocAttr, -Int.reduceAbs]; rfl) | rfl)
  · (first | (simp only [↓R0, R1, simprocAttr, -Int.reduceAbs]; done) | (simp only [↓R0, R1, simprocAttr, -Int.reduceAbs]; rfl) | rfl)
  · (first | (simp only [↓R0, R1, simprocAttr, -Int.reduceAbs]; done) | (simp only [↓R0, R1, simprocAttr, -Int.reduceAbs]; rfl) | rfl)
  · intro q hq
    simp only [↓R0, R1, simprocAttr, -Int.reduceAbs, hget_new hq]
def spShift : List Value → Heap → Option ((Nat → Value) × Blk)
  | [v, .int .i64 s], h => match shows h v with
    | some cs => if uok cs = true ∧ cs.length ≤ 34359738368 ∧ 0 ≤ s ∧ s < 32 then
        some (fun k => .slice (some ⟨k, 0, none⟩) (cs.length + 1) (cs.length + 1), ⟨118, 1, false, tb (cs.length + 1) (lm (ud cs * 2 ^ s.toNat))⟩) else none
    | none => none
  | _, _ => none
def c136 : ICode :=
  (.seq (.reg [qq 4 (.mv (.c (.slice none 0 0)))]) (.seq (.reg [qq 9 (.mv (.t 0)), qq 10 (.lensl (.t 9)), qq 11 (.bin .add (.t 10) (ci 1)), qq 12 (.mkslice 118 1 4 [(.int .u32 0)] (.t 11) (.t 11)), qq 5 (.mv (.t 12))]) (.seq (.seq (.reg [qq 13 (.mv (.t 0)), qq 14 (.lensl (.t 13)), qq 15 (.mv (ci 0))]) (.block 0 (.loop (.seq (.reg [qq 16 (.bin .lss (.t 15) (.t 14))]) (.seq (.cond (.t 16) .skip (.exit 0)) (.seq (.block 1 (.seq (.reg [qq 17 (.mv (.t 15)), qq 18 (.ixsl 1 (.t 13) (.t 15)), qq 19 (.load false 1 (.t 18)), qq 6 (.mv (.t 17)), qq 7 (.mv (.t 19))]) (.seq (.reg [qq 20 (.mv (.t 7)), qq 21 (.conv .u64 (.t 20)), qq 22 (.mv (.t 1)), qq 23 (.bin .shl (.t 21) (.t 22)), qq 8 (.mv (.t 23))]) (.seq (.reg [qq 24 (.mv (.t 5)), qq 25 (.mv (.t 6)), qq 26 (.ixsl 1 (.t 24) (.t 25)), qq 27 (.load false 1 (.t 26)), qq 28 (.mv (.t 8)), qq 29 (.conv .u32 (.t 28)), qq 30 (.bin .or (.t 27) (.t 29)), qq 31 (.ixsl 1 (.t 24) (.t 25)), qn (.store 1 (.t 31) (.t 30))]) (.reg [qq 32 (.mv (.t 5)), qq 33 (.mv (.t 6)), qq 34 (.bin .add (.t 33) (ci 1)), qq 35 (.mv (.t 8)), qq 36 (.bin .shr (.t 35) (.c (.int .u64 32))), qq 37 (.conv .u32 (.t 36)), qq 38 (.ixsl 1 (.t 32) (.t 34)), qn (.store 1 (.t 38) (.t 37))]))))) (.reg [qq 39 (.bin .add (.t 15) (ci 1)), qq 15 (.mv (.t 39))]))))))) (.seq (.reg [qq 40 (.mv (.t 5)), qq 4 (.mv (.t 40))]) .ret))))
theorem tr136 : trFun Tryz.prog 136 = some ⟨41, [.t 4], c136⟩ := by kernel_rfl
set_option maxHeartbeats 1000000 in
theorem ok_nshift : SpecOK Tryz.prog 136 (nwS spShift) := by
  refine nw_run (env_nil _) mixed tr136 ?_ ?_
  · intro args h h' v hle e
    unfold spShift at e ⊢
    split at e
    · split at e
      · rename_i cs hcs
        simp only [shows_mono hle hcs]; exact e
      · cases e
    · cases e
  intro args vf b h N hG hN
  unfold spShift at hG
  split at hG
  case h_2 => cases hG
  rename_i sv s _
  split at hG
  case h_2 => cases hG
  rename_i cs hcs
  split at hG
  case isFalse => cases hG
  rename_i hl
  obtain ⟨hu, hl, hs0, hs⟩ := hl
  cases hG
  refine ⟨rfl, tb_base _ _, vr1_sl _ _ _, by simp, ?_⟩
  obtain ⟨kb, off, K, cap, blk, rfl, hb, hle, hcell, hV, hlen⟩ := shows_tb hcs hu
  have hkb := hN _ _ hb
  have hne : ∀ a, ¬ (N + a = kb) := fun a => by omega
  rw [hlen] at hl ⊢
  generalize ud cs = V at *
  obtain ⟨s, rfl⟩ := Int.eq_ofNat_of_zero_le hs0
  simp only [Int.toNat_natCast]
  have hs' : s < 32 := by omega
  have g1 : IntKind.i64.wrap ((K : Int) + 1) = ((K + 1 : Nat) : Int) := by rw [i64_in _ (by omega)]; omega
  have g2 : 4 * ((K + 1 : Nat) : Int) ≤ 281474976710656 := by omega
  have g3 : ((K + 1 : Nat) : Int) ≤ 9223372036854775807 := by omega
  simp only [c136, G0, Nat.reduceAdd]
  simp only [↓R0, R1, simprocAttr, -Int.reduceAbs, g1, g2, g3, tb_rep]
  clear g1 g2 g3
  refine lp_parts (fun m tm hp nx => ∃ (i : Nat), m + i = K ∧ tmget tm 13 = .slice (some ⟨kb, off, none⟩) K cap ∧ tmget tm 1 = .int .i64 (s : Nat) ∧ tmget tm 5 = .slice (some ⟨N + 0, 0, none⟩) (K + 1) (K + 1) ∧
      tmget tm 14 = .int .i64 K ∧ tmget tm 15 = .int .i64 i ∧
      hget hp (N + 0) = some ⟨118, 1, false, tb (K + 1) (lm (V % 4294967296 ^ i * 2 ^ s))⟩ ∧ (∀ q, q < N → hget hp q = hget h q) ∧ nx = N + 1) ?_ K
    ⟨0, by omega, ?_, ?_, ?_, ?_, ?_, ?_, ?_, rfl⟩
  · intro m tm hp nx ⟨i, hm, h13, h1, h5, h14, h15, hb1, hh, hnx⟩
    subst hnx
    by_cases c1 : i < K
    · have hbb : hget hp kb = some blk := by rw [hh kb hkb]; exact hb
      have v5 := hcell i c1
      obtain ⟨q1, q2, q3, q4⟩ := shl_limb (n := V) (i := i) hs'
      have c2 : i < K + 1 := by omega
      have c2' : i ≤ K := by omega
      have k1 := tb_get' (lm (V % 4294967296 ^ i * 2 ^ s)) c2
      have b1 := lm_lt V i
      have hT : 2 ^ s ≤ 2 ^ 31 := Nat.pow_le_pow_right (by omega) (by omega)
      have b2 : lm V i * 2 ^ s ≤ 4294967295 * 2 ^ 31 := Nat.mul_le_mul (by omega) hT
      have w1 := u64_nat (n := lm V i) (by omega)
      have w2 := shl64 (c := lm V i) (s := s) (by omega) (by omega)
      have w3 := u32_mod (lm V i * 2 ^ s)
      have w4 := or_u32 (x := lm (V % 4294967296 ^ i * 2 ^ s) i) (c := (lm V i * 2 ^ s % 4294967296) / 2 ^ s) (s := s) q2 (by rw [← q3]; exact q4)
      rw [← q3] at w4
      have w5 : ((lm V i * 2 ^ s : Nat) : Int).fdiv (2 ^ min 32 IntKind.u64.bits) = ((lm V i * 2 ^ s / 4294967296 : Nat) : Int) := by
        have : (2 : Int) ^ min 32 IntKind.u64.bits = 4294967296 := rfl
        rw [this, Int.fdiv_eq_ediv_of_nonneg _ (by omega)]; omega
      have w6 := u32_nat (n := lm V i * 2 ^ s / 4294967296) (by omega)
      have w7 : ¬ ((s : Int) < 0) := by omega
      have e3 : IntKind.i64.wrap ((i : Int) + 1) = ((i + 1 : Nat) : Int) := by rw [i64_in _ (by omega)]; omega
      have c4 : i + 1 < K + 1 := by omega
      have c5 : i + 1 + 1 ≤ K + 1 := by omega
      have c6 : i + 1 ≤ K := c1
      simp only [↓R0, R1, simprocAttr, -Int.reduceAbs, h13, h1, h5, h14, h15, hb1, hbb, c1, c2, c2', c4, c5, c6, k1, e3, v5, w1, w2, w3, w4, w5, w6, w7, tb_length, tb_set]
      refine ⟨m - 1, by omega, i + 1, by omega, rfl, ?_, ?_⟩
      · congr 2
        apply tb_congr
        intro j hj
        rw [q1]
      · intro q hq
        simp only [if_neg (show ¬ N + 0 = q by omega)]
        exact hh q hq
    · have ei : i = K := by omega
      subst ei
      rw [Nat.mod_eq_of_lt hV] at hb1
      simp only [↓R0, R1, simprocAttr, -Int.reduceAbs, h13, h1, h5, h14, h15, c1]
      refine ⟨trivial, _, N + 0, false, rfl, ?_, by omega, hb1, hh⟩
      (first | (simp only [↓R0, R1, simprocAttr, -Int.reduceAbs, one]; done) | (simp only [↓R0, R1, simprocAttr, -Int.reduceAbs, one]; rfl) | rfl)
  · (first | (simp only [↓R0, R1, simprocAttr, -Int.reduceAbs]; done) | (simp only [↓R0, R1, simprocAttr, -Int.reduceAbs]; rfl) | rfl)
  · (first | (simp only [↓R0, R1, simprocAttr, -Int.reduceAbs]; done) | (simp only [↓R0, R1, simprocAttr, -Int.reduceAbs]; rfl) | rfl)
  · (first | (simp only [↓R0, R1, simprocAttr, -Int.reduceAbs]; done) | (simp only [↓R0, R1, simprocAttr, -Int.reduceAbs]; rfl) | rfl)
  · (first | (simp only [↓R0, R1, simprocAttr, -Int.reduceAbs]; done) | (simp only [↓R0, R1, simprocAttr, -Int.reduceAbs]; rfl) | rfl)
  · (first | (simp only [↓R0, R1, simprocAttr, -Int.reduceAbs]; done) | (simp only [↓R0, R1, simprocAttr, -Int.reduceAbs]; rfl) | rfl)
  · (first | (simp only [↓R0, R1, simprocAttr, -Int.reduceAbs, Nat.pow_zero, Nat.mod_one, Nat.zero_mul, lm_0]; done) | (simp only [↓R0, R1, simprocAttr, -Int.reduceAbs, Nat.pow_zero, Nat.mod_one, Nat.zero_mul, lm_0]; rfl) | rfl)
  · intro q hq
    simp only [↓R0, R1, simprocAttr, -Int.reduceAbs, hget_new hq]
def spUnshift : List Value → Heap → Option ((Nat → Value) × Blk)
  | [v, .int .i64 s], h => match shows h v with
    | some cs => if uok cs = true ∧ cs.length ≤ 34359738368 ∧ 0 ≤ s ∧ s < 32 then
        some (fun k => .slice (some ⟨k, 0, none⟩) cs.length cs.length, ⟨118, 1, false, tb cs.length (lm (ud cs / 2 ^ s.toNat))⟩) else none
    | none => none
  | _, _ => none
def c138 : ICode :=
  (.seq (.reg [qq 4 (.mv (.c (.slice none 0 0)))]) (.seq (.reg [qq 8 (.mv (.t 0)), qq 9 (.lensl (.t 8)), qq 10 (.mkslice 118 1 4 [(.int .u32 0)] (.t 9) (.t 9)), qq 5 (.mv (.t 10))]) (.seq (.seq (.reg [qq 11 (.mv (.t 0)), qq 12 (.lensl (.t 11)), qq 13 (.mv (ci 0))]) (.block 0 (.loop (.seq (.reg [qq 14 (.bin .lss (.t 13) (.t 12))]) (.seq (.cond (.t 14) .skip (.exit 0)) (.seq (.block 1 (.seq (.reg [qq 15 (.mv (.t 13)), qq 6 (.mv (.t 15))]) (.seq (.reg [qq 16 (.mv (.t 0)), qq 17 (.mv (.t 6)), qq 18 (.ixsl 1 (.t 16) (.t 17)), qq 19 (.load false 1 (.t 18)), qq 20 (.conv .u64 (.t 19)), qq 7 (.mv (.t 20))]) (.seq (.seq (.reg [qq 21 (.mv (.t 6)), qq 22 (.bin .add (.t 21) (ci 1)), qq 23 (.mv (.t 0)), qq 24 (.lensl (.t 23)), qq 25 (.bin .lss (.t 22) (.t 24))]) (.cond (.t 25) (.reg [qq 26 (.mv (.t 7)), qq 27 (.mv (.t 0)), qq 28 (.mv (.t 6)), qq 29 (.bin .add (.t 28) (ci 1)), qq 30 (.ixsl 1 (.t 27) (.t 29)), qq 31 (.load false 1 (.t 30)), qq 32 (.conv .u64 (.t 31)), qq 33 (.bin .shl (.t 32) (.c (.int .u64 32))), qq 34 (.bin .or (.t 26) (.t 33)), qq 7 (.mv (.t 34))]) .skip)) (.reg [qq 35 (.mv (.t 5)), qq 36 (.mv (.t 6)), qq 37 (.mv (.t 7)), qq 38 (.mv (.t 1)), qq 39 (.bin .shr (.t 37) (.t 38)), qq 40 (.conv .u32 (.t 39)), qq 41 (.ixsl 1 (.t 35) (.t 36)), qn (.store 1 (.t 41) (.t 40))]))))) (.reg [qq 42 (.bin .add (.t 13) (ci 1)), qq 13 (.mv (.t 42))]))))))) (.seq (.reg [qq 43 (.mv (.t 5)), qq 4 (.mv (.t 43))]) .ret))))
theorem tr138 : trFun Tryz.prog 138 = some ⟨44, [.t 4], c138⟩ := by kernel_rfl
set_option maxHeartbeats 1000000 in
theorem ok_nunshift : SpecOK Tryz.prog 138 (nwS spUnshift) := by
  refine nw_run (env_nil _) mixed tr138 ?_ ?_
  · intro args h h' v hle e
    unfold spUnshift at e ⊢
    split at e
    · split at e
      · rename_i cs hcs
        simp only [shows_mono hle hcs]; exact e
      · cases e
    · cases e
  intro args vf b h N hG hN
  unfold spUnshift at hG
  split at hG
  case h_2 => cases hG
  rename_i sv s _
  split at hG
  case h_2 => cases hG
  rename_i cs hcs
  split at hG
  case isFalse => cases hG
  rename_i hl
  obtain ⟨hu, hl, hs0, hs⟩ := hl
  cases hG
  refine ⟨rfl, tb_base _ _, vr1_sl _ _ _, by simp, ?_⟩
  obtain ⟨kb, off, K, cap, blk, rfl, hb, hle, hcell, hV, hlen⟩ := shows_tb hcs hu
  have hkb := hN _ _ hb
  have hne : ∀ a, ¬ (N + a = kb) := fun a => by omega
  rw [hlen] at hl ⊢
  generalize ud cs = V at *
  obtain ⟨s, rfl⟩ := Int.eq_ofNat_of_zero_le hs0
  simp only [Int.toNat_natCast]
  have hs' : s < 32 := by omega
  have g2 : 4 * (K : Int) ≤ 281474976710656 := by omega
  have g3 : (K : Int) ≤ 9223372036854775807 := by omega
  simp only [c138, G0, Nat.reduceAdd]
  simp only [↓R0, R1, simprocAttr, -Int.reduceAbs, g2, g3, tb_rep]
  clear g2 g3
  refine lp_parts (fun m tm hp nx => ∃ (i : Nat) (f : Nat → Nat), m + i = K ∧ tmget tm 0 = .slice (some ⟨kb, off, none⟩) K cap ∧ tmget tm 1 = .int .i64 (s : Nat) ∧ tmget tm 5 = .slice (some ⟨N + 0, 0, none⟩) K K ∧
      tmget tm 12 = .int .i64 K ∧ tmget tm 13 = .int .i64 i ∧
      hget hp (N + 0) = some ⟨118, 1, false, tb K f⟩ ∧ (∀ j, j < i → f j = lm (V / 2 ^ s) j) ∧ (∀ q, q < N → hget hp q = hget h q) ∧ nx = N + 1) ?_ K
    ⟨0, fun _ => 0, by omega, ?_, ?_, ?_, ?_, ?_, ?_, fun j hj => by omega, ?_, rfl⟩
  · intro m tm hp nx ⟨i, f, hm, h0, h1, h5, h12, h13, hb1, hf, hh, hnx⟩
    subst hnx
    by_cases c1 : i < K
    · have hbb : hget hp kb = some blk := by rw [hh kb hkb]; exact hb
      have v5 := hcell i c1
      have q1 := shr_limb (n := V) (i := i) hs'
      have c2' : i + 1 ≤ K := by omega
      have b1 := lm_lt V i
      have b2 := lm_lt V (i + 1)
      have w1 := u64_nat (n := lm V i) (by omega)
      have w2 := u64_nat (n := lm V (i + 1)) (by omega)
      have w3 : IntKind.u64.wrap ((lm V (i + 1) : Int) * 2 ^ min 32 IntKind.u64.bits) = ((lm V (i + 1) * 2 ^ 32 : Nat) : Int) := shl64 (by omega) (by omega)
      have w4 := or_u64 (x := lm V i) (c := lm V (i + 1)) (s := 32) (by omega) (by omega)
      have w5 : ∀ z : Nat, (z : Int).fdiv (2 ^ min s IntKind.u64.bits) = ((z / 2 ^ s : Nat) : Int) := by
        intro z
        have : min s IntKind.u64.bits = s := Nat.min_eq_left (by have : IntKind.u64.bits = 64 := rfl; omega)
        rw [this, Int.fdiv_eq_ediv_of_nonneg _ (Int.pow_nonneg (by omega)), Int.natCast_ediv, Int.natCast_pow]; rfl
      have w6 : ∀ z : Nat, IntKind.u32.wrap (z : Int) = ((z % 4294967296 : Nat) : Int) := u32_mod
      have w7 : ¬ ((s : Int) < 0) := by omega
      have e3 : IntKind.i64.wrap ((i : Int) + 1) = ((i + 1 : Nat) : Int) := by rw [i64_in _ (by omega)]; omega
      by_cases c3 : i + 1 < K
      · have v6 := hcell (i + 1) c3
        have ea : off + (i + 1) = off + (i + 1) := rfl
        simp only [↓R0, R1, simprocAttr, -Int.reduceAbs, h0, h1, h5, h12, h13, hb1, hbb, c1, c2', c3, e3, v5, v6, w1, w2, w3, w4, w5, w6, w7, tb_length, tb_set]
        refine ⟨m - 1, by omega, i + 1, _, by omega, rfl, rfl, fun j hj => ?_, ?_⟩
        · by_cases g : j = i
          · rw [if_pos g, g, q1]
          · rw [if_neg g]; exact hf j (by omega)
        · intro q hq
          simp only [if_neg (show ¬ N + 0 = q by omega)]
          exact hh q hq
      · have hz : lm V (i + 1) = 0 := lm_of_lt' hV (by omega)
        rw [hz, Nat.zero_mul, Nat.add_zero] at q1
        simp only [↓R0, R1, simprocAttr, -Int.reduceAbs, h0, h1, h5, h12, h13, hb1, hbb, c1, c2', c3, e3, v5, w1, w5, w6, w7, tb_length, tb_set]
        refine ⟨m - 1, by omega, i + 1, _, by omega, rfl, rfl, fun j hj => ?_, ?_⟩
        · by_cases g : j = i
          · rw [if_pos g, g, q1]
          · rw [if_neg g]; exact hf j (by omega)
        · intro q hq
          simp only [if_neg (show ¬ N + 0 = q by omega)]
          exact hh q hq
    · have ei : i = K := by omega
      subst ei
      have htb : tb i f = tb i (lm (V / 2 ^ s)) := tb_congr hf
      simp only [↓R0, R1, simprocAttr, -Int.reduceAbs, h0, h1, h5, h12, h13, c1]
      refine ⟨trivial, _, N + 0, false, rfl, ?_, by omega, by rw [hb1, htb], hh⟩
      (first | (simp only [↓R0, R1, simprocAttr, -Int.reduceAbs, one]; done) | (simp only [↓R0, R1, simprocAttr, -Int.reduceAbs, one]; rfl) | rfl)
  · (first | (simp only [↓R0, R1, simprocAttr, -Int.reduceAbs]; done) | (simp only [↓R0, R1, simprocAttr, -Int.reduceAbs]; rfl) | rfl)
  · (first | (simp only [↓R0, R1, simprocAttr, -Int.reduceAbs]; done) | (simp only [↓R0, R1, simprocAttr, -Int.reduceAbs]; rfl) | rfl)
  · (first | (simp only [↓R0, R1, simprocAttr, -Int.reduceAbs]; done) | (simp only [↓R0, R1, simprocAttr, -Int.reduceAbs]; rfl) | rfl)
  · (first | (simp only [↓R0, R1, simprocAttr, -Int.reduceAbs]; done) | (simp only [↓R0, R1, simprocAttr, -Int.reduceAbs]; rfl) | rfl)
  · (first | (simp only [↓R0, R1, simprocAttr, -Int.reduceAbs]; done) | (simp only [↓R0, R1, simprocAttr, -Int.reduceAbs]; rfl) | rfl)
  · (first | (simp only [↓R0, R1, simprocAttr, -Int.reduceAbs]; done) | (simp only [↓R0, R1, simprocAttr, -Int.reduceAbs]; rfl) | rfl)
  · intro q hq
    simp only [↓R0, R1, simprocAttr, -Int.reduceAbs, hget_new hq]
end Go.Eng
end
section
set_option linter.unusedVariables false
set_option linter.unusedSimpArgs false
set_option linter.unusedSectionVars false
namespace Go.Eng
def cyM (d q i : Nat) : Nat := q * (d % 4294967296 ^ i) / 4294967296 ^ i
theorem cyM_zero (d q : Nat) : cyM d q 0 = 0 := by simp [cyM, Nat.mod_one]
theorem cyM_div (d q i : Nat) : q * (d % 4294967296 ^ (i + 1)) / 4294967296 ^ i = lm d i * q + cyM d q i := by
  unfold cyM
  rw [mod_step, Nat.mul_add, Nat.mul_comm (4294967296 ^ i), ← Nat.mul_assoc, Nat.add_mul_div_right _ _ (pB i), Nat.mul_comm q (lm d i)]
  omega
theorem cyM_succ (d q i : Nat) : cyM d q (i + 1) = (lm d i * q + cyM d q i) / 4294967296 := by
  rw [← cyM_div]; unfold cyM; rw [Nat.pow_succ, ← Nat.div_div_eq_div_mul]
theorem cyM_limb (d q i : Nat) : lm (q * d) i = (lm d i * q + cyM d q i) % 4294967296 := by
  rw [← cyM_div]
  have e : q * d = q * (d % 4294967296 ^ (i + 1)) + q * (d / 4294967296 ^ (i + 1)) * 4294967296 ^ (i + 1) := by
    conv => lhs; rw [← Nat.mod_add_div d (4294967296 ^ (i + 1))]
    rw [Nat.mul_add, Nat.mul_assoc, Nat.mul_comm (4294967296 ^ (i + 1))]
  rw [e, lm_add_mul (Nat.lt_succ_self i)]; rfl
theorem cyM_lt {d q i : Nat} (hq : q < 4294967296) : cyM d q i < 4294967296 ∧ lm d i * q + cyM d q i < 18446744073709551616 := by
  have h1 : cyM d q i < 4294967296 := by
    unfold cyM
    rw [Nat.div_lt_iff_lt_mul (pB i)]
    have hm := Nat.mod_lt d (pB i)
    exact Nat.mul_lt_mul'' hq hm
  have h2 := lm_lt d i
  have h3 : lm d i * q ≤ 4294967295 * 4294967295 := Nat.mul_le_mul (by omega) (by omega)
  exact ⟨h1, by omega⟩
theorem cyM_top {d q m : Nat} (hd : d < 4294967296 ^ m) (hq : q < 4294967296) : cyM d q m = lm (q * d) m ∧ q * d < 4294967296 ^ (m + 1) := by
  have h : q * d < 4294967296 ^ (m + 1) := by rw [Nat.pow_succ, Nat.mul_comm]; exact Nat.mul_lt_mul'' hd hq
  exact ⟨by rw [lm_top h]; unfold cyM; rw [Nat.mod_eq_of_lt hd], h⟩
def tkT (u p m : Nat) : Nat := u + 4294967296 ^ (m + 1) - p
theorem tk_limb {u p m i : Nat} (hp : p < 4294967296 ^ (m + 1)) (hi : i ≤ m) : ((lm u i : Int) - lm p i - cyS u p i) % 4294967296 = (lm (tkT u p m) i : Int) := by
  refine (sub_limb ?_).symm
  have h := mod_add_cases p (tkT u p m) (pB (i + 1))
  have e : p + tkT u p m = u + 4294967296 ^ (m + 1) := by unfold tkT; omega
  rw [e] at h
  have e2 : 4294967296 ^ (m + 1) = 4294967296 ^ (i + 1) * 4294967296 ^ (m - i) := by rw [← Nat.pow_add]; congr 1; omega
  rw [e2, Nat.add_mul_mod_self_left] at h
  exact h
theorem tk_cy {u p m : Nat} (hu : u < 4294967296 ^ (m + 1)) (hp : p < 4294967296 ^ (m + 1)) : cyS u p (m + 1) = if u < p then 1 else 0 := by
  unfold cyS; rw [Nat.mod_eq_of_lt hu, Nat.mod_eq_of_lt hp]
theorem cyS_int (a b i : Nat) : (if (lm a i : Int) < lm b i + cyS a b i then (1 : Int) else 0) = (cyS a b (i + 1) : Int) := by
  rw [cyS_succ]
  by_cases g : lm a i < lm b i + cyS a b i
  · rw [if_pos g, if_pos (by omega)]; rfl
  · rw [if_neg g, if_neg (by omega)]; rfl
def tkX (u p d m : Nat) : Nat := if u < p then u + 4294967296 ^ (m + 1) - p + d else u - p
theorem tk_done {u p d m j : Nat} (h : ¬ u < p) (hj : j ≤ m) : lm (tkT u p m) j = lm (tkX u p d m) j := by
  unfold tkX tkT
  rw [if_neg h, show u + 4294967296 ^ (m + 1) - p = u - p + 1 * 4294967296 ^ (m + 1) by omega, lm_add_mul (by omega)]
theorem seg_limb {W off len i : Nat} (h : i < len) : lm (W / 4294967296 ^ off % 4294967296 ^ len) i = lm W (off + i) := by
  rw [lm_mod h, lm_shift]
def tkCells (W off m D q L : Nat) : List Value :=
  tb L fun j => if off ≤ j ∧ j < off + (m + 1) then lm (tkX (W / 4294967296 ^ off % 4294967296 ^ (m + 1)) (q * D) D m) (j - off) else lm W j
end Go.Eng
end
section
set_option linter.unusedVariables false
set_option linter.unusedSimpArgs false
set_option linter.unusedSectionVars false
set_option maxRecDepth 4000
namespace Go.Eng
open Go Go.Proofs Go.IntWalk
def spTake : List Value → Heap → Option (Value × Nat × Blk)
  | [.slice (some ⟨ku, off, none⟩) len cap, .slice (some ⟨kd, od, none⟩) dlen dcap, .int .u32 q], h => match hget h ku, shows h (.slice (some ⟨kd, od, none⟩) dlen dcap) with
    | some blk, some ds => if uok blk.cells = true ∧ uok ds = true ∧ len = dlen + 1 ∧ off + len ≤ blk.cells.length ∧ 0 ≤ q ∧ q < 4294967296 ∧ dlen ≤ 34359738368 ∧ ku ≠ kd then
        some (.bool (Nat.blt (ud blk.cells / 4294967296 ^ off % 4294967296 ^ (dlen + 1)) (q.toNat * ud ds)), ku, ⟨blk.elem, blk.sz, blk.x, tkCells (ud blk.cells) off dlen (ud ds) q.toNat blk.cells.length⟩) else none
    | _, _ => none
  | _, _ => none
def c137 : ICode :=
  (.seq (.reg [qq 6 (.mv (.c (.bool false)))]) (.seq (.reg [qq 7 (.mv (.c (.int .u64 0))), qq 8 (.mv (.c (.int .u32 0)))]) (.seq (.seq (.reg [qq 15 (.mv (.t 1)), qq 16 (.lensl (.t 15)), qq 17 (.mv (ci 0))]) (.block 0 (.loop (.seq (.reg [qq 18 (.bin .lss (.t 17) (.t 16))]) (.seq (.cond (.t 18) .skip (.exit 0)) (.seq (.block 1 (.seq (.reg [qq 19 (.mv (.t 17)), qq 20 (.ixsl 1 (.t 15) (.t 17)), qq 21 (.load false 1 (.t 20)), qq 9 (.mv (.t 19)), qq 10 (.mv (.t 21))]) (.seq (.reg [qq 22 (.mv (.t 10)), qq 23 (.conv .u64 (.t 22)), qq 24 (.mv (.t 2)), qq 25 (.conv .u64 (.t 24)), qq 26 (.bin .mul (.t 23) (.t 25)), qq 27 (.mv (.t 7)), qq 28 (.bin .add (.t 26) (.t 27)), qq 11 (.mv (.t 28))]) (.seq (.reg [qq 29 (.mv (.t 11)), qq 30 (.bin .shr (.t 29) (.c (.int .u64 32))), qq 7 (.mv (.t 30))]) (.reg [qq 32 (.mv (.t 0)), qq 33 (.mv (.t 9)), qq 34 (.mv (.t 0)), qq 35 (.mv (.t 9)), qq 36 (.ixsl 1 (.t 34) (.t 35)), qq 37 (.load false 1 (.t 36)), qq 38 (.mv (.t 11)), qq 39 (.conv .u32 (.t 38)), qq 40 (.mv (.t 8)), qq 41 (.call 123 [(.t 37), (.t 39), (.t 40)]), qq 31 (.mv (.t 41)), qq 42 (.ext (.t 31) 0), qq 43 (.ext (.t 31) 1), qq 44 (.ixsl 1 (.t 32) (.t 33)), qn (.store 1 (.t 44) (.t 42)), qq 8 (.mv (.t 43))]))))) (.reg [qq 45 (.bin .add (.t 17) (ci 1)), qq 17 (.mv (.t 45))]))))))) (.seq (.reg [qq 47 (.mv (.t 0)), qq 48 (.mv (.t 1)), qq 49 (.lensl (.t 48)), qq 50 (.mv (.t 0)), qq 51 (.mv (.t 1)), qq 52 (.lensl (.t 51)), qq 53 (.ixsl 1 (.t 50) (.t 52)), qq 54 (.load false 1 (.t 53)), qq 55 (.mv (.t 7)), qq 56 (.conv .u32 (.t 55)), qq 57 (.mv (.t 8)), qq 58 (.call 123 [(.t 54), (.t 56), (.t 57)]), qq 46 (.mv (.t 58)), qq 59 (.ext (.t 46) 0), qq 60 (.ext (.t 46) 1), qq 61 (.ixsl 1 (.t 47) (.t 49)), qn (.store 1 (.t 61) (.t 59)), qq 8 (.mv (.t 60))]) (.seq (.seq (.reg [qq 62 (.mv (.t 8)), qq 63 (.bin .eql (.t 62) (.c (.int .u32 0)))]) (.cond (.t 63) (.seq (.reg [qq 6 (.mv (.c (.bool false)))]) .ret) .skip)) (.seq (.reg [qq 12 (.mv (.c (.int .u32 0)))]) (.seq (.seq (.reg [qq 64 (.mv (.t 1)), qq 65 (.lensl (.t 64)), qq 66 (.mv (ci 0))]) (.block 2 (.loop (.seq (.reg [qq 67 (.bin .lss (.t 66) (.t 65))]) (.seq (.cond (.t 67) .skip (.exit 2)) (.seq (.block 3 (.seq (.reg [qq 68 (.mv (.t 66)), qq 69 (.ixsl 1 (.t 64) (.t 66)), qq 70 (.load false 1 (.t 69)), qq 13 (.mv (.t 68)), qq 14 (.mv (.t 70))]) (.reg [qq 72 (.mv (.t 0)), qq 73 (.mv (.t 13)), qq 74 (.mv (.t 0)), qq 75 (.mv (.t 13)), qq 76 (.ixsl 1 (.t 74) (.t 75)), qq 77 (.load false 1 (.t 76)), qq 78 (.mv (.t 14)), qq 79 (.mv (.t 12)), qq 80 (.call 122 [(.t 77), (.t 78), (.t 79)]), qq 71 (.mv (.t 80)), qq 81 (.ext (.t 71) 0), qq 82 (.ext (.t 71) 1), qq 83 (.ixsl 1 (.t 72) (.t 73)), qn (.store 1 (.t 83) (.t 81)), qq 12 (.mv (.t 82))]))) (.reg [qq 84 (.bin .add (.t 66) (ci 1)), qq 66 (.mv (.t 84))]))))))) (.seq (.reg [qq 85 (.mv (.t 0)), qq 86 (.mv (.t 1)), qq 87 (.lensl (.t 86)), qq 88 (.ixsl 1 (.t 85) (.t 87)), qq 89 (.load false 1 (.t 88)), qq 90 (.mv (.t 12)), qq 91 (.bin .add (.t 89) (.t 90)), qq 92 (.ixsl 1 (.t 85) (.t 87)), qn (.store 1 (.t 92) (.t 91))]) (.seq (.reg [qq 6 (.mv (.c (.bool true)))]) .ret)))))))))
theorem tr137 : trFun Tryz.prog 137 = some ⟨93, [.t 6], c137⟩ := by kernel_rfl
set_option maxHeartbeats 2000000 in
theorem ok_ntake : SpecOK Tryz.prog 137 (upS spTake) := by
  refine up_run (env_cons ok_add32 (env_cons ok_sub32 (env_nil _))) mixed tr137 ?_ ?_
  · intro args h h' v hle e
    unfold spTake at e ⊢
    split at e
    · split at e
      · rename_i blk ds hb hds
        simp only [hle _ _ hb, shows_mono hle hds]; exact e
      · cases e
    · cases e
  intro args v ku b h N hG hN
  unfold spTake at hG
  split at hG
  case h_2 => cases hG
  rename_i ku0 off len cap kd od dlen dcap q
  split at hG
  case h_2 => cases hG
  rename_i blk ds hb hds
  split at hG
  case isFalse => cases hG
  rename_i hl
  obtain ⟨hu, hud, hlen, hle, hq0, hq, hdl, hne⟩ := hl
  cases hG
  have hku := hN _ _ hb
  obtain ⟨q, rfl⟩ := Int.eq_ofNat_of_zero_le hq0
  simp only [Int.toNat_natCast]
  refine ⟨hku, tb_base _ _, rfl, by simp, ?_⟩
  obtain ⟨kb, od', K, cap', blkd, e0, hbd, hled, hcell, hD, hdlen⟩ := shows_tb hds hud
  cases e0
  subst hlen
  obtain ⟨elem, sz, x, cells⟩ := blk
  simp only at hu hle hb ⊢
  have hcells := tb_ud hu
  generalize hW : ud cells = W at *
  generalize hLL : cells.length = L at *
  subst hcells
  clear hW hLL hu hds hud hdlen
  generalize ud ds = D at *
  have hkd := hN _ _ hbd
  have n1 : (ku = kd) = False := eq_false hne
  have hq' : q < 4294967296 := by omega
  obtain ⟨hct, hP⟩ := cyM_top hD hq'
  have hU : W / 4294967296 ^ off % 4294967296 ^ (dlen + 1) < 4294967296 ^ (dlen + 1) := Nat.mod_lt _ (pB _)
  have hseg : ∀ i, i ≤ dlen → lm (W / 4294967296 ^ off % 4294967296 ^ (dlen + 1)) i = lm W (off + i) := fun i hi => seg_limb (by omega)
  unfold tkCells
  generalize W / 4294967296 ^ off % 4294967296 ^ (dlen + 1) = U at *
  generalize hPP : q * D = P at *
  have eq64 : IntKind.u64.wrap (q : Int) = (q : Int) := u64_nat (by omega)
  simp only [c137, G0, Nat.reduceAdd]
  simp only [↓R0, R1, simprocAttr, -Int.reduceAbs]
  refine lp_parts (fun m tm hp nx => ∃ (i : Nat) (f : Nat → Nat), m + i = dlen ∧ tmget tm 0 = .slice (some ⟨ku, off, none⟩) (dlen + 1) cap ∧ tmget tm 1 = .slice (some ⟨kd, od, none⟩) dlen dcap ∧ tmget tm 2 = .int .u32 (q : Nat) ∧
      tmget tm 7 = .int .u64 (cyM D q i : Nat) ∧ tmget tm 8 = .int .u32 (cyS U P i : Nat) ∧ tmget tm 15 = .slice (some ⟨kd, od, none⟩) dlen dcap ∧ tmget tm 16 = .int .i64 dlen ∧ tmget tm 17 = .int .i64 i ∧
      hget hp ku = some ⟨elem, sz, x, tb L f⟩ ∧ (∀ j, j < L → f j = if off ≤ j ∧ j < off + i then lm (tkT U P dlen) (j - off) else lm W j) ∧ (∀ q, q < N → q ≠ ku → hget hp q = hget h q) ∧ nx = N + 0) ?_ dlen
    ⟨0, lm W, by omega, ?_, ?_, ?_, ?_, ?_, ?_, ?_, ?_, hb, fun j hj => by rw [if_neg (by omega)], fun q _ _ => rfl, rfl⟩
  · intro m tm hp nx ⟨i, f, hm, h0, h1, h2, h7, h8, h15, h16, h17, hb1, hf, hh, hnx⟩
    rw [hnx]
    clear hnx nx
    have hbb : hget hp kd = some blkd := by rw [hh kd hkd (fun e => hne e.symm)]; exact hbd
    obtain ⟨hc1, hc2⟩ := cyM_lt (d := D) (i := i) hq'
    have c1' : i ≤ dlen := by omega
    have c2' : i < dlen + 1 := by omega
    have c3 : off + i < L := by omega
    have c3' : off + i + 1 ≤ L := by omega
    have hfi : f (off + i) = lm U i := by rw [hf _ c3, if_neg (by omega), hseg i c1']
    have k1 := tb_get' f c3
    rw [hfi] at k1
    have b1 := lm_lt U i
    have b2 := lm_lt P i
    have b3 := cyS_le U P i
    have v1 : ((lm U i : Nat) : Int) < 4294967296 := by omega
    have v2 : ((lm P i : Nat) : Int) < 4294967296 := by omega
    have v3 : ((cyS U P i : Nat) : Int) ≤ 1 := by omega
    have v4 := tk_limb (u := U) hP c1'
    have v5 := cyS_int U P i
    by_cases c1 : i < dlen
    · have hlim := cyM_limb D q i
      rw [hPP] at hlim
      have hcs := cyM_succ D q i
      have b4 := lm_lt D i
      have hx1 : lm D i * q ≤ 4294967295 * 4294967295 := Nat.mul_le_mul (by omega) (by omega)
      have w1 := u64_nat (n := lm D i) (by omega)
      have w2 : IntKind.u64.wrap ((lm D i : Int) * (q : Int)) = ((lm D i * q : Nat) : Int) := by rw [← Int.natCast_mul, u64_nat (by omega)]
      have w3 : IntKind.u64.wrap (((lm D i * q : Nat) : Int) + (cyM D q i : Int)) = ((lm D i * q + cyM D q i : Nat) : Int) := by rw [← Int.natCast_add, u64_nat hc2]
      have w4 : ((lm D i * q + cyM D q i : Nat) : Int).fdiv (2 ^ min 32 IntKind.u64.bits) = ((cyM D q (i + 1) : Nat) : Int) := by
        have : (2 : Int) ^ min 32 IntKind.u64.bits = 4294967296 := rfl
        rw [this, Int.fdiv_eq_ediv_of_nonneg _ (by omega), hcs]; omega
      have w5 : IntKind.u32.wrap ((lm D i * q + cyM D q i : Nat) : Int) = (lm P i : Int) := by rw [u32_mod, ← hlim]
      have e3 : IntKind.i64.wrap ((i : Int) + 1) = ((i + 1 : Nat) : Int) := by rw [i64_in _ (by omega)]; omega
      have k2 := hcell i c1
      simp only [↓R0, R1, simprocAttr, -Int.reduceAbs, h0, h1, h2, h7, h8, h15, h16, h17, hb1, hbb, c1, c1', c2', c3, c3', n1, eq64, w1, w2, w3, w4, w5, e3, k1, k2, spSub32, v1, v2, v3, v4, v5, tb_length, tb_set]
      refine ⟨m - 1, by omega, i + 1, _, by omega, rfl, rfl, rfl, rfl, fun j hj => ?_, ?_⟩
      · by_cases g : j = off + i
        · rw [if_pos g, if_pos (by omega), g]; congr 1; omega
        · rw [if_neg g, hf j hj]
          by_cases g2 : off ≤ j ∧ j < off + i
          · rw [if_pos g2, if_pos (by omega)]
          · rw [if_neg g2, if_neg (by omega)]
      · intro q hq hqk
        simp only [if_neg (fun e : ku = q => hqk e.symm)]
        exact hh q hq hqk
    · have ei : i = dlen := by omega
      subst ei
      have w1 : IntKind.u32.wrap (cyM D q i : Int) = (lm P i : Int) := by rw [u32_nat hc1, hct]
      have hcy := tk_cy hU hP
      simp only [↓R0, R1, simprocAttr, -Int.reduceAbs, h0, h1, h2, h7, h8, h15, h16, h17, hb1, hbb, c1, c2', c3, c3', n1, w1, k1, spSub32, v1, v2, v3, v4, v5, tb_length, tb_set]
      have hg0 : ∀ j, j < L → (fun j => if j = off + i then lm (tkT U P i) i else f j) j = if off ≤ j ∧ j < off + (i + 1) then lm (tkT U P i) (j - off) else lm W j := by
        intro j hj
        simp only
        by_cases g : j = off + i
        · rw [if_pos g, if_pos (by omega), g]; congr 1; omega
        · rw [if_neg g, hf j hj]
          by_cases g2 : off ≤ j ∧ j < off + i
          · rw [if_pos g2, if_pos (by omega)]
          · rw [if_neg g2, if_neg (by omega)]
      have hh0 : ∀ q, q < N → q ≠ ku → hget ((ku, some (⟨elem, sz, x, tb L (fun j => if j = off + i then lm (tkT U P i) i else f j)⟩ : Blk)) :: hp) q = hget h q := by
        intro q hq hqk
        simp only [hget, if_neg (fun e : ku = q => hqk e.symm)]
        exact hh q hq hqk
      generalize (fun j => if j = off + i then lm (tkT U P i) i else f j) = g at *
      by_cases hlt : U < P
      · rw [if_pos hlt] at hcy
        have z1 : ((1 : Nat) : Int) = 1 := rfl
        have hblt : Nat.blt U P = true := by rw [Nat.blt_eq]; exact hlt
        have hX : tkX U P D i = tkT U P i + D := by unfold tkX tkT; rw [if_pos hlt]
        rw [hblt, hX]
        generalize tkT U P i = T at *
        simp only [↓R0, R1, simprocAttr, -Int.reduceAbs, hcy, z1, h1]
        refine lp_parts (fun m2 tm hp nx => ∃ (r : Nat) (f : Nat → Nat), m2 + r = i ∧ tmget tm 0 = .slice (some ⟨ku, off, none⟩) (i + 1) cap ∧ tmget tm 1 = .slice (some ⟨kd, od, none⟩) i dcap ∧
          tmget tm 12 = .int .u32 (cyA T D r : Nat) ∧ tmget tm 64 = .slice (some ⟨kd, od, none⟩) i dcap ∧ tmget tm 65 = .int .i64 i ∧ tmget tm 66 = .int .i64 r ∧
          hget hp ku = some ⟨elem, sz, x, tb L f⟩ ∧ (∀ j, j < L → f j = if off ≤ j ∧ j < off + r then lm (T + D) (j - off) else if off ≤ j ∧ j < off + (i + 1) then lm T (j - off) else lm W j) ∧ (∀ q, q < N → q ≠ ku → hget hp q = hget h q) ∧ nx = N + 0) ?_ i
          ⟨0, g, by omega, ?_, ?_, ?_, ?_, ?_, ?_, ?_, fun j hj => by rw [hg0 j hj, if_neg (show ¬ (off ≤ j ∧ j < off + 0) by omega)], hh0, rfl⟩
        · clear hh0 hg0 hh hbb hb1 hf h0 h1 h2 h7 h8 h15 h16 h17 k1 v1 v3 v4 v5 hfi
          clear tm hp f g hm m
          intro m2 tm hp nx ⟨r, f, hm, h0, h1, h12, h64, h65, h66, hb1, hf, hh, hnx⟩
          rw [hnx]
          clear hnx nx
          have hbb : hget hp kd = some blkd := by rw [hh kd hkd (fun e => hne e.symm)]; exact hbd
          have c4 : r ≤ i := by omega
          have c4' : r < i + 1 := by omega
          have c5 : off + r < L := by omega
          have c5' : off + r + 1 ≤ L := by omega
          have hfr : f (off + r) = lm T r := by rw [hf _ c5, if_neg (by omega), if_pos (by omega)]; congr 1; omega
          have k1 := tb_get' f c5
          rw [hfr] at k1
          have b1 := lm_lt T r
          have b2 := lm_lt D r
          have b3 := cyA_le T D r
          have v1 : ((lm T r : Nat) : Int) < 4294967296 := by omega
          have v2 : ((lm D r : Nat) : Int) < 4294967296 := by omega
          have v3 : ((cyA T D r : Nat) : Int) ≤ 1 := by omega
          have v4 : ((lm T r : Int) + lm D r + cyA T D r) % 4294967296 = (lm (T + D) r : Int) := by rw [add_limb]; omega
          have v5 : ((lm T r : Int) + lm D r + cyA T D r) / 4294967296 = (cyA T D (r + 1) : Int) := by rw [cyA_succ]; omega
          by_cases c6 : r < i
          · have k2 := hcell r c6
            have e3 : IntKind.i64.wrap ((r : Int) + 1) = ((r + 1 : Nat) : Int) := by rw [i64_in _ (by omega)]; omega
            simp only [↓R0, R1, simprocAttr, -Int.reduceAbs, h0, h1, h12, h64, h65, h66, hb1, hbb, c4, c4', c5, c5', c6, n1, e3, k1, k2, spAdd32, v1, v2, v3, v4, v5, tb_length, tb_set]
            refine ⟨m2 - 1, by omega, r + 1, _, by omega, rfl, rfl, rfl, fun j hj => ?_, ?_⟩
            · by_cases g : j = off + r
              · rw [if_pos g, if_pos (by omega), g]; congr 1; omega
              · rw [if_neg g, hf j hj]
                by_cases g2 : off ≤ j ∧ j < off + r
                · rw [if_pos g2, if_pos (by omega)]
                · rw [if_neg g2, if_neg (show ¬ (off ≤ j ∧ j < off + (r + 1)) by omega)]
            · intro q hq hqk
              simp only [if_neg (fun e : ku = q => hqk e.symm)]
              exact hh q hq hqk
          · have er : r = i := by omega
            subst er
            have hz : lm D r = 0 := lm_of_lt' hD (Nat.le_refl _)
            have w1 : IntKind.u32.wrap ((lm T r : Int) + (cyA T D r : Int)) = (lm (T + D) r : Int) := by rw [u32_int, add_limb, hz]; omega
            simp only [↓R0, R1, simprocAttr, -Int.reduceAbs, h0, h1, h12, h64, h65, h66, hb1, hbb, c4, c4', c5, c5', c6, n1, k1, w1, tb_length, tb_set, FinU, Fin, isEnd, resL, res1, iE, rE]
            refine ⟨_, rfl, rfl, ?_, ?_⟩
            · congr 2
              apply tb_congr
              intro j hj
              by_cases g : j = off + r
              · rw [if_pos g, if_pos (by omega), g]; congr 1; omega
              · rw [if_neg g, hf j hj]
                by_cases g2 : off ≤ j ∧ j < off + r
                · rw [if_pos g2, if_pos (by omega)]
                · rw [if_neg g2]
                  by_cases g3 : off ≤ j ∧ j < off + (r + 1)
                  · omega
                  · rw [if_neg g3, if_neg g3]
            · intro q hq hqk
              simp only [if_neg (fun e : ku = q => hqk e.symm)]
              exact hh q hq hqk
        · (first | (simp only [↓R0, R1, simprocAttr, -Int.reduceAbs, h0]; done) | (simp only [↓R0, R1, simprocAttr, -Int.reduceAbs, h0]; rfl) | rfl)
        · (first | (simp only [↓R0, R1, simprocAttr, -Int.reduceAbs, h1]; done) | (simp only [↓R0, R1, simprocAttr, -Int.reduceAbs, h1]; rfl) | rfl)
        · (first | (simp only [↓R0, R1, simprocAttr, -Int.reduceAbs, cyA_zero]; done) | (simp only [↓R0, R1, simprocAttr, -Int.reduceAbs, cyA_zero]; rfl) | rfl)
        · (first | (simp only [↓R0, R1, simprocAttr, -Int.reduceAbs, h1]; done) | (simp only [↓R0, R1, simprocAttr, -Int.reduceAbs, h1]; rfl) | rfl)
        · (first | (simp only [↓R0, R1, simprocAttr, -Int.reduceAbs]; done) | (simp only [↓R0, R1, simprocAttr, -Int.reduceAbs]; rfl) | rfl)
        · (first | (simp only [↓R0, R1, simprocAttr, -Int.reduceAbs]; done) | (simp only [↓R0, R1, simprocAttr, -Int.reduceAbs]; rfl) | rfl)
        · (first | (simp only [↓R0, R1, simprocAttr, -Int.reduceAbs]; done) | (simp only [↓R0, R1, simprocAttr, -Int.reduceAbs]; rfl) | rfl)
      · rw [if_neg hlt] at hcy
        have z1 : ((0 : Nat) : Int) = 0 := rfl
        have hblt : Nat.blt U P = false := by
          cases hb : Nat.blt U P with
          | false => rfl
          | true => rw [Nat.blt_eq] at hb; exact absurd hb hlt
        rw [hblt]
        simp only [↓R0, R1, simprocAttr, -Int.reduceAbs, hcy, z1, FinU, Fin, isEnd, resL, res1, iE, rE]
        refine ⟨_, rfl, rfl, ?_, ?_⟩
        · congr 2
          apply tb_congr
          intro j hj
          rw [hg0 j hj]
          by_cases g2 : off ≤ j ∧ j < off + (i + 1)
          · rw [if_pos g2, if_pos g2, tk_done hlt (by omega)]
          · rw [if_neg g2, if_neg g2]
        · intro q hq hqk
          simp only [if_neg (fun e : ku = q => hqk e.symm)]
          exact hh q hq hqk
  · (first | (simp only [↓R0, R1, simprocAttr, -Int.reduceAbs]; done) | (simp only [↓R0, R1, simprocAttr, -Int.reduceAbs]; rfl) | rfl)
  · (first | (simp only [↓R0, R1, simprocAttr, -Int.reduceAbs]; done) | (simp only [↓R0, R1, simprocAttr, -Int.reduceAbs]; rfl) | rfl)
  · (first | (simp only [↓R0, R1, simprocAttr, -Int.reduceAbs]; done) | (simp only [↓R0, R1, simprocAttr, -Int.reduceAbs]; rfl) | rfl)
  · (first | (simp only [↓R0, R1, simprocAttr, -Int.reduceAbs, cyM_zero]; done) | (simp only [↓R0, R1, simprocAttr, -Int.reduceAbs, cyM_zero]; rfl) | rfl)
  · (first | (simp only [↓R0, R1, simprocAttr, -Int.reduceAbs, cyS_zero]; done) | (simp only [↓R0, R1, simprocAttr, -Int.reduceAbs, cyS_zero]; rfl) | rfl)
  · (first | (simp only [↓R0, R1, simprocAttr, -Int.reduceAbs]; done) | (simp only [↓R0, R1, simprocAttr, -Int.reduceAbs]; rfl) | rfl)
  · (first | (simp only [↓R0, R1, simprocAttr, -Int.reduceAbs]; done) | (simp only [↓R0, R1, simprocAttr, -Int.reduceAbs]; rfl) | rfl)
  · (first | (simp only [↓R0, R1, simprocAttr, -Int.reduceAbs]; done) | (simp only [↓R0, R1, simprocAttr, -Int.reduceAbs]; rfl) | rfl)
end Go.Eng
end
section
set_option linter.unusedVariables false
set_option linter.unusedSimpArgs false
set_option linter.unusedSectionVars false
namespace Go.Eng
theorem lg_facts {R Dv k p : Nat} (hD : Dv < 4294967296 ^ (p + 2)) (hD1 : 4294967296 ^ (p + 1) ≤ Dv) (hR : R < Dv * 4294967296 ^ (k + 1)) :
    1 ≤ lm Dv (p + 1) ∧ R / 4294967296 ^ k / Dv < 4294967296 ∧
    lm R (k + (p + 2)) * 4294967296 + lm R (k + (p + 1)) < (lm Dv (p + 1) + 1) * 4294967296 ∧
    R / 4294967296 ^ k / Dv * (lm Dv (p + 1) * 4294967296 + lm Dv p) ≤ (lm R (k + (p + 2)) * 4294967296 + lm R (k + (p + 1))) * 4294967296 + lm R (k + p) ∧
    ∀ q r, q * lm Dv (p + 1) + r = lm R (k + (p + 2)) * 4294967296 + lm R (k + (p + 1)) → q * lm Dv p ≤ r * 4294967296 + lm R (k + p) → q < 4294967296 → q ≤ R / 4294967296 ^ k / Dv + 1 := by
  have hDp : 0 < Dv := Nat.lt_of_lt_of_le (pB (p + 1)) hD1
  have hseg : R / 4294967296 ^ k < Dv * 4294967296 := by
    refine Nat.div_lt_of_lt_mul ?_
    rw [Nat.pow_succ, ← Nat.mul_assoc, Nat.mul_comm Dv, Nat.mul_assoc] at hR
    exact hR
  have hseg3 : R / 4294967296 ^ k < 4294967296 ^ (p + 3) := by
    rw [show p + 3 = p + 2 + 1 by omega, Nat.pow_succ]
    exact Nat.lt_of_lt_of_le hseg (Nat.mul_le_mul_right _ (Nat.le_of_lt hD))
  have e1 := lm_shift R k (p + 2)
  have e2 := lm_shift R k (p + 1)
  have e3 := lm_shift R k p
  rw [← e1, ← e2, ← e3]
  generalize R / 4294967296 ^ k = seg at *
  have hparts := kn_parts hD
  have hfront := kn_front hseg3
  have hdl := Nat.mod_lt Dv (pB p)
  have hsl := Nat.mod_lt seg (pB p)
  have hd2 := lm_lt Dv p
  have htop : 1 ≤ lm Dv (p + 1) := by
    rw [lm_top (j := p + 1) hD]
    exact (Nat.le_div_iff_mul_le (pB _)).2 (by rw [Nat.one_mul]; exact hD1)
  refine ⟨htop, ?_, ?_, ?_, ?_⟩
  · rw [Nat.div_lt_iff_lt_mul hDp, Nat.mul_comm]; exact hseg
  · exact kn_lt hparts hd2 hdl hfront hseg (by omega)
  · exact kn_true hparts hfront hsl (by rw [Nat.mul_comm]; exact Nat.mul_div_le _ _)
  · intro q r hr hc hq
    have h := kn_end (P := 4294967296 ^ p) hr hc hq htop hdl
    rw [← hparts] at h
    have h2 : (q - 1) * Dv ≤ seg := by rw [hfront]; omega
    have := (Nat.le_div_iff_mul_le hDp).2 h2
    omega
theorem lg_cells {R Dv k m q qd : Nat} (hDp : 0 < Dv) (hD : Dv < 4294967296 ^ m) (hR : R < Dv * 4294967296 ^ (k + 1)) (hqd : qd = R / 4294967296 ^ k / Dv) (hle : qd ≤ q) (hge : q ≤ qd + 1) :
    (R / 4294967296 ^ k < q * Dv ↔ q = qd + 1) ∧ ∀ j, (if k ≤ j ∧ j < k + (m + 1) then lm (tkX (R / 4294967296 ^ k) (q * Dv) Dv m) (j - k) else lm R j) = lm (R - qd * (Dv * 4294967296 ^ k)) j := by
  have hRB : R < 4294967296 ^ (k + m + 1) := by
    refine Nat.lt_of_lt_of_le hR ?_
    rw [show k + m + 1 = m + (k + 1) by omega, Nat.pow_add _ m]
    exact Nat.mul_le_mul_right _ (Nat.le_of_lt hD)
  have hdm := Nat.div_add_mod R (4294967296 ^ k)
  have hml := Nat.mod_lt R (pB k)
  have hq1 : qd * Dv ≤ R / 4294967296 ^ k := by rw [hqd, Nat.mul_comm]; exact Nat.mul_div_le _ _
  have hq2 : R / 4294967296 ^ k < (qd + 1) * Dv := by rw [hqd, Nat.mul_comm]; exact Nat.lt_mul_div_succ _ hDp
  clear hqd
  generalize hs : R / 4294967296 ^ k = seg at *
  have hcase : (seg < q * Dv ↔ q = qd + 1) := by
    constructor
    · intro h
      rcases Nat.lt_or_ge q (qd + 1) with g | g
      · have : q = qd := by omega
        subst this; omega
      · omega
    · intro h; rw [h]; exact hq2
  refine ⟨hcase, fun j => ?_⟩
  have hY : R - qd * (Dv * 4294967296 ^ k) = R % 4294967296 ^ k + (seg - qd * Dv) * 4294967296 ^ k := by
    have e : seg = (seg - qd * Dv) + qd * Dv := by omega
    have : 4294967296 ^ k * seg = (seg - qd * Dv) * 4294967296 ^ k + qd * (Dv * 4294967296 ^ k) := by
      conv => lhs; rw [e]
      rw [Nat.mul_comm, Nat.add_mul, Nat.mul_assoc qd]
    omega
  have hX : ∀ i, i ≤ m → lm (tkX seg (q * Dv) Dv m) i = lm (seg - qd * Dv) i := by
    intro i hi
    unfold tkX
    by_cases c : seg < q * Dv
    · have hq := hcase.1 c
      rw [if_pos c, hq]
      have hB : Dv ≤ 4294967296 ^ (m + 1) := Nat.le_trans (Nat.le_of_lt hD) (Nat.pow_le_pow_right (by omega) (by omega))
      rw [Nat.add_mul, Nat.one_mul]
      rw [show seg + 4294967296 ^ (m + 1) - (qd * Dv + Dv) + Dv = seg - qd * Dv + 1 * 4294967296 ^ (m + 1) by omega, lm_add_mul (by omega)]
    · have hq : q = qd := by
        rcases Nat.lt_or_ge qd q with g | g
        · exact absurd (hcase.2 (by omega)) c
        · omega
      rw [if_neg c, hq]
  by_cases c : k ≤ j ∧ j < k + (m + 1)
  · rw [if_pos c, hX _ (by omega)]
    obtain ⟨i, rfl⟩ : ∃ i, j = k + i := ⟨j - k, by omega⟩
    rw [← lm_shift, hY, Nat.add_mul_div_right _ _ (pB k), Nat.div_eq_of_lt hml, Nat.zero_add]
    congr 1; omega
  · rw [if_neg c]
    by_cases c2 : j < k
    · rw [hY, lm_add_mul c2, lm_mod c2]
    · have hj : k + m + 1 ≤ j := by omega
      rw [lm_of_lt' hRB hj, lm_of_lt' (Nat.lt_of_le_of_lt (Nat.sub_le _ _) hRB) hj]
structure LG (u d p K L : Nat) : Prop where
  hi : d < 4294967296 ^ (p + 2)
  lo : 4294967296 ^ (p + 1) ≤ d
  quo : u < d * 4294967296 ^ K
  len : u < 4294967296 ^ L
def lgR (u d M : Nat) : Nat := u % (d * 4294967296 ^ M)
theorem lgR_top {u d p K L : Nat} (g : LG u d p K L) : lgR u d K = u := Nat.mod_eq_of_lt g.quo
theorem lgR_zero (u d : Nat) : lgR u d 0 = u % d := by unfold lgR; rw [Nat.pow_zero, Nat.mul_one]
theorem lg_ud {u d p K L m : Nat} (g : LG u d p K L) : ud (tb L (lm (lgR u d m))) = lgR u d m := by
  rw [ud_tb, Nat.mod_eq_of_lt]
  exact Nat.lt_of_le_of_lt (Nat.mod_le _ _) g.len
theorem lg_dv {u d p K L : Nat} (g : LG u d p K L) : ud (tb (p + 2) (lm d)) = d := by rw [ud_tb, Nat.mod_eq_of_lt g.hi]
theorem lg_end {u d p K L : Nat} (g : LG u d p K L) : ud (tb (p + 2) (lm (lgR u d 0))) = u % d := by
  rw [ud_tb, lgR_zero, Nat.mod_eq_of_lt]
  exact Nat.lt_trans (Nat.mod_lt _ (Nat.lt_of_lt_of_le (pB _) g.lo)) g.hi
theorem lg_step {u d p K L k : Nat} (g : LG u d p K L) (hk : k < K) (hL : k + (p + 2) < L) :
    ∃ t2 t1 t0 top d2 qd, lm (lgR u d (k + 1)) (k + (p + 2)) = t2 ∧ lm (lgR u d (k + 1)) (k + (p + 1)) = t1 ∧ lm (lgR u d (k + 1)) (k + p) = t0 ∧ lm d (p + 1) = top ∧ lm d p = d2 ∧ lm (u / d) k = qd ∧
      t2 < 4294967296 ∧ t1 < 4294967296 ∧ t0 < 4294967296 ∧ top < 4294967296 ∧ d2 < 4294967296 ∧ 1 ≤ top ∧ qd < 4294967296 ∧ t2 * 4294967296 + t1 < (top + 1) * 4294967296 ∧
      qd * (top * 4294967296 + d2) ≤ (t2 * 4294967296 + t1) * 4294967296 + t0 ∧
      (∀ q r, q * top + r = t2 * 4294967296 + t1 → q * d2 ≤ r * 4294967296 + t0 → q < 4294967296 → q ≤ qd + 1) ∧
      (∀ q, qd ≤ q → q ≤ qd + 1 → Nat.blt (lgR u d (k + 1) / 4294967296 ^ k % 4294967296 ^ (p + 2 + 1)) (q * d) = Nat.beq q (qd + 1) ∧ tkCells (lgR u d (k + 1)) k (p + 2) d q L = tb L (lm (lgR u d k))) := by
  have hd0 : 0 < d := Nat.lt_of_lt_of_le (pB _) g.lo
  have hR : lgR u d (k + 1) < d * 4294967296 ^ (k + 1) := Nat.mod_lt _ (Nat.mul_pos hd0 (pB _))
  have hq := dig_lm u d k hd0
  have hrest := dig_rest u d k hd0
  have e1 : u % (d * 4294967296 ^ (k + 1)) = lgR u d (k + 1) := rfl
  have e2 : u % (d * 4294967296 ^ k) = lgR u d k := rfl
  rw [e1] at hq hrest
  rw [e2] at hrest
  obtain ⟨f1, f2, f3, f4, f5⟩ := lg_facts g.hi g.lo hR
  refine ⟨_, _, _, _, _, _, rfl, rfl, rfl, rfl, rfl, rfl, lm_lt _ _, lm_lt _ _, lm_lt _ _, lm_lt _ _, lm_lt _ _, f1, lm_lt _ _, f3, ?_, ?_, ?_⟩
  · rw [← hq]; exact f4
  · rw [← hq]; exact f5
  · intro q h1 h2
    obtain ⟨c1, c2⟩ := lg_cells (m := p + 2) hd0 g.hi hR hq.symm h1 h2
    have hseg : lgR u d (k + 1) / 4294967296 ^ k < 4294967296 ^ (p + 2 + 1) := by
      refine Nat.div_lt_of_lt_mul (Nat.lt_of_lt_of_le hR ?_)
      rw [← Nat.pow_add, show k + (p + 2 + 1) = p + 2 + (k + 1) by omega, Nat.pow_add _ (p + 2)]
      exact Nat.mul_le_mul_right _ (Nat.le_of_lt g.hi)
    rw [Nat.mod_eq_of_lt hseg]
    constructor
    · rw [Bool.eq_iff_iff, Nat.blt_eq, Nat.beq_eq]; exact c1
    · unfold tkCells
      rw [Nat.mod_eq_of_lt hseg]
      apply tb_congr
      intro j _
      rw [c2 j, hrest]
def w2 (a b : Nat) : Nat := a * 4294967296 + b
theorem w2_lt {a b : Nat} (ha : a < 4294967296) (hb : b < 4294967296) : w2 a b < 18446744073709551616 := by unfold w2; omega
def LI (X top qd q r : Nat) : Prop := q * top + r = X ∧ qd ≤ q
theorem lg_step2 {u d p K L k : Nat} (g : LG u d p K L) (hk : k < K) (hL : k + (p + 2) < L) :
    ∃ t2 t1 t0 top d2 qd X, lm (lgR u d (k + 1)) (k + (p + 2)) = t2 ∧ lm (lgR u d (k + 1)) (k + (p + 1)) = t1 ∧ lm (lgR u d (k + 1)) (k + p) = t0 ∧ lm d (p + 1) = top ∧ lm d p = d2 ∧ lm (u / d) k = qd ∧ w2 t2 t1 = X ∧
      t2 < 4294967296 ∧ t1 < 4294967296 ∧ t0 < 4294967296 ∧ top < 4294967296 ∧ d2 < 4294967296 ∧ 1 ≤ top ∧ qd < 4294967296 ∧ X < 18446744073709551616 ∧
      LI X top qd (X / top) (X % top) ∧ (∀ q r, LI X top qd q r → 4294967296 ≤ q ∨ w2 r t0 < q * d2 → 1 ≤ q ∧ LI X top qd (q - 1) (r + top)) ∧
      (∀ q r, LI X top qd q r → q < 4294967296 → q * d2 ≤ w2 r t0 → qd ≤ q ∧ q ≤ qd + 1 ∧ q < 4294967296) ∧
      (∀ q r, LI X top qd q r → 4294967296 ≤ r → qd ≤ q ∧ q ≤ qd + 1 ∧ q < 4294967296) ∧ (∀ q r, LI X top qd q r → q ≤ X) ∧
      (∀ q, qd ≤ q → q ≤ qd + 1 → Nat.blt (lgR u d (k + 1) / 4294967296 ^ k % 4294967296 ^ (p + 2 + 1)) (q * d) = Nat.beq q (qd + 1) ∧ tkCells (lgR u d (k + 1)) k (p + 2) d q L = tb L (lm (lgR u d k))) := by
  obtain ⟨t2, t1, t0, top, d2, qd, g1, g2, g3, g4, g5, g6, b2, b1, b0, bt, bd, ht, bq, hX, hqd, hend, hcells⟩ := lg_step g hk hL
  refine ⟨t2, t1, t0, top, d2, qd, w2 t2 t1, g1, g2, g3, g4, g5, g6, rfl, b2, b1, b0, bt, bd, ht, bq, w2_lt b2 b1, ⟨?_, ?_⟩, ?_, ?_, ?_, ?_, hcells⟩
  · rw [Nat.mul_comm]; exact Nat.div_add_mod _ _
  · refine (Nat.le_div_iff_mul_le (by omega)).2 ?_
    have key : ∀ X, qd * (top * 4294967296 + d2) ≤ X * 4294967296 + t0 → qd * top ≤ X := by
      intro X h
      refine Nat.le_of_not_lt fun hlt => ?_
      have h1 : (X + 1) * 4294967296 ≤ qd * top * 4294967296 := Nat.mul_le_mul_right _ hlt
      rw [Nat.mul_add, ← Nat.mul_assoc] at h
      clear hqd hX hend hcells
      omega
    exact key _ hqd
  · intro q r ⟨h1, h2⟩ hc
    have := kn_step hqd h1 h2 bq hc
    refine ⟨by omega, ?_, by omega⟩
    obtain ⟨q, rfl⟩ : ∃ q', q = q' + 1 := ⟨q - 1, by omega⟩
    rw [Nat.add_sub_cancel]
    rw [Nat.add_mul] at h1
    omega
  · intro q r ⟨h1, h2⟩ hq hc
    exact ⟨h2, hend q r h1 hc hq, hq⟩
  · intro q r ⟨h1, h2⟩ hr
    obtain ⟨h3, h4⟩ := kn_break (u2 := t0) h1 hX hr bd
    exact ⟨h2, hend q r h1 h4 h3, h3⟩
  · intro q r ⟨h1, h2⟩
    have : q * 1 ≤ q * top := Nat.mul_le_mul_left _ ht
    omega
end Go.Eng
end
section
set_option linter.unusedVariables false
set_option linter.unusedSimpArgs false
set_option linter.unusedSectionVars false
set_option maxRecDepth 20000
namespace Go.Eng
open Go Go.Proofs Go.IntWalk
theorem shows_new {h : Heap} {N a kb off len cap : Nat} {b : Option Blk} (hk : kb < N) : shows ((N + a, b) :: h) (.slice (some ⟨kb, off, none⟩) len cap) = shows h (.slice (some ⟨kb, off, none⟩) len cap) := by
  simp only [shows, hget, if_neg (show ¬ N + a = kb by omega)]
def spLong : List Value → Heap → Option ((Nat → Nat → Value) × Blk × Blk)
  | [vu, vd], h => match shows h vu, shows h vd with
    | some us, some ds => if uok us = true ∧ uok ds = true ∧ 2 ≤ ds.length ∧ ds.length ≤ us.length ∧ us.length ≤ 8589934592 ∧ 4294967296 ^ (ds.length - 1) ≤ ud ds then
        some (fun a b => .tuple ⟨[.slice (some ⟨a, 0, none⟩) (us.length + 1 - ds.length) (us.length + 1 - ds.length), .slice (some ⟨b, 0, none⟩) ds.length ds.length]⟩,
          ⟨118, 1, false, tb (us.length + 1 - ds.length) (lm (ud us / ud ds))⟩, ⟨118, 1, false, tb ds.length (lm (ud us % ud ds))⟩) else none
    | _, _ => none
  | _, _ => none
def c114 : ICode :=
  (.seq (.reg [qq 4 (.mv (.c (.slice none 0 0))), qq 5 (.mv (.c (.slice none 0 0)))]) (.seq (.reg [qq 15 (.mv (.t 1)), qq 16 (.mv (.t 1)), qq 17 (.lensl (.t 16)), qq 18 (.bin .sub (.t 17) (ci 1)), qq 19 (.ixsl 1 (.t 15) (.t 18)), qq 20 (.load false 1 (.t 19)), qq 21 (.call 135 [(.t 20)]), qq 6 (.mv (.t 21))]) (.seq (.reg [qq 22 (.mv (.t 1)), qq 23 (.mv (.t 6)), qq 24 (.call 136 [(.t 22), (.t 23)]), qq 25 (.mv (.t 1)), qq 26 (.lensl (.t 25)), qq 27 (.slsl 1 (.t 24) none (some (.t 26))), qq 1 (.mv (.t 27))]) (.seq (.reg [qq 28 (.mv (.t 0)), qq 29 (.mv (.t 6)), qq 30 (.call 136 [(.t 28), (.t 29)]), qq 0 (.mv (.t 30))]) (.seq (.reg [qq 31 (.mv (.t 1)), qq 32 (.lensl (.t 31)), qq 7 (.mv (.t 32))]) (.seq (.reg [qq 33 (.mv (.t 1)), qq 34 (.mv (.t 7)), qq 35 (.bin .sub (.t 34) (ci 1)), qq 36 (.ixsl 1 (.t 33) (.t 35)), qq 37 (.load false 1 (.t 36)), qq 8 (.mv (.t 37))]) (.seq (.reg [qq 38 (.mv (.t 0)), qq 39 (.lensl (.t 38)), qq 40 (.mv (.t 7)), qq 41 (.bin .sub (.t 39) (.t 40)), qq 42 (.mxmn true (.t 41) (ci 0)), qq 43 (.mkslice 118 1 4 [(.int .u32 0)] (.t 42) (.t 42)), qq 9 (.mv (.t 43))]) (.seq (.seq (.reg [qq 44 (.mv (.t 9)), qq 45 (.lensl (.t 44)), qq 46 (.mv (ci 0))]) (.block 0 (.loop (.seq (.reg [qq 47 (.bin .lss (.t 46) (.t 45))]) (.seq (.cond (.t 47) .skip (.exit 0)) (.seq (.block 1 (.seq (.reg [qq 48 (.mv (.t 46)), qq 10 (.mv (.t 48))]) (.seq (.reg [qq 49 (.mv (.t 9)), qq 50 (.lensl (.t 49)), qq 51 (.bin .sub (.t 50) (ci 1)), qq 52 (.mv (.t 10)), qq 53 (.bin .sub (.t 51) (.t 52)), qq 11 (.mv (.t 53))]) (.seq (.dreg [qu 54 (.mv (.t 0)), qu 55 (.mv (.t 11)), qu 56 (.mv (.t 7)), qu 57 (.bin .add (.t 55) (.t 56)), qu 58 (.ixsl 1 (.t 54) (.t 57)), qu 59 (.load false 1 (.t 58)), qu 60 (.conv .u64 (.t 59)), qu 61 (.bin .shl (.t 60) (.c (.int .u64 32))), qu 62 (.mv (.t 0)), qu 63 (.mv (.t 11)), qu 64 (.mv (.t 7)), qu 65 (.bin .add (.t 63) (.t 64)), qu 66 (.bin .sub (.t 65) (ci 1)), qu 67 (.ixsl 1 (.t 62) (.t 66)), qu 68 (.load false 1 (.t 67)), qu 69 (.conv .u64 (.t 68)), qu 70 (.bin .or (.t 61) (.t 69)), qu 12 (.mv (.t 70))]) (.seq (.dreg [qu 71 (.mv (.t 12)), qu 72 (.mv (.t 8)), qu 73 (.conv .u64 (.t 72)), qu 74 (.bin .quo (.t 71) (.t 73)), qu 75 (.mv (.t 12)), qu 76 (.mv (.t 8)), qu 77 (.conv .u64 (.t 76)), qu 78 (.bin .rem (.t 75) (.t 77)), qu 13 (.mv (.t 74)), qu 14 (.mv (.t 78))]) (.seq (.block 2 (.loop (.seq (.seq (.dreg [qu 79 (.mv (.t 13)), qu 80 (.bin .gtr (.t 79) (.c (.int .u64 4294967295))), qu 81 (.mv (.t 80)), ⟨(some 82), (some (81, false)), [], (.mv (.t 13))⟩, ⟨(some 83), (some (81, false)), [], (.mv (.t 1))⟩, ⟨(some 84), (some (81, false)), [], (.mv (.t 7))⟩, ⟨(some 85), (some (81, false)), [], (.bin .sub (.t 84) (ci 2))⟩, ⟨(some 86), (some (81, false)), [], (.ixsl 1 (.t 83) (.t 85))⟩, ⟨(some 87), (some (81, false)), [], (.load false 1 (.t 86))⟩, ⟨(some 88), (some (81, false)), [], (.conv .u64 (.t 87))⟩, ⟨(some 89), (some (81, false)), [], (.bin .mul (.t 82) (.t 88))⟩, ⟨(some 90), (some (81, false)), [], (.mv (.t 14))⟩, ⟨(some 91), (some (81, false)), [], (.bin .shl (.t 90) (.c (.int .u64 32)))⟩, ⟨(some 92), (some (81, false)), [], (.mv (.t 0))⟩, ⟨(some 93), (some (81, false)), [], (.mv (.t 11))⟩, ⟨(some 94), (some (81, false)), [], (.mv (.t 7))⟩, ⟨(some 95), (some (81, false)), [], (.bin .add (.t 93) (.t 94))⟩, ⟨(some 96), (some (81, false)), [], (.bin .sub (.t 95) (ci 2))⟩, ⟨(some 97), (some (81, false)), [], (.ixsl 1 (.t 92) (.t 96))⟩, ⟨(some 98), (some (81, false)), [], (.load false 1 (.t 97))⟩, ⟨(some 99), (some (81, false)), [], (.conv .u64 (.t 98))⟩, ⟨(some 100), (some (81, false)), [], (.bin .or (.t 91) (.t 99))⟩, ⟨(some 101), (some (81, false)), [], (.bin .gtr (.t 89) (.t 100))⟩, qu 102 (.pick (.t 81) (.c (.bool true)) (.t 101))]) (.cond (.t 102) .skip (.exit 2))) (.block 3 (.seq (.reg [qq 103 (.mv (.t 13)), qq 104 (.bin .sub (.t 103) (.c (.int .u64 1))), qq 105 (.mv (.t 14)), qq 106 (.mv (.t 8)), qq 107 (.conv .u64 (.t 106)), qq 108 (.bin .add (.t 105) (.t 107)), qq 13 (.mv (.t 104)), qq 14 (.mv (.t 108))]) (.seq (.reg [qq 109 (.mv (.t 14)), qq 110 (.bin .gtr (.t 109) (.c (.int .u64 4294967295)))]) (.cond (.t 110) (.exit 2) .skip))))))) (.seq (.seq (.reg [qq 111 (.mv (.t 0)), qq 112 (.mv (.t 11)), qq 113 (.mv (.t 11)), qq 114 (.mv (.t 7)), qq 115 (.bin .add (.t 113) (.t 114)), qq 116 (.bin .add (.t 115) (ci 1)), qq 117 (.slsl 1 (.t 111) (some (.t 112)) (some (.t 116))), qq 118 (.mv (.t 1)), qq 119 (.mv (.t 13)), qq 120 (.conv .u32 (.t 119)), qq 121 (.call 137 [(.t 117), (.t 118), (.t 120)])]) (.cond (.t 121) (.reg [qq 122 (.mv (.t 13)), qq 123 (.bin .sub (.t 122) (.c (.int .u64 1))), qq 13 (.mv (.t 123))]) .skip)) (.reg [qq 124 (.mv (.t 9)), qq 125 (.mv (.t 11)), qq 126 (.mv (.t 13)), qq 127 (.conv .u32 (.t 126)), qq 128 (.ixsl 1 (.t 124) (.t 125)), qn (.store 1 (.t 128) (.t 127))])))))))) (.reg [qq 129 (.bin .add (.t 46) (ci 1)), qq 46 (.mv (.t 129))]))))))) (.seq (.reg [qq 130 (.mv (.t 9)), qq 131 (.mv (.t 0)), qq 132 (.mv (.t 7)), qq 133 (.slsl 1 (.t 131) none (some (.t 132))), qq 134 (.mv (.t 6)), qq 135 (.call 138 [(.t 133), (.t 134)]), qq 4 (.mv (.t 130)), qq 5 (.mv (.t 135))]) .ret)))))))))
theorem tr114 : trFun Tryz.prog 114 = some ⟨136, [.t 4, .t 5], c114⟩ := by kernel_rfl
theorem lm_lt_int (n j : Nat) : ((lm n j : Nat) : Int) < 4294967296 := by have := lm_lt n j; omega
theorem vr2_sl (l1 c1 l2 c2 : Nat) : vr2 fun a b => .tuple ⟨[.slice (some ⟨a, 0, none⟩) l1 c1, .slice (some ⟨b, 0, none⟩) l2 c2]⟩ :=
  fun β i j i' j' h h' => .tup _ _ (.cons _ _ _ _ (.sl i 0 l1 c1 ⟨j, 0, []⟩ h) (.cons _ _ _ _ (.sl i' 0 l2 c2 ⟨j', 0, []⟩ h') .nil))
theorem lz_fits {D p : Nat} (hD : D < 4294967296 ^ (p + 2)) (h1 : 4294967296 ^ (p + 1) ≤ D) : 32 - l32 (lm D (p + 1)) < 32 ∧ D * 2 ^ (32 - l32 (lm D (p + 1))) < 4294967296 ^ (p + 2) := by
  have ht : 1 ≤ lm D (p + 1) := by
    rw [lm_top (j := p + 1) hD]
    exact (Nat.le_div_iff_mul_le (pB _)).2 (by rw [Nat.one_mul]; exact h1)
  have hlt := lm_lt D (p + 1)
  have hp := l32_pos (n := lm D (p + 1)) (by omega) hlt
  have hle := l32_le hlt
  have hl := l32_lt hlt
  refine ⟨by omega, ?_⟩
  have hd : D < (lm D (p + 1) + 1) * 4294967296 ^ (p + 1) := by
    rw [lm_top (j := p + 1) hD, Nat.mul_comm]
    exact Nat.lt_mul_div_succ _ (pB _)
  have h2 : (lm D (p + 1) + 1) * 4294967296 ^ (p + 1) ≤ 2 ^ l32 (lm D (p + 1)) * 4294967296 ^ (p + 1) := Nat.mul_le_mul_right _ hl
  have h3 : D * 2 ^ (32 - l32 (lm D (p + 1))) < 2 ^ l32 (lm D (p + 1)) * 4294967296 ^ (p + 1) * 2 ^ (32 - l32 (lm D (p + 1))) :=
    Nat.mul_lt_mul_of_pos_right (by omega) (Nat.pow_pos (by omega))
  have e : 2 ^ l32 (lm D (p + 1)) * 4294967296 ^ (p + 1) * 2 ^ (32 - l32 (lm D (p + 1))) = 4294967296 ^ (p + 2) := by
    rw [Nat.mul_right_comm, ← Nat.pow_add, show l32 (lm D (p + 1)) + (32 - l32 (lm D (p + 1))) = 32 by omega, show p + 2 = p + 1 + 1 by omega, Nat.pow_succ 4294967296 (p + 1), Nat.mul_comm]
  omega
theorem spLz32_nat {n : Nat} (h : (n : Int) < 4294967296) : spLz32 [.int .u32 (n : Nat)] = some (.int .i64 ((32 - l32 n : Nat) : Int)) := by
  unfold spLz32
  simp only [Int.toNat_natCast]
  rw [if_pos ⟨Int.natCast_nonneg _, h⟩]
theorem lz_all {U D p lu : Nat} (hU : U < 4294967296 ^ lu) (hD : D < 4294967296 ^ (p + 2)) (hD1 : 4294967296 ^ (p + 1) ≤ D) (hmu : p + 2 ≤ lu) :
    32 - l32 (lm D (p + 1)) < 32 ∧ D * 2 ^ (32 - l32 (lm D (p + 1))) < 4294967296 ^ (p + 2) ∧ spLz32 [.int .u32 (lm D (p + 1) : Nat)] = some (.int .i64 ((32 - l32 (lm D (p + 1)) : Nat) : Int)) ∧
    LG (U * 2 ^ (32 - l32 (lm D (p + 1)))) (D * 2 ^ (32 - l32 (lm D (p + 1)))) p (lu + 1 - (p + 2)) (lu + 1) ∧
    U * 2 ^ (32 - l32 (lm D (p + 1))) / (D * 2 ^ (32 - l32 (lm D (p + 1)))) = U / D ∧
    U * 2 ^ (32 - l32 (lm D (p + 1))) % (D * 2 ^ (32 - l32 (lm D (p + 1)))) / 2 ^ (32 - l32 (lm D (p + 1))) = U % D := by
  obtain ⟨hs, hDs⟩ := lz_fits hD hD1
  refine ⟨hs, hDs, ?_, ?_⟩
  · exact spLz32_nat (lm_lt_int _ _)
  generalize 32 - l32 (lm D (p + 1)) = s at *
  have h2 : 0 < 2 ^ s := Nat.pow_pos (by omega)
  refine ⟨⟨hDs, Nat.le_trans hD1 (Nat.le_mul_of_pos_right _ h2), ?_, ?_⟩, Nat.mul_div_mul_right _ _ h2, by rw [Nat.mul_mod_mul_right, Nat.mul_div_cancel _ h2]⟩
  · have h1 : U * 2 ^ s < 4294967296 ^ lu * 2 ^ s := Nat.mul_lt_mul_of_pos_right hU h2
    have h3 : 4294967296 ^ lu * 2 ^ s = 4294967296 ^ (p + 1) * 2 ^ s * 4294967296 ^ (lu + 1 - (p + 2)) := by
      rw [Nat.mul_right_comm, ← Nat.pow_add, show p + 1 + (lu + 1 - (p + 2)) = lu by omega]
    rw [h3] at h1
    exact Nat.lt_of_lt_of_le h1 (Nat.mul_le_mul_right _ (Nat.mul_le_mul_right _ hD1))
  · rw [Nat.pow_succ]
    have : 2 ^ s ≤ 2 ^ 32 := Nat.pow_le_pow_right (by omega) (by omega)
    exact Nat.mul_lt_mul_of_lt_of_le hU this (by omega)
theorem bv_or64 {x c : Nat} (hx : x < 4294967296) (hc : c < 4294967296) : IntKind.u64.wrap ((BitVec.ofInt IntKind.u64.bits ((c * 2 ^ 32 : Nat) : Int) ||| BitVec.ofInt IntKind.u64.bits (x : Int)).toNat : Int) = ((w2 c x : Nat) : Int) := by
  unfold w2
  have h := or_u64 (x := x) (c := c) (s := 32) (by omega) (by omega)
  rw [BitVec.or_comm, h]; omega
set_option maxHeartbeats 4000000 in
theorem nlong_wp {h : Heap} {N ku ou lu cu kd od p cd s dtop Uv Dv K : Nat} {blkd : Blk}
    (hbd : hget h kd = some blkd) (hcell1 : blkd.cells[od + (p + 1)]? = some (.int .u32 (dtop : Nat)))
    (hz : spLz32 [.int .u32 (dtop : Nat)] = some (.int .i64 (s : Nat)))
    (hd : spShift [.slice (some ⟨kd, od, none⟩) (p + 2) cd, .int .i64 (s : Nat)] h = some (fun k => .slice (some ⟨k, 0, none⟩) (p + 2 + 1) (p + 2 + 1), ⟨118, 1, false, tb (p + 2 + 1) (lm Dv)⟩))
    (hu : ∀ x, spShift [.slice (some ⟨ku, ou, none⟩) lu cu, .int .i64 (s : Nat)] ((N + 0, x) :: h) = some (fun k => .slice (some ⟨k, 0, none⟩) (lu + 1) (lu + 1), ⟨118, 1, false, tb (lu + 1) (lm Uv)⟩))
    (hs : s < 32) (g : LG Uv Dv p K (lu + 1)) (hK : K + (p + 2) = lu + 1) (hmu : p + 2 ≤ lu) (hku : lu ≤ 8589934592) :
    wpI (mkEnv [(135, flat spLz32), (136, nwS spShift), (138, nwS spUnshift), (137, upS spTake)]) c114
      (Fin2 [.t 4, .t 5] (fun a b => .tuple ⟨[.slice (some ⟨a, 0, none⟩) K K, .slice (some ⟨b, 0, none⟩) (p + 2) (p + 2)]⟩) ⟨118, 1, false, tb K (lm (Uv / Dv))⟩ ⟨118, 1, false, tb (p + 2) (lm (Uv % Dv / 2 ^ s))⟩ h N)
      ⟨initT [.slice (some ⟨ku, ou, none⟩) lu cu, .slice (some ⟨kd, od, none⟩) (p + 2) cd], h, N + 0⟩ := by
  have e1 : IntKind.i64.wrap (((p + 2 : Nat) : Int) - 1) = ((p + 1 : Nat) : Int) := by rw [i64_in _ (by omega)]; omega
  have c1 : p + 1 < p + 2 := by omega
  have c2 : p + 2 ≤ p + 2 + 1 := by omega
  have c3 : p + 1 ≤ p + 2 := by omega
  have e7 : IntKind.i64.wrap (((lu + 1 : Nat) : Int) - ((p + 2 : Nat) : Int)) = (K : Int) := by rw [i64_in _ (by omega)]; omega
  have e8 : (if (K : Int) < 0 then (0 : Int) else (K : Int)) = (K : Int) := by rw [if_neg (by omega)]
  have e9 : p + 2 - 0 = p + 2 := rfl
  obtain ⟨top, htop⟩ : ∃ top, lm Dv (p + 1) = top := ⟨_, rfl⟩
  have ktop : (tb (p + 2 + 1) (lm Dv))[p + 1]? = some (.int .u32 (top : Nat)) := by rw [tb_get' (lm Dv) (show p + 1 < p + 2 + 1 by omega), htop]
  have e10 : 4 * (K : Int) ≤ 281474976710656 := by omega
  have e11 : (K : Int) ≤ 9223372036854775807 := by omega
  simp only [c114, G0, Nat.reduceAdd]
  simp only [↓R0, R1, simprocAttr, -Int.reduceAbs, e1, c1, c2, c3, hbd, hcell1, hz, nwS, hd, hu, mkSl, e7, e8, Nat.sub_zero, ktop, e9, e10, e11, tb_rep]
  clear hbd hcell1 hz hd hu e1 c3 e7 e8 e9 ktop e10 e11
  refine lp_parts (fun M tm hp nx => ∃ (i : Nat) (f : Nat → Nat), M + i = K ∧ tmget tm 0 = .slice (some ⟨N + 1, 0, none⟩) (lu + 1) (lu + 1) ∧ tmget tm 1 = .slice (some ⟨N + 0, 0, none⟩) (p + 2) (p + 2 + 1) ∧
      tmget tm 6 = .int .i64 s ∧ tmget tm 7 = .int .i64 (p + 2 : Nat) ∧ tmget tm 8 = .int .u32 top ∧ tmget tm 9 = .slice (some ⟨N + 2, 0, none⟩) K K ∧ tmget tm 45 = .int .i64 K ∧ tmget tm 46 = .int .i64 i ∧
      hget hp (N + 0) = some ⟨118, 1, false, tb (p + 2 + 1) (lm Dv)⟩ ∧ hget hp (N + 1) = some ⟨118, 1, false, tb (lu + 1) (lm (lgR Uv Dv M))⟩ ∧ hget hp (N + 2) = some ⟨118, 1, false, tb K f⟩ ∧
      (∀ j, M ≤ j → j < K → f j = lm (Uv / Dv) j) ∧ (∀ q, q < N → hget hp q = hget h q) ∧ nx = N + 3) ?_ K
    ⟨0, fun _ => 0, by omega, ?_, ?_, ?_, ?_, ?_, ?_, ?_, ?_, ?_, ?_, ?_, fun j hj hj2 => by omega, ?_, rfl⟩
  · intro M tm hp nx ⟨i, f, hM, h0, h1, h6, h7, h8, h9, h45, h46, hb0, hb1, hb2, hf, hh, hnx⟩
    subst hnx
    by_cases c4 : i < K
    · obtain ⟨k, rfl⟩ : ∃ k, M = k + 1 := ⟨M - 1, by omega⟩
      obtain ⟨t2, t1, t0, top', d2, qd, X, g1, g2, g3, g4, g5, g6, gX, b2, b1, b0, bt, bd, ht, bq, bX, hI0, hI1, hI2, hI3, hI4, hcells⟩ := lg_step2 g (show k < K by omega) (show k + (p + 2) < lu + 1 by omega)
      rw [htop] at g4
      subst g4
      have e1 : IntKind.i64.wrap ((K : Int) - 1) = ((K - 1 : Nat) : Int) := by rw [i64_in _ (by omega)]; omega
      have e2 : IntKind.i64.wrap (((K - 1 : Nat) : Int) - (i : Int)) = (k : Int) := by rw [i64_in _ (by omega)]; omega
      have e3 : IntKind.i64.wrap ((k : Int) + ((p + 2 : Nat) : Int)) = ((k + (p + 2) : Nat) : Int) := by rw [i64_in _ (by omega)]; omega
      have e4 : IntKind.i64.wrap (((k + (p + 2) : Nat) : Int) - 1) = ((k + (p + 1) : Nat) : Int) := by rw [i64_in _ (by omega)]; omega
      have e5 : IntKind.i64.wrap (((p + 2 : Nat) : Int) - 2) = (p : Int) := by rw [i64_in _ (by omega)]; omega
      have e6 : IntKind.i64.wrap (((k + (p + 2) : Nat) : Int) - 2) = ((k + p : Nat) : Int) := by rw [i64_in _ (by omega)]; omega
      have e7 : IntKind.i64.wrap (((k + (p + 2) : Nat) : Int) + 1) = ((k + (p + 2) + 1 : Nat) : Int) := by rw [i64_in _ (by omega)]; omega
      have e8 : IntKind.i64.wrap ((i : Int) + 1) = ((i + 1 : Nat) : Int) := by rw [i64_in _ (by omega)]; omega
      have k2 : (tb (lu + 1) (lm (lgR Uv Dv (k + 1))))[k + (p + 2)]? = some (.int .u32 (t2 : Nat)) := by rw [tb_get' _ (by omega), g1]
      have k1 : (tb (lu + 1) (lm (lgR Uv Dv (k + 1))))[k + (p + 1)]? = some (.int .u32 (t1 : Nat)) := by rw [tb_get' _ (by omega), g2]
      have k0 : (tb (lu + 1) (lm (lgR Uv Dv (k + 1))))[k + p]? = some (.int .u32 (t0 : Nat)) := by rw [tb_get' _ (by omega), g3]
      have kd2 : (tb (p + 2 + 1) (lm Dv))[p]? = some (.int .u32 (d2 : Nat)) := by rw [tb_get' _ (by omega), g5]
      have a1 : k + (p + 2) < lu + 1 := by omega
      have a2 : k + (p + 1) < lu + 1 := by omega
      have a3 : k + p < lu + 1 := by omega
      have a4 : p < p + 2 := by omega
      have a5 : k < K := by omega
      have a5' : k + 1 ≤ K := by omega
      have a6 : ¬ (lu + 1 = k) := by omega
      have a7 : k + (p + 2) + 1 ≤ lu + 1 := by omega
      have a8 : k + (p + 2) ≤ lu := by omega
      have a9 : k ≤ k + (p + 2) + 1 := by omega
      have a10 : k + (p + 2) + 1 - k = p + 2 + 1 := by omega
      have x2 := u64_nat (n := t2) (by omega)
      have x1 := u64_nat (n := t1) (by omega)
      have x0 := u64_nat (n := t0) (by omega)
      have xd := u64_nat (n := d2) (by omega)
      have xt := u64_nat (n := top) (by omega)
      have s2 : IntKind.u64.wrap ((t2 : Int) * 2 ^ min 32 IntKind.u64.bits) = ((t2 * 2 ^ 32 : Nat) : Int) := shl64 (c := t2) (s := 32) (by omega) (by omega)
      have o2 := bv_or64 b1 b2
      rw [gX] at o2
      clear g1 g2 g3 g5 gX
      have z1 : ¬ ((top : Int) = 0) := by omega
      have z2 : ¬ (top = 0) := by omega
      have q1 : (X : Int).tdiv (top : Int) = ((X / top : Nat) : Int) := by rw [Int.tdiv_eq_ediv_of_nonneg (by omega)]; rfl
      have q2 : (X : Int).tmod (top : Int) = ((X % top : Nat) : Int) := by rw [Int.tmod_eq_emod_of_nonneg (by omega)]; rfl
      have hml := Nat.mod_lt X (show top > 0 by omega)
      have q3 := u64_nat (n := X / top) (Nat.lt_of_le_of_lt (hI4 _ _ hI0) bX)
      have hr0 : X % top < 4294967296 := by omega
      simp only [↓R0, R1, simprocAttr, -Int.reduceAbs, h0, h1, h6, h7, h8, h9, h45, h46, hb0, hb1, hb2, c4, e1, e2, e3, e4, k2, k1, a1, a2, x2, x1, xt, s2, o2, z1, z2, q1, q2, q3]
      refine lp_parts (fun m2 tm hp nx => ∃ (r : Nat), LI X top qd m2 r ∧ r < 4294967296 ∧ tmget tm 0 = .slice (some ⟨N + 1, 0, none⟩) (lu + 1) (lu + 1) ∧ tmget tm 1 = .slice (some ⟨N + 0, 0, none⟩) (p + 2) (p + 2 + 1) ∧
        tmget tm 6 = .int .i64 s ∧ tmget tm 7 = .int .i64 (p + 2 : Nat) ∧ tmget tm 8 = .int .u32 top ∧ tmget tm 9 = .slice (some ⟨N + 2, 0, none⟩) K K ∧ tmget tm 45 = .int .i64 K ∧ tmget tm 46 = .int .i64 i ∧
        tmget tm 11 = .int .i64 k ∧ tmget tm 13 = .int .u64 m2 ∧ tmget tm 14 = .int .u64 r ∧
        hget hp (N + 0) = some ⟨118, 1, false, tb (p + 2 + 1) (lm Dv)⟩ ∧ hget hp (N + 1) = some ⟨118, 1, false, tb (lu + 1) (lm (lgR Uv Dv (k + 1)))⟩ ∧ hget hp (N + 2) = some ⟨118, 1, false, tb K f⟩ ∧
        (∀ q, q < N → hget hp q = hget h q) ∧ nx = N + 3) ?_ (X / top)
        ⟨X % top, hI0, hr0, ?_, ?_, ?_, ?_, ?_, ?_, ?_, ?_, ?_, ?_, ?_, hb0, hb1, hb2, hh, rfl⟩
      · clear h0 h1 h6 h7 h8 h9 h45 h46 hb0 hb1 hb2 hh q1 q2 q3 hml hr0 hI0
        clear tm hp
        intro q tm hp nx ⟨r, hI, hr, h0, h1, h6, h7, h8, h9, h45, h46, h11, h13, h14, hb0, hb1, hb2, hh, hnx⟩
        subst hnx
        have htake : ∀ q' : Nat, qd ≤ q' → q' ≤ qd + 1 → q' < 4294967296 → spTake [.slice (some ⟨N + 1, k, none⟩) (p + 2 + 1) (lu + 1 - k), .slice (some ⟨N + 0, 0, none⟩) (p + 2) (p + 2 + 1), .int .u32 (q' : Nat)] hp = some (.bool (Nat.beq q' (qd + 1)), N + 1, ⟨118, 1, false, tb (lu + 1) (lm (lgR Uv Dv k))⟩) := by
          intro q' l1 l2 l3
          obtain ⟨t1, t2⟩ := hcells q' l1 l2
          have hsh : shows hp (.slice (some ⟨N + 0, 0, none⟩) (p + 2) (p + 2 + 1)) = some (tb (p + 2) (lm Dv)) := by
            simp only [shows, hb0, tb_length, Nat.zero_add]
            rw [if_pos (by omega), List.drop_zero, tb_take _ (by omega)]
          unfold spTake
          simp only [hb1, hsh]
          rw [if_pos ⟨uok_lm _ _, uok_lm _ _, trivial, by rw [tb_length]; omega, by omega, by omega, by omega, by omega⟩]
          rw [Int.toNat_natCast, lg_ud g, lg_dv g, tb_length, t1, t2]
        by_cases c5 : q < 4294967296
        · have n1 : ¬ ((q : Int) > 4294967295) := by omega
          have hqd2 : q * d2 ≤ 4294967295 * 4294967295 := Nat.mul_le_mul (by omega) (by omega)
          have n2 : IntKind.u64.wrap ((q : Int) * (d2 : Int)) = ((q * d2 : Nat) : Int) := by rw [← Int.natCast_mul, u64_nat (by omega)]
          have n3 : IntKind.u64.wrap ((r : Int) * 2 ^ min 32 IntKind.u64.bits) = ((r * 2 ^ 32 : Nat) : Int) := shl64 (c := r) (s := 32) (by omega) (by omega)
          have n4 := bv_or64 b0 hr
          by_cases c7 : w2 r t0 < q * d2
          · have hcond : 4294967296 ≤ q ∨ w2 r t0 < q * d2 := .inr c7
            have n5 : ((q * d2 : Nat) : Int) > ((w2 r t0 : Nat) : Int) := by omega
            obtain ⟨y1, y2⟩ := hI1 q r hI hcond
            have hqX := hI4 q r hI
            have u1 : IntKind.u64.wrap ((q : Int) - 1) = ((q - 1 : Nat) : Int) := by rw [u64_in _ (by omega)]; omega
            have u2 : IntKind.u64.wrap ((r : Int) + (top : Int)) = ((r + top : Nat) : Int) := by rw [u64_in _ (by omega)]; omega
            by_cases c6 : r + top < 4294967296
            · have u3 : ¬ (((r + top : Nat) : Int) > 4294967295) := by omega
              simp only [↓R0, R1, simprocAttr, -Int.reduceAbs, h0, h1, h6, h7, h8, h9, h45, h46, h11, h13, h14, hb0, hb1, hb2, e5, e3, e6, a3, a4, k0, kd2, x0, xd, xt, u1, u2, u3, n1, n2, n3, n4, n5]
              exact ⟨q - 1, by omega, r + top, y2, c6, rfl, rfl, hh⟩
            · obtain ⟨f1', f2', f3⟩ := hI3 (q - 1) (r + top) y2 (by omega)
              have u3 : ((r + top : Nat) : Int) > 4294967295 := by omega
              simp only [↓R0, R1, simprocAttr, -Int.reduceAbs, h0, h1, h6, h7, h8, h9, h45, h46, h11, h13, h14, hb0, hb1, hb2, e5, e3, e6, a3, a4, k0, kd2, x0, xd, xt, u1, u2, u3, n1, n2, n3, n4, n5]
              have f1 := u32_nat f3
              have f4 := htake (q - 1) f1' f2' f3
              have f5 : IntKind.u32.wrap (qd : Int) = (qd : Int) := u32_nat bq
              by_cases fq : (q - 1) = qd + 1
              · have f6 : Nat.beq (q - 1) (qd + 1) = true := by rw [Nat.beq_eq]; exact fq
                have f7 : IntKind.u64.wrap ((((q - 1) : Nat) : Int) - 1) = (qd : Int) := by rw [u64_in _ (by omega)]; omega
                rw [f6] at f4
                simp only [↓R0, R1, simprocAttr, -Int.reduceAbs, h0, h1, h6, h7, h8, h9, h45, h46, h11, h13, h14, hb0, hb1, hb2, c4, e2, e3, e4, e5, e6, e7, e8, a4, a5, a5', a6, a7, a8, a9, a10, mkSl, upS, f1, f4, f5, f7, tb_length, tb_set, u3]
                refine ⟨k, by omega, i + 1, _, by omega, rfl, rfl, rfl, fun j hj hj2 => ?_, ?_⟩
                · by_cases gj : j = k
                  · rw [if_pos gj, gj, g6]
                  · rw [if_neg gj]; exact hf j (by omega) hj2
                · intro q hq
                  simp only [if_neg (show ¬ N + 2 = q by omega), if_neg (show ¬ N + 1 = q by omega)]
                  exact hh q hq
              · have f6 : Nat.beq (q - 1) (qd + 1) = false := by
                  cases hb : Nat.beq (q - 1) (qd + 1) with
                  | false => rfl
                  | true => rw [Nat.beq_eq] at hb; exact absurd hb fq
                have f8 : (q - 1) = qd := by omega
                rw [f6] at f4
                simp only [↓R0, R1, simprocAttr, -Int.reduceAbs, h0, h1, h6, h7, h8, h9, h45, h46, h11, h13, h14, hb0, hb1, hb2, c4, e2, e3, e4, e5, e6, e7, e8, a4, a5, a5', a6, a7, a8, a9, a10, mkSl, upS, f1, f4, tb_length, tb_set, u3]
                refine ⟨k, by omega, i + 1, _, by omega, rfl, rfl, rfl, fun j hj hj2 => ?_, ?_⟩
                · by_cases gj : j = k
                  · rw [if_pos gj, gj, g6, f8]
                  · rw [if_neg gj]; exact hf j (by omega) hj2
                · intro q hq
                  simp only [if_neg (show ¬ N + 2 = q by omega), if_neg (show ¬ N + 1 = q by omega)]
                  exact hh q hq
          · obtain ⟨f1', f2', f3⟩ := hI2 q r hI c5 (by omega)
            have n5 : ¬ (((q * d2 : Nat) : Int) > ((w2 r t0 : Nat) : Int)) := by omega
            simp only [↓R0, R1, simprocAttr, -Int.reduceAbs, h0, h1, h6, h7, h8, h9, h45, h46, h11, h13, h14, hb0, hb1, hb2, e5, e3, e6, a3, a4, k0, kd2, x0, xd, xt, n1, n2, n3, n4, n5]
            have f1 := u32_nat f3
            have f4 := htake q f1' f2' f3
            have f5 : IntKind.u32.wrap (qd : Int) = (qd : Int) := u32_nat bq
            by_cases fq : q = qd + 1
            · have f6 : Nat.beq q (qd + 1) = true := by rw [Nat.beq_eq]; exact fq
              have f7 : IntKind.u64.wrap (((q : Nat) : Int) - 1) = (qd : Int) := by rw [u64_in _ (by omega)]; omega
              rw [f6] at f4
              simp only [↓R0, R1, simprocAttr, -Int.reduceAbs, h0, h1, h6, h7, h8, h9, h45, h46, h11, h13, h14, hb0, hb1, hb2, c4, e2, e3, e4, e5, e6, e7, e8, a4, a5, a5', a6, a7, a8, a9, a10, mkSl, upS, f1, f4, f5, f7, tb_length, tb_set, n1]
              refine ⟨k, by omega, i + 1, _, by omega, rfl, rfl, rfl, fun j hj hj2 => ?_, ?_⟩
              · by_cases gj : j = k
                · rw [if_pos gj, gj, g6]
                · rw [if_neg gj]; exact hf j (by omega) hj2
              · intro q hq
                simp only [if_neg (show ¬ N + 2 = q by omega), if_neg (show ¬ N + 1 = q by omega)]
                exact hh q hq
            · have f6 : Nat.beq q (qd + 1) = false := by
                cases hb : Nat.beq q (qd + 1) with
                | false => rfl
                | true => rw [Nat.beq_eq] at hb; exact absurd hb fq
              have f8 : q = qd := by omega
              rw [f6] at f4
              simp only [↓R0, R1, simprocAttr, -Int.reduceAbs, h0, h1, h6, h7, h8, h9, h45, h46, h11, h13, h14, hb0, hb1, hb2, c4, e2, e3, e4, e5, e6, e7, e8, a4, a5, a5', a6, a7, a8, a9, a10, mkSl, upS, f1, f4, tb_length, tb_set, n1]
              refine ⟨k, by omega, i + 1, _, by omega, rfl, rfl, rfl, fun j hj hj2 => ?_, ?_⟩
              · by_cases gj : j = k
                · rw [if_pos gj, gj, g6, f8]
                · rw [if_neg gj]; exact hf j (by omega) hj2
              · intro q hq
                simp only [if_neg (show ¬ N + 2 = q by omega), if_neg (show ¬ N + 1 = q by omega)]
                exact hh q hq
        · have n1 : (q : Int) > 4294967295 := by omega
          have hcond : 4294967296 ≤ q ∨ w2 r t0 < q * d2 := .inl (by omega)
          obtain ⟨y1, y2⟩ := hI1 q r hI hcond
          have hqX := hI4 q r hI
          have u1 : IntKind.u64.wrap ((q : Int) - 1) = ((q - 1 : Nat) : Int) := by rw [u64_in _ (by omega)]; omega
          have u2 : IntKind.u64.wrap ((r : Int) + (top : Int)) = ((r + top : Nat) : Int) := by rw [u64_in _ (by omega)]; omega
          by_cases c6 : r + top < 4294967296
          · have u3 : ¬ (((r + top : Nat) : Int) > 4294967295) := by omega
            simp only [↓R0, R1, simprocAttr, -Int.reduceAbs, h0, h1, h6, h7, h8, h9, h45, h46, h11, h13, h14, hb0, hb1, hb2, e5, e3, e6, a3, a4, k0, kd2, x0, xd, xt, u1, u2, u3, n1]
            exact ⟨q - 1, by omega, r + top, y2, c6, rfl, rfl, hh⟩
          · obtain ⟨f1', f2', f3⟩ := hI3 (q - 1) (r + top) y2 (by omega)
            have u3 : ((r + top : Nat) : Int) > 4294967295 := by omega
            simp only [↓R0, R1, simprocAttr, -Int.reduceAbs, h0, h1, h6, h7, h8, h9, h45, h46, h11, h13, h14, hb0, hb1, hb2, e5, e3, e6, a3, a4, k0, kd2, x0, xd, xt, u1, u2, u3, n1]
            have f1 := u32_nat f3
            have f4 := htake (q - 1) f1' f2' f3
            have f5 : IntKind.u32.wrap (qd : Int) = (qd : Int) := u32_nat bq
            by_cases fq : (q - 1) = qd + 1
            · have f6 : Nat.beq (q - 1) (qd + 1) = true := by rw [Nat.beq_eq]; exact fq
              have f7 : IntKind.u64.wrap ((((q - 1) : Nat) : Int) - 1) = (qd : Int) := by rw [u64_in _ (by omega)]; omega
              rw [f6] at f4
              simp only [↓R0, R1, simprocAttr, -Int.reduceAbs, h0, h1, h6, h7, h8, h9, h45, h46, h11, h13, h14, hb0, hb1, hb2, c4, e2, e3, e4, e5, e6, e7, e8, a4, a5, a5', a6, a7, a8, a9, a10, mkSl, upS, f1, f4, f5, f7, tb_length, tb_set, u3]
              refine ⟨k, by omega, i + 1, _, by omega, rfl, rfl, rfl, fun j hj hj2 => ?_, ?_⟩
              · by_cases gj : j = k
                · rw [if_pos gj, gj, g6]
                · rw [if_neg gj]; exact hf j (by omega) hj2
              · intro q hq
                simp only [if_neg (show ¬ N + 2 = q by omega), if_neg (show ¬ N + 1 = q by omega)]
                exact hh q hq
            · have f6 : Nat.beq (q - 1) (qd + 1) = false := by
                cases hb : Nat.beq (q - 1) (qd + 1) with
                | false => rfl
                | true => rw [Nat.beq_eq] at hb; exact absurd hb fq
              have f8 : (q - 1) = qd := by omega
              rw [f6] at f4
              simp only [↓R0, R1, simprocAttr, -Int.reduceAbs, h0, h1, h6, h7, h8, h9, h45, h46, h11, h13, h14, hb0, hb1, hb2, c4, e2, e3, e4, e5, e6, e7, e8, a4, a5, a5', a6, a7, a8, a9, a10, mkSl, upS, f1, f4, tb_length, tb_set, u3]
              refine ⟨k, by omega, i + 1, _, by omega, rfl, rfl, rfl, fun j hj hj2 => ?_, ?_⟩
              · by_cases gj : j = k
                · rw [if_pos gj, gj, g6, f8]
                · rw [if_neg gj]; exact hf j (by omega) hj2
              · intro q hq
                simp only [if_neg (show ¬ N + 2 = q by omega), if_neg (show ¬ N + 1 = q by omega)]
                exact hh q hq
      · (first | (simp only [↓R0, R1, simprocAttr, -Int.reduceAbs, h0]; done) | (simp only [↓R0, R1, simprocAttr, -Int.reduceAbs, h0]; rfl) | rfl)
      · (first | (simp only [↓R0, R1, simprocAttr, -Int.reduceAbs, h1]; done) | (simp only [↓R0, R1, simprocAttr, -Int.reduceAbs, h1]; rfl) | rfl)
      · (first | (simp only [↓R0, R1, simprocAttr, -Int.reduceAbs, h6]; done) | (simp only [↓R0, R1, simprocAttr, -Int.reduceAbs, h6]; rfl) | rfl)
      · (first | (simp only [↓R0, R1, simprocAttr, -Int.reduceAbs, h7]; done) | (simp only [↓R0, R1, simprocAttr, -Int.reduceAbs, h7]; rfl) | rfl)
      · (first | (simp only [↓R0, R1, simprocAttr, -Int.reduceAbs, h8]; done) | (simp only [↓R0, R1, simprocAttr, -Int.reduceAbs, h8]; rfl) | rfl)
      · (first | (simp only [↓R0, R1, simprocAttr, -Int.reduceAbs, h9]; done) | (simp only [↓R0, R1, simprocAttr, -Int.reduceAbs, h9]; rfl) | rfl)
      · (first | (simp only [↓R0, R1, simprocAttr, -Int.reduceAbs, h45]; done) | (simp only [↓R0, R1, simprocAttr, -Int.reduceAbs, h45]; rfl) | rfl)
      · (first | (simp only [↓R0, R1, simprocAttr, -Int.reduceAbs, h46]; done) | (simp only [↓R0, R1, simprocAttr, -Int.reduceAbs, h46]; rfl) | rfl)
      · (first | (simp only [↓R0, R1, simprocAttr, -Int.reduceAbs]; done) | (simp only [↓R0, R1, simprocAttr, -Int.reduceAbs]; rfl) | rfl)
      · (first | (simp only [↓R0, R1, simprocAttr, -Int.reduceAbs]; done) | (simp only [↓R0, R1, simprocAttr, -Int.reduceAbs]; rfl) | rfl)
      · (first | (simp only [↓R0, R1, simprocAttr, -Int.reduceAbs]; done) | (simp only [↓R0, R1, simprocAttr, -Int.reduceAbs]; rfl) | rfl)
    · have ei : i = K := by omega
      have em : M = 0 := by omega
      subst em
      subst ei
      have hun : spUnshift [.slice (some ⟨N + 1, 0, none⟩) (p + 2) (lu + 1), .int .i64 (s : Nat)] hp = some (fun k => .slice (some ⟨k, 0, none⟩) (p + 2) (p + 2), ⟨118, 1, false, tb (p + 2) (lm (Uv % Dv / 2 ^ s))⟩) := by
        have hsh : shows hp (.slice (some ⟨N + 1, 0, none⟩) (p + 2) (lu + 1)) = some (tb (p + 2) (lm (lgR Uv Dv 0))) := by
          simp only [shows, hb1, tb_length, Nat.zero_add]
          rw [if_pos (by omega), List.drop_zero, tb_take _ (by omega)]
        unfold spUnshift
        simp only [hsh]
        rw [if_pos ⟨uok_lm _ _, by rw [tb_length]; omega, by omega, by omega⟩]
        rw [Int.toNat_natCast, lg_end g, tb_length]
      have htb : tb i f = tb i (lm (Uv / Dv)) := tb_congr fun j hj => hf j (by omega) hj
      have a6 : ¬ (lu + 1 = 0) := by omega
      have a7 : p + 2 ≤ lu + 1 := by omega
      have a8 : p + 1 ≤ lu := by omega
      have a9 : p + 2 - 0 = p + 2 := rfl
      have a10 : lu + 1 - 0 = lu + 1 := rfl
      simp only [↓R0, R1, simprocAttr, -Int.reduceAbs, h0, h1, h6, h7, h8, h9, h45, h46, hb0, hb1, hb2, c4, mkSl, a6, a7, a8, a9, a10, nwS, hun]
      refine ⟨trivial, _, N + 2, N + 3, false, false, rfl, ?_, by omega, by omega, by omega, ?_, ?_, ?_⟩
      · (first | (simp only [↓R0, R1, simprocAttr, -Int.reduceAbs, one]; done) | (simp only [↓R0, R1, simprocAttr, -Int.reduceAbs, one]; rfl) | rfl)
      · simp only [↓R0, R1, simprocAttr, -Int.reduceAbs, hb2, htb]
      · simp only [↓R0, R1, simprocAttr, -Int.reduceAbs]
      · intro q hq
        simp only [↓R0, R1, simprocAttr, -Int.reduceAbs, hget_new hq]
        exact hh q hq
  · (first | (simp only [↓R0, R1, simprocAttr, -Int.reduceAbs]; done) | (simp only [↓R0, R1, simprocAttr, -Int.reduceAbs]; rfl) | rfl)
  · (first | (simp only [↓R0, R1, simprocAttr, -Int.reduceAbs]; done) | (simp only [↓R0, R1, simprocAttr, -Int.reduceAbs]; rfl) | rfl)
  · (first | (simp only [↓R0, R1, simprocAttr, -Int.reduceAbs]; done) | (simp only [↓R0, R1, simprocAttr, -Int.reduceAbs]; rfl) | rfl)
  · (first | (simp only [↓R0, R1, simprocAttr, -Int.reduceAbs]; done) | (simp only [↓R0, R1, simprocAttr, -Int.reduceAbs]; rfl) | rfl)
  · (first | (simp only [↓R0, R1, simprocAttr, -Int.reduceAbs]; done) | (simp only [↓R0, R1, simprocAttr, -Int.reduceAbs]; rfl) | rfl)
  · (first | (simp only [↓R0, R1, simprocAttr, -Int.reduceAbs]; done) | (simp only [↓R0, R1, simprocAttr, -Int.reduceAbs]; rfl) | rfl)
  · (first | (simp only [↓R0, R1, simprocAttr, -Int.reduceAbs]; done) | (simp only [↓R0, R1, simprocAttr, -Int.reduceAbs]; rfl) | rfl)
  · (first | (simp only [↓R0, R1, simprocAttr, -Int.reduceAbs]; done) | (simp only [↓R0, R1, simprocAttr, -Int.reduceAbs]; rfl) | rfl)
  · (first | (simp only [↓R0, R1, simprocAttr, -Int.reduceAbs]; done) | (simp only [↓R0, R1, simprocAttr, -Int.reduceAbs]; rfl) | rfl)
  · (first | (simp only [↓R0, R1, simprocAttr, -Int.reduceAbs, lgR_top g]; done) | (simp only [↓R0, R1, simprocAttr, -Int.reduceAbs, lgR_top g]; rfl) | rfl)
  · (first | (simp only [↓R0, R1, simprocAttr, -Int.reduceAbs]; done) | (simp only [↓R0, R1, simprocAttr, -Int.reduceAbs]; rfl) | rfl)
  · intro q hq
    simp only [↓R0, R1, simprocAttr, -Int.reduceAbs, hget_new hq]
theorem ok_nlong : SpecOK Tryz.prog 114 (nw2S spLong) := by
  refine nw2_run (env_cons ok_lz32 (env_cons ok_nshift (env_cons ok_nunshift (env_cons ok_ntake (env_nil _))))) mixed tr114 ?_ ?_
  · intro args h h' v hle e
    unfold spLong at e ⊢
    split at e
    · split at e
      · rename_i us ds hcu hcd
        simp only [shows_mono hle hcu, shows_mono hle hcd]; exact e
      · cases e
    · cases e
  intro args vf b b' h N hG hN
  unfold spLong at hG
  split at hG
  case h_2 => cases hG
  rename_i _ vu vd
  split at hG
  case h_2 => cases hG
  rename_i us ds hcu hcd
  split at hG
  case isFalse => cases hG
  rename_i hl
  obtain ⟨huu, hud, hm2, hmu, hku, hD1⟩ := hl
  cases hG
  refine ⟨rfl, rfl, tb_base _ _, tb_base _ _, vr2_sl _ _ _ _, by simp, ?_⟩
  obtain ⟨ku, ou, lu, cu, blku, rfl, hbu, hleu, hcellu, hU, hlenu⟩ := shows_tb hcu huu
  obtain ⟨kd, od, m, cd, blkd, rfl, hbd, hled, hcelld, hD, hlend⟩ := shows_tb hcd hud
  have hku' := hN _ _ hbu
  have hkd' := hN _ _ hbd
  rw [hlenu] at hmu hku ⊢
  rw [hlend] at hm2 hmu hD1 ⊢
  obtain ⟨p, rfl⟩ : ∃ p, m = p + 2 := ⟨m - 2, by omega⟩
  rw [show p + 2 - 1 = p + 1 by omega] at hD1
  have hcell1 := hcelld (p + 1) (by omega)
  obtain ⟨hs, hDs, hz, g, hdiv, hmod⟩ := lz_all hU hD hD1 hmu
  generalize 32 - l32 (lm (ud ds) (p + 1)) = s at *
  have hd : spShift [.slice (some ⟨kd, od, none⟩) (p + 2) cd, .int .i64 (s : Nat)] h = some (fun k => .slice (some ⟨k, 0, none⟩) (p + 2 + 1) (p + 2 + 1), ⟨118, 1, false, tb (p + 2 + 1) (lm (ud ds * 2 ^ s))⟩) := by
    unfold spShift
    simp only [hcd]
    rw [if_pos ⟨hud, by rw [hlend]; omega, by omega, by omega⟩, Int.toNat_natCast, hlend]
  have hu : ∀ x, spShift [.slice (some ⟨ku, ou, none⟩) lu cu, .int .i64 (s : Nat)] ((N + 0, x) :: h) = some (fun k => .slice (some ⟨k, 0, none⟩) (lu + 1) (lu + 1), ⟨118, 1, false, tb (lu + 1) (lm (ud us * 2 ^ s))⟩) := by
    intro x
    unfold spShift
    simp only [shows_new hku', hcu]
    rw [if_pos ⟨huu, by rw [hlenu]; omega, by omega, by omega⟩, Int.toNat_natCast, hlenu]
  have := nlong_wp hbd hcell1 hz hd hu hs g (by omega) hmu hku
  rw [hdiv, hmod] at this
  exact this
end Go.Eng
end
section
set_option linter.unusedVariables false
set_option linter.unusedSimpArgs false
set_option linter.unusedSectionVars false
set_option maxRecDepth 4000
namespace Go.Eng
open Go Go.Proofs Go.IntWalk
def spNDiv : List Value → Option Value
  | [.string ⟨⟨l⟩⟩, .string ⟨⟨m⟩⟩] => if l.length ≤ 34359738368 ∧ m.length ≤ 34359738368 then
      (if nl m = 0 then some (.tuple ⟨[.string ⟨⟨[]⟩⟩, .string ⟨⟨[]⟩⟩, .bool false]⟩) else some (.tuple ⟨[.string ⟨⟨bl (nl l / nl m)⟩⟩, .string ⟨⟨bl (nl l % nl m)⟩⟩, .bool true]⟩)) else none
  | _ => none
def c68 : ICode :=
  (.seq (.reg [qq 4 (.mv (.c e0)), qq 5 (.mv (.c e0)), qq 6 (.mv (.c (.bool false)))]) (.seq (.reg [qq 12 (.mv (.t 1)), qq 13 (.call 110 [(.t 12)]), qq 7 (.mv (.t 13))]) (.seq (.block 0 (.seq (.reg [qq 15 (.mv (.t 7)), qq 16 (.lensl (.t 15)), qq 17 (.bin .eql (.t 16) (ci 0)), qq 14 (.mv (.t 17))]) (.cond (.t 14) (.seq (.reg [qq 4 (.mv (.c e0)), qq 5 (.mv (.c e0)), qq 6 (.mv (.c (.bool false)))]) .ret) (.seq (.reg [qq 19 (.mv (.t 0)), qq 20 (.mv (.t 1)), qq 21 (.call 111 [(.t 19), (.t 20)]), qq 22 (.bin .lss (.t 21) (ci 0)), qq 18 (.mv (.t 22))]) (.cond (.t 18) (.seq (.reg [qq 23 (.mv (.t 0)), qq 24 (.call 108 [(.t 23)]), qq 4 (.mv (.c e0)), qq 5 (.mv (.t 24)), qq 6 (.mv (.c (.bool true)))]) .ret) (.seq (.reg [qq 26 (.mv (.t 7)), qq 27 (.lensl (.t 26)), qq 28 (.bin .eql (.t 27) (ci 1)), qq 25 (.mv (.t 28))]) (.cond (.t 25) (.seq (.dreg [qu 30 (.mv (.t 0)), qu 31 (.call 110 [(.t 30)]), qu 32 (.mv (.t 7)), qu 33 (.ixsl 1 (.t 32) (ci 0)), qv 34 [1] (.load false 1 (.t 33)), qu 35 (.call 112 [(.t 31), (.t 34)]), qu 29 (.mv (.t 35)), qu 36 (.ext (.t 29) 0), qu 37 (.ext (.t 29) 1), qu 8 (.mv (.t 36)), qu 9 (.mv (.t 37))]) (.seq (.reg [qq 38 (.mv (.t 8)), qq 39 (.call 113 [(.t 38)]), qq 40 (.mv (.t 9)), qq 41 (.conv .u64 (.t 40)), qq 42 (.call 70 [(.t 41)]), qq 4 (.mv (.t 39)), qq 5 (.mv (.t 42)), qq 6 (.mv (.c (.bool true)))]) .ret)) .skip))))))) (.seq (.reg [qq 44 (.mv (.t 0)), qq 45 (.call 110 [(.t 44)]), qq 46 (.mv (.t 7)), qq 47 (.call 114 [(.t 45), (.t 46)]), qq 43 (.mv (.t 47)), qq 48 (.ext (.t 43) 0), qq 49 (.ext (.t 43) 1), qq 10 (.mv (.t 48)), qq 11 (.mv (.t 49))]) (.seq (.reg [qq 50 (.mv (.t 10)), qq 51 (.call 113 [(.t 50)]), qq 52 (.mv (.t 11)), qq 53 (.call 113 [(.t 52)]), qq 4 (.mv (.t 51)), qq 5 (.mv (.t 53)), qq 6 (.mv (.c (.bool true)))]) .ret)))))
theorem tr68 : trFun Tryz.prog 68 = some ⟨54, [.t 4, .t 5, .t 6], c68⟩ := by kernel_rfl
theorem lk_low {n : Nat} (h : n ≠ 0) : 4294967296 ^ (lk n - 1) ≤ n := by
  have h0 : lk n ≠ 0 := fun e => h (lk_zero.1 e)
  exact lk_top (k := lk n - 1) (by omega)
theorem lk_mono {a b : Nat} (h : a ≤ b) : lk a ≤ lk b := by
  have := bl_length_mono h
  unfold lk; omega
theorem short_at {h : Heap} {N a b : Nat} (hb0 : b ≠ 0) (hb1 : lk b = 1) (ha : lk a ≤ 8589934592) :
    spShort [.slice (some ⟨N + 1, 0, none⟩) (lk a) (lk a), .int .u32 (b : Nat)] ((N + 1, some ⟨118, 1, false, tb (lk a) (lm a)⟩) :: (N + 0, some ⟨118, 1, false, tb 1 (lm b)⟩) :: h) =
      some (fun k => .tuple ⟨[.slice (some ⟨k, 0, none⟩) (lk a) (lk a), .int .u32 (a % b : Nat)]⟩, ⟨118, 1, false, tb (lk a) (lm (a / b))⟩) := by
  have hb : b < 4294967296 := by have := lk_lt b; rw [hb1] at this; omega
  unfold spShort
  simp only [shows, hget, if_true, tb_length, Nat.zero_add, Nat.le_refl, List.drop_zero, tb_all]
  rw [if_pos ⟨uok_lm _ _, by omega, by omega, by omega⟩, Int.toNat_natCast, ud_tb, Nat.mod_eq_of_lt (lk_lt a)]
theorem long_at {h : Heap} {N a b : Nat} (hb1 : 2 ≤ lk b) (hab : b ≤ a) (ha : lk a ≤ 8589934592) :
    spLong [.slice (some ⟨N + 1, 0, none⟩) (lk a) (lk a), .slice (some ⟨N + 0, 0, none⟩) (lk b) (lk b)] ((N + 1, some ⟨118, 1, false, tb (lk a) (lm a)⟩) :: (N + 0, some ⟨118, 1, false, tb (lk b) (lm b)⟩) :: h) =
      some (fun x y => .tuple ⟨[.slice (some ⟨x, 0, none⟩) (lk a + 1 - lk b) (lk a + 1 - lk b), .slice (some ⟨y, 0, none⟩) (lk b) (lk b)]⟩, ⟨118, 1, false, tb (lk a + 1 - lk b) (lm (a / b))⟩, ⟨118, 1, false, tb (lk b) (lm (a % b))⟩) := by
  have hb0 : b ≠ 0 := fun e => by rw [lk_zero.2 e] at hb1; omega
  unfold spLong
  simp only [shows, hget, if_true, if_neg (show ¬ N + 1 = N + 0 by omega), tb_length, Nat.zero_add, Nat.le_refl, List.drop_zero, tb_all]
  have ea : ud (tb (lk a) (lm a)) = a := by rw [ud_tb, Nat.mod_eq_of_lt (lk_lt a)]
  have eb : ud (tb (lk b) (lm b)) = b := by rw [ud_tb, Nat.mod_eq_of_lt (lk_lt b)]
  rw [ea, eb, if_pos ⟨uok_lm _ _, uok_lm _ _, hb1, lk_mono hab, ha, lk_low hb0⟩]
theorem mag_quo {a b : Nat} (hb0 : b ≠ 0) (hab : b ≤ a) : a / b < 4294967296 ^ (lk a + 1 - lk b) := by
  have h1 := lk_low hb0
  have h2 := lk_lt a
  have h3 := lk_mono hab
  have h0 : lk b ≠ 0 := fun e => hb0 (lk_zero.1 e)
  refine (Nat.div_lt_iff_lt_mul (by omega)).2 ?_
  have e : 4294967296 ^ lk a = 4294967296 ^ (lk a + 1 - lk b) * 4294967296 ^ (lk b - 1) := by rw [← Nat.pow_add]; congr 1; omega
  rw [e] at h2
  exact Nat.lt_of_lt_of_le h2 (Nat.mul_le_mul_left _ h1)
set_option maxHeartbeats 1000000 in
theorem ok_nDiv : SpecOK Tryz.prog 68 (flat spNDiv) := by
  refine flat_run (env_cons ok_nlimbs (env_cons ok_nCmp (env_cons ok_nNorm (env_cons ok_nshort (env_cons ok_nmag (env_cons ok_nFU64 (env_cons ok_nlong (env_nil _)))))))) mixed tr68 ?_
  intro args v h N hG
  unfold spNDiv at hG
  split at hG
  case h_2 => cases hG
  rename_i l m
  split at hG
  case isFalse => cases hG
  rename_i hl
  obtain ⟨hl, hm⟩ := hl
  have hl' : l.length ≤ 1099511627776 := by omega
  have hm' : m.length ≤ 1099511627776 := by omega
  have hL : lk (nl l) ≤ 8589934592 := lk_len (Nat.le_trans (bl_length_nl l) (by omega))
  have hM : lk (nl m) ≤ 8589934592 := lk_len (Nat.le_trans (bl_length_nl m) (by omega))
  split at hG
  · rename_i h0
    cases hG
    refine ⟨rfl, by simp, ?_⟩
    have hk : lk 0 = 0 := lk_zero.2 rfl
    simp only [c68, G0, Nat.reduceAdd]
    simp only [↓R0, R1, simprocAttr, -Int.reduceAbs, nwS, spLimbs, hl', hm', h0, hk, Int.natCast_zero, Fin, isEnd, resL, res1, iE, rE]
    exact ⟨_, rfl, rfl, fun k hk => by simp only [ne_nb hk, if_false]⟩
  rename_i h0
  cases hG
  refine ⟨rfl, by simp, ?_⟩
  simp only [c68, G0, Nat.reduceAdd]
  generalize ha : nl l = a at *
  generalize hb : nl m = b at *
  have hk0 : ¬ (lk b = 0) := fun e => h0 (lk_zero.1 e)
  have hk0' : ¬ (((lk b : Nat) : Int) = 0) := by omega
  by_cases hlt : a < b
  · rw [Nat.div_eq_of_lt hlt, Nat.mod_eq_of_lt hlt, bl_zero]
    simp only [↓R0, R1, simprocAttr, -Int.reduceAbs, nwS, spLimbs, hl', hm', ha, hb, hk0, hk0', spNCmp, cmpN_neg, hlt, spNNorm, Fin, isEnd, resL, res1, iE, rE]
    exact ⟨_, rfl, rfl, fun k hk => by simp only [ne_nb hk, if_false]⟩
  by_cases hk1 : lk b = 1
  · have hb1 : b < 4294967296 := by have := lk_lt b; rw [hk1] at this; omega
    have t0 : (tb 1 (lm b))[0]? = some (.int .u32 (b : Nat)) := by rw [tb_get' _ (by omega), lm_zero, Nat.mod_eq_of_lt hb1]
    have hr := Nat.mod_lt a (show b > 0 by omega)
    have w1 := u64_nat (n := a % b) (by omega)
    have w2 : ((a % b : Nat) : Int) < 18446744073709551616 := by omega
    have hq : ud (tb (lk a) (lm (a / b))) = a / b := by rw [ud_tb, Nat.mod_eq_of_lt (Nat.lt_of_le_of_lt (Nat.div_le_self _ _) (lk_lt a))]
    have c5 : lk a ≤ 34359738368 := by omega
    have ss := fun h => short_at (h := h) (N := N) h0 hk1 hL
    simp only [↓R0, R1, simprocAttr, -Int.reduceAbs, nwS, spLimbs, hl', hm', ha, hb, hk0, hk0', spNCmp, cmpN_neg, hlt, hk1, t0, ss, rdS, spMag, shows, tb_all, uok_lm, tb_length, c5, hq, w1, w2, spFU64, Fin, isEnd, resL, res1, iE, rE]
    exact ⟨_, rfl, rfl, fun k hk => by simp only [ne_nb hk, if_false]⟩
  · have hk2 : 2 ≤ lk b := by omega
    have hk1' : ¬ (((lk b : Nat) : Int) = 1) := by omega
    have nn : ¬ (N = N + 1) := by omega
    have ss := fun h => long_at (h := h) (N := N) hk2 (show b ≤ a by omega) hL
    have hq : ud (tb (lk a + 1 - lk b) (lm (a / b))) = a / b := by rw [ud_tb, Nat.mod_eq_of_lt (mag_quo h0 (by omega))]
    have hr : ud (tb (lk b) (lm (a % b))) = a % b := by rw [ud_tb, Nat.mod_eq_of_lt (Nat.lt_trans (Nat.mod_lt a (by omega)) (lk_lt b))]
    have c5 : lk a + 1 - lk b ≤ 34359738368 := by omega
    have c6 : lk b ≤ 34359738368 := by omega
    simp only [↓R0, R1, simprocAttr, -Int.reduceAbs, nwS, spLimbs, hl', hm', ha, hb, hk0, hk0', spNCmp, cmpN_neg, hlt, hk1, hk1', nn, ss, nw2S, a_call2, rdS, spMag, shows, tb_all, uok_lm, tb_length, c5, c6, hq, hr, Fin, isEnd, resL, res1, iE, rE]
    exact ⟨_, rfl, rfl, fun k hk => by simp only [ne_nb hk, if_false]; rw [if_neg (by omega)]⟩
def spNGcd : List Value → Option Value
  | [.string ⟨⟨l⟩⟩, .string ⟨⟨m⟩⟩] => if l.length ≤ 34359738368 ∧ m.length ≤ 34359738368 then some (.string ⟨⟨bl (Nat.gcd (nl l) (nl m))⟩⟩) else none
  | _ => none
def c66 : ICode :=
  (.seq (.reg [qq 4 (.mv (.c e0))]) (.seq (.block 0 (.loop (.seq (.seq (.reg [qq 12 (.mv (.t 1)), qq 13 (.call 108 [(.t 12)]), qq 14 (.bin .neq (.t 13) (.c e0))]) (.cond (.t 14) .skip (.exit 0))) (.block 1 (.seq (.reg [qq 16 (.mv (.t 0)), qq 17 (.call 109 [(.t 16)]), qq 15 (.mv (.t 17)), qq 18 (.ext (.t 15) 0), qq 19 (.ext (.t 15) 1), qq 5 (.mv (.t 18)), qq 6 (.mv (.t 19))]) (.seq (.reg [qq 21 (.mv (.t 1)), qq 22 (.call 109 [(.t 21)]), qq 20 (.mv (.t 22)), qq 23 (.ext (.t 20) 0), qq 24 (.ext (.t 20) 1), qq 7 (.mv (.t 23)), qq 8 (.mv (.t 24))]) (.seq (.seq (.reg [qq 25 (.mv (.t 6)), qq 26 (.mv (.t 25)), ⟨(some 27), (some (26, true)), (.mv (.t 8))⟩, qq 28 (.pick (.t 26) (.t 27) (.c (.bool false)))]) (.cond (.t 28) (.seq (.block 2 (.loop (.seq (.seq (.reg [qq 29 (.mv (.t 7)), qq 30 (.bin .neq (.t 29) (.c (.int .u64 0)))]) (.cond (.t 30) .skip (.exit 2))) (.block 3 (.dreg [qu 31 (.mv (.t 7)), qu 32 (.mv (.t 5)), qu 33 (.mv (.t 7)), qu 34 (.bin .rem (.t 32) (.t 33)), qu 5 (.mv (.t 31)), qu 7 (.mv (.t 34))]))))) (.seq (.reg [qq 35 (.mv (.t 5)), qq 36 (.call 70 [(.t 35)]), qq 4 (.mv (.t 36))]) .ret)) .skip)) (.seq (.reg [qq 38 (.mv (.t 0)), qq 39 (.mv (.t 1)), qq 40 (.call 68 [(.t 38), (.t 39)]), qq 37 (.mv (.t 40)), qq 41 (.ext (.t 37) 0), qq 42 (.ext (.t 37) 1), qq 43 (.ext (.t 37) 2), qq 9 (.mv (.t 41)), qq 10 (.mv (.t 42)), qq 11 (.mv (.t 43))]) (.reg [qq 44 (.mv (.t 1)), qq 45 (.mv (.t 10)), qq 0 (.mv (.t 44)), qq 1 (.mv (.t 45))]))))))))) (.seq (.reg [qq 46 (.mv (.t 0)), qq 47 (.call 108 [(.t 46)]), qq 4 (.mv (.t 47))]) .ret)))
theorem tr66 : trFun Tryz.prog 66 = some ⟨48, [.t 4], c66⟩ := by kernel_rfl
theorem gcd_len {a b k : Nat} (hb : b ≠ 0) (h : (bl b).length ≤ k) : (bl (a % b)).length ≤ k :=
  Nat.le_trans (bl_length_mono (Nat.le_of_lt (Nat.mod_lt _ (by omega)))) h
set_option maxHeartbeats 1000000 in
theorem ok_nGcd : SpecOK Tryz.prog 66 (flat spNGcd) := by
  refine flat_run (env_cons ok_nNorm (env_cons ok_nU64 (env_cons ok_nFU64 (env_cons ok_nDiv (env_nil _))))) mixed tr66 ?_
  intro args v h N hG
  unfold spNGcd at hG
  split at hG
  case h_2 => cases hG
  rename_i l m
  split at hG
  case isFalse => cases hG
  rename_i hl
  obtain ⟨hl, hm⟩ := hl
  cases hG
  refine ⟨rfl, by simp, ?_⟩
  simp only [c66, G0, Nat.reduceAdd]
  simp only [↓R0, R1, simprocAttr, -Int.reduceAbs]
  refine lp_parts (fun n tm hp nx => ∃ (l' m' : List UInt8), n = nl m' ∧ tmget tm 0 = .string ⟨⟨l'⟩⟩ ∧ tmget tm 1 = .string ⟨⟨m'⟩⟩ ∧ l'.length ≤ 34359738368 ∧ m'.length ≤ 34359738368 ∧ Nat.gcd (nl l') (nl m') = Nat.gcd (nl l) (nl m) ∧
      hp = h ∧ nx = N + 0) ?_ (nl m) ⟨l, m, rfl, ?_, ?_, hl, hm, rfl, rfl, rfl⟩
  · intro n tm hp nx ⟨l', m', hn, h0, h1, hl1, hm1, hg, hh, hnx⟩
    rw [hnx, hh]
    clear hnx hh
    rw [← hg]
    have hl' : l'.length ≤ 1099511627776 := by omega
    have hm' : m'.length ≤ 1099511627776 := by omega
    by_cases hb0 : nl m' = 0
    · rw [hb0, Nat.gcd_zero_right]
      simp only [↓R0, R1, simprocAttr, -Int.reduceAbs, h0, h1, spNNorm, hl', hm', hb0, bl_zero, Fin, isEnd, resL, res1, iE, rE]
      exact ⟨_, rfl, rfl, fun k hk => by simp only [ne_nb hk, if_false]⟩
    · have hbn : ¬ (bl (nl m') = []) := fun e => hb0 (bl_eq_nil.1 e)
      by_cases hs : nl l' < 18446744073709551616 ∧ nl m' < 18446744073709551616
      · obtain ⟨hs1, hs2⟩ := hs
        simp only [↓R0, R1, simprocAttr, -Int.reduceAbs, h0, h1, spNNorm, hl', hm', hbn, spU64, hs1, hs2]
        generalize nl l' = a at *
        generalize nl m' = b at *
        refine lp_parts (fun n tm hp nx => ∃ (x : Nat), x < 18446744073709551616 ∧ n < 18446744073709551616 ∧ tmget tm 5 = .int .u64 x ∧ tmget tm 7 = .int .u64 n ∧ Nat.gcd x n = Nat.gcd a b ∧ hp = h ∧ nx = N + 0) ?_ b ⟨a, hs1, hs2, ?_, ?_, rfl, rfl, rfl⟩
        · clear h0 h1
          clear tm hp
          intro y tm hp nx ⟨x, hx, hy, h5, h7, hxy, hh, hnx⟩
          rw [hnx, hh]
          clear hnx hh
          by_cases y0 : y = 0
          · subst y0
            rw [Nat.gcd_zero_right] at hxy
            rw [← hxy]
            have f1 : ((x : Nat) : Int) < 18446744073709551616 := by omega
            simp only [↓R0, R1, simprocAttr, -Int.reduceAbs, h5, h7, spFU64, f1, Int.natCast_zero, Fin, isEnd, resL, res1, iE, rE]
            exact ⟨_, rfl, rfl, fun k hk => by simp only [ne_nb hk, if_false]⟩
          · have y1 : ¬ ((y : Int) = 0) := by omega
            have e1 : (x : Int).tmod (y : Int) = ((x % y : Nat) : Int) := by rw [Int.tmod_eq_emod_of_nonneg (by omega)]; rfl
            have hmod := Nat.mod_lt x (show y > 0 by omega)
            simp only [↓R0, R1, simprocAttr, -Int.reduceAbs, h5, h7, y0, y1, e1]
            refine ⟨x % y, hmod, y, hy, by omega, rfl, rfl, ?_⟩
            rw [← hxy, Nat.gcd_comm x y, Nat.gcd_rec y x, Nat.gcd_comm]
        · (first | (simp only [↓R0, R1, simprocAttr, -Int.reduceAbs]; done) | (simp only [↓R0, R1, simprocAttr, -Int.reduceAbs]; rfl) | rfl)
        · (first | (simp only [↓R0, R1, simprocAttr, -Int.reduceAbs]; done) | (simp only [↓R0, R1, simprocAttr, -Int.reduceAbs]; rfl) | rfl)
      · have next : ∃ n', n' < n ∧ n' = nl (bl (nl l' % nl m')) := ⟨_, by rw [nl_bl, hn]; exact Nat.mod_lt _ (by omega), rfl⟩
        have hgg : Nat.gcd (nl m') (nl (bl (nl l' % nl m'))) = Nat.gcd (nl l') (nl m') := by
          rw [nl_bl, Nat.gcd_comm (nl l') (nl m'), Nat.gcd_rec (nl m') (nl l'), Nat.gcd_comm]
        have hlen : (bl (nl l' % nl m')).length ≤ 34359738368 := gcd_len hb0 (Nat.le_trans (bl_length_nl m') hm1)
        obtain ⟨n', hn1, hn2⟩ := next
        by_cases hs1 : nl l' < 18446744073709551616
        · have hs2 : ¬ (nl m' < 18446744073709551616) := fun e => hs ⟨hs1, e⟩
          simp only [↓R0, R1, simprocAttr, -Int.reduceAbs, h0, h1, spNNorm, hl', hm', hbn, spU64, hs1, hs2, spNDiv, hl1, hm1, hb0]
          refine ⟨n', hn1, m', bl (nl l' % nl m'), hn2, rfl, rfl, hm1, hlen, hgg⟩
        · by_cases hs2 : nl m' < 18446744073709551616
          · have := hs
            simp only [↓R0, R1, simprocAttr, -Int.reduceAbs, h0, h1, spNNorm, hl', hm', hbn, spU64, hs1, hs2, spNDiv, hl1, hm1, hb0]
            refine ⟨n', hn1, m', bl (nl l' % nl m'), hn2, rfl, rfl, hm1, hlen, hgg⟩
          · have := hs
            simp only [↓R0, R1, simprocAttr, -Int.reduceAbs, h0, h1, spNNorm, hl', hm', hbn, spU64, hs1, hs2, spNDiv, hl1, hm1, hb0]
            refine ⟨n', hn1, m', bl (nl l' % nl m'), hn2, rfl, rfl, hm1, hlen, hgg⟩
  · (first | (simp only [↓R0, R1, simprocAttr, -Int.reduceAbs]; done) | (simp only [↓R0, R1, simprocAttr, -Int.reduceAbs]; rfl) | rfl)
  · (first | (simp only [↓R0, R1, simprocAttr, -Int.reduceAbs]; done) | (simp only [↓R0, R1, simprocAttr, -Int.reduceAbs]; rfl) | rfl)
end Go.Eng
end
section
set_option linter.unusedVariables false
set_option linter.unusedSimpArgs false
set_option linter.unusedSectionVars false
set_option maxRecDepth 4000
namespace Go.Eng
open Go Go.Proofs Go.IntWalk
def spIof : List Value → Option Value
  | [.bool s, .string ⟨⟨l⟩⟩] => if bl (nl l) = l then some (.agg ⟨iE (sv s l)⟩) else none
  | _ => none
def c69 : ICode :=
  (.seq (.reg [qq 4 (.alloc 23 2 [(.bool false), e0])]) (.seq (.reg [qq 5 (.mv (.t 0)), qq 6 (.mv (.t 5)), ⟨(some 7), (some (6, true)), (.mv (.t 1))⟩, ⟨(some 8), (some (6, true)), (.bin .neq (.t 7) (.c e0))⟩, qq 9 (.pick (.t 6) (.t 8) (.c (.bool false))), qq 10 (.mv (.t 1)), qq 11 (.build [(.bool false), e0] [(0, 1, (.t 9)), (1, 1, (.t 10))]), qn (.store 2 (.t 4) (.t 11))]) .ret))
theorem tr69 : trFun Tryz.prog 69 = some ⟨12, [.cell 4 true 2], c69⟩ := by kernel_rfl
theorem ok_iof : SpecOK Tryz.prog 69 (flat spIof) := by
  refine flat_run (env_nil _) mixed tr69 ?_
  intro args v h N hG
  unfold spIof at hG
  split at hG
  case h_2 => cases hG
  rename_i s l
  split at hG
  case isFalse => cases hG
  rename_i hl
  cases hG
  refine ⟨rfl, by simp, ?_⟩
  rw [iE_sv, hl]
  simp only [c69, G0, Nat.reduceAdd]
  cases s
  · simp only [↓R0, R1, simprocAttr, -Int.reduceAbs, Bool.false_and, Fin, isEnd, resL, res1, iE, rE]
    exact ⟨_, rfl, rfl, fun k hk => by simp only [ne_nb hk, if_false]⟩
  · simp only [↓R0, R1, simprocAttr, -Int.reduceAbs, Bool.true_and, Fin, isEnd, resL, res1, iE, rE]
    exact ⟨_, rfl, rfl, fun k hk => by simp only [ne_nb hk, if_false]⟩
def spINorm : List Value → Option Value
  | [.agg ⟨[.bool s, .string ⟨⟨l⟩⟩]⟩] => if l.length ≤ 1099511627776 then some (.agg ⟨iE (sv s l)⟩) else none
  | _ => none
def c78 : ICode :=
  (.seq (.reg [qq 1 (.box 23 2 (.t 0)), qq 2 (.alloc 23 2 [(.bool false), e0])]) (.seq (.dreg [qu 3 (.faddr 0 (.t 1)), qu 4 (.load false 1 (.t 3)), qu 5 (.faddr 1 (.t 1)), qu 6 (.load false 1 (.t 5)), qu 7 (.call 108 [(.t 6)]), qu 8 (.call 69 [(.t 4), (.t 7)]), qm (.store 2 (.t 2) (.t 8))]) .ret))
theorem tr78 : trFun Tryz.prog 78 = some ⟨9, [.cell 2 true 2], c78⟩ := by kernel_rfl
theorem sv_nl (s : Bool) (l : List UInt8) : sv s (bl (nl l)) = sv s l := by cases s <;> simp [sv, nl_bl]
theorem ok_iNorm : SpecOK Tryz.prog 78 (flat spINorm) := by
  refine flat_run (env_cons ok_iof (env_cons ok_nNorm (env_nil _))) mixed tr78 ?_
  intro args v h N hG
  unfold spINorm at hG
  split at hG
  case h_2 => cases hG
  rename_i s l
  split at hG
  case isFalse => cases hG
  rename_i hl
  cases hG
  refine ⟨rfl, by simp, ?_⟩
  simp only [c78, G0, Nat.reduceAdd]
  simp only [↓R0, R1, simprocAttr, -Int.reduceAbs, spNNorm, spIof, hl, nl_bl, sv_nl, Fin, isEnd, resL, res1, iE, rE]
  exact ⟨_, rfl, rfl, fun k hk => by simp only [ne_nb hk, if_false]⟩
def spISign : List Value → Option Value
  | [.agg ⟨[.bool s, .string ⟨⟨l⟩⟩]⟩] => if l.length ≤ 1099511627776 then some (.int .i64 (sv s l).sign) else none
  | _ => none
def c65 : ICode :=
  (.seq (.reg [qq 1 (.box 23 2 (.t 0)), qq 2 (.mv (ci 0))]) (.seq (.seq (.reg [qq 3 (.load true 2 (.t 1)), qq 4 (.call 78 [(.t 3)]), qn (.store 2 (.t 1) (.t 4))]) (.block 0 (.seq (.reg [qq 6 (.faddr 0 (.t 1)), qq 7 (.load false 1 (.t 6)), qq 5 (.mv (.t 7))]) (.cond (.t 5) (.seq (.reg [qq 2 (.mv (ci (-1)))]) .ret) (.seq (.reg [qq 9 (.faddr 1 (.t 1)), qq 10 (.load false 1 (.t 9)), qq 11 (.bin .neq (.t 10) (.c e0)), qq 8 (.mv (.t 11))]) (.cond (.t 8) (.seq (.reg [qq 2 (.mv (ci 1))]) .ret) .skip)))))) (.seq (.reg [qq 2 (.mv (ci 0))]) .ret)))
theorem tr65 : trFun Tryz.prog 65 = some ⟨12, [.t 2], c65⟩ := by kernel_rfl
theorem ok_iSign : SpecOK Tryz.prog 65 (flat spISign) := by
  refine flat_run (env_cons ok_iNorm (env_nil _)) mixed tr65 ?_
  intro args v h N hG
  unfold spISign at hG
  split at hG
  case h_2 => cases hG
  rename_i s l
  split at hG
  case isFalse => cases hG
  rename_i hl
  cases hG
  refine ⟨rfl, by simp, ?_⟩
  simp only [c65, G0, Nat.reduceAdd]
  simp only [↓R0, R1, simprocAttr, -Int.reduceAbs, spINorm, hl, iE]
  generalize sv s l = z
  rcases Int.lt_trichotomy z 0 with hz | hz | hz
  · rw [Int.sign_eq_neg_one_of_neg hz]
    simp only [↓R0, R1, simprocAttr, -Int.reduceAbs, hz, Fin, isEnd, resL, res1, iE, rE]
    exact ⟨_, rfl, rfl, fun k hk => by simp only [ne_nb hk, if_false]⟩
  · subst hz
    have z0 : bl (Int.natAbs 0) = [] := bl_zero
    simp only [↓R0, R1, simprocAttr, -Int.reduceAbs, z0, Int.lt_irrefl, Int.sign_zero, Fin, isEnd, resL, res1, iE, rE]
    exact ⟨_, rfl, rfl, fun k hk => by simp only [ne_nb hk, if_false]⟩
  · rw [Int.sign_eq_one_of_pos hz]
    have z1 : ¬ (z < 0) := by omega
    have z2 : ¬ (bl z.natAbs = []) := fun e => by have := bl_eq_nil.1 e; omega
    simp only [↓R0, R1, simprocAttr, -Int.reduceAbs, z1, z2, Fin, isEnd, resL, res1, iE, rE]
    exact ⟨_, rfl, rfl, fun k hk => by simp only [ne_nb hk, if_false]⟩
def spINeg : List Value → Option Value
  | [.agg ⟨[.bool s, .string ⟨⟨l⟩⟩]⟩] => if l.length ≤ 1099511627776 then some (.agg ⟨iE (- sv s l)⟩) else none
  | _ => none
def c97 : ICode :=
  (.seq (.reg [qq 1 (.box 23 2 (.t 0)), qq 2 (.alloc 23 2 [(.bool false), e0])]) (.seq (.reg [qq 3 (.load true 2 (.t 1)), qq 4 (.call 78 [(.t 3)]), qn (.store 2 (.t 1) (.t 4))]) (.seq (.reg [qq 5 (.faddr 0 (.t 1)), qq 6 (.load false 1 (.t 5)), qq 7 (.un .not (.t 6)), qq 8 (.faddr 1 (.t 1)), qq 9 (.load false 1 (.t 8)), qq 10 (.call 69 [(.t 7), (.t 9)]), qn (.store 2 (.t 2) (.t 10))]) .ret)))
theorem tr97 : trFun Tryz.prog 97 = some ⟨11, [.cell 2 true 2], c97⟩ := by kernel_rfl
theorem ok_iNeg : SpecOK Tryz.prog 97 (flat spINeg) := by
  refine flat_run (env_cons ok_iof (env_cons ok_iNorm (env_nil _))) mixed tr97 ?_
  intro args v h N hG
  unfold spINeg at hG
  split at hG
  case h_2 => cases hG
  rename_i s l
  split at hG
  case isFalse => cases hG
  rename_i hl
  cases hG
  refine ⟨rfl, by simp, ?_⟩
  have hz : sv (!decide (sv s l < 0)) (bl (sv s l).natAbs) = - sv s l := by rw [sv_neg, sv_can]
  simp only [c97, G0, Nat.reduceAdd]
  simp only [↓R0, R1, simprocAttr, -Int.reduceAbs, spINorm, spIof, hl, nl_bl, hz, Fin, isEnd, resL, res1, iE, rE]
  exact ⟨_, rfl, rfl, fun k hk => by simp only [ne_nb hk, if_false]⟩
def spIFrom : List Value → Option Value
  | [.int .i64 n] => if -9223372036854775808 ≤ n ∧ n ≤ 9223372036854775807 then some (.agg ⟨iE n⟩) else none
  | _ => none
def c26 : ICode :=
  (.seq (.reg [qq 2 (.alloc 23 2 [(.bool false), e0])]) (.seq (.seq (.reg [qq 3 (.mv (.t 0)), qq 4 (.bin .lss (.t 3) (ci 0))]) (.cond (.t 4) (.seq (.reg [qq 5 (.mv (.t 0)), qq 6 (.bin .add (.t 5) (ci 1)), qq 7 (.un .neg (.t 6)), qq 8 (.conv .u64 (.t 7)), qq 9 (.bin .add (.t 8) (.c (.int .u64 1))), qq 10 (.call 70 [(.t 9)]), qq 11 (.call 69 [(.c (.bool true)), (.t 10)]), qn (.store 2 (.t 2) (.t 11))]) .ret) .skip)) (.seq (.reg [qq 12 (.mv (.t 0)), qq 13 (.conv .u64 (.t 12)), qq 14 (.call 70 [(.t 13)]), qq 15 (.call 69 [(.c (.bool false)), (.t 14)]), qn (.store 2 (.t 2) (.t 15))]) .ret)))
theorem tr26 : trFun Tryz.prog 26 = some ⟨16, [.cell 2 true 2], c26⟩ := by kernel_rfl
theorem ok_iFrom : SpecOK Tryz.prog 26 (flat spIFrom) := by
  refine flat_run (env_cons ok_iof (env_cons ok_nFU64 (env_nil _))) mixed tr26 ?_
  intro args v h N hG
  unfold spIFrom at hG
  split at hG
  case h_2 => cases hG
  rename_i n
  split at hG
  case isFalse => cases hG
  rename_i hl
  cases hG
  refine ⟨rfl, by simp, ?_⟩
  simp only [c26, G0, Nat.reduceAdd]
  simp only [↓R0, R1, simprocAttr, -Int.reduceAbs]
  refine cd_case (fun hb => ?_) (fun hb => ?_)
  · have hn : n < 0 := by simpa using hb
    have hz : sv true (bl n.natAbs) = n := by rw [sv_true, nl_bl]; omega
    have e1 : IntKind.i64.wrap (n + 1) = n + 1 := by rw [i64_in _ (by omega)]
    have e2 : IntKind.i64.wrap (0 - (n + 1)) = (n.natAbs : Int) - 1 := by rw [i64_in _ (by omega)]; omega
    have e3 : IntKind.u64.wrap ((n.natAbs : Int) - 1) = (n.natAbs : Int) - 1 := by rw [u64_in _ (by omega)]
    have e4 : IntKind.u64.wrap ((n.natAbs : Int) - 1 + 1) = (n.natAbs : Int) := by rw [u64_in _ (by omega)]; omega
    have e5 : (n.natAbs : Int) < 18446744073709551616 := by omega
    simp only [↓R0, R1, simprocAttr, -Int.reduceAbs, e1, e2, e3, e4, e5, spFU64, spIof, nl_bl, hz, Fin, isEnd, resL, res1, iE, rE]
    exact ⟨_, rfl, rfl, fun k hk => by simp only [ne_nb hk, if_false]⟩
  · have hn : 0 ≤ n := by simpa using hb
    have hz : sv false (bl n.natAbs) = n := by rw [sv_false, nl_bl]; omega
    have e3 : IntKind.u64.wrap n = (n.natAbs : Int) := by rw [u64_in _ (by omega)]; omega
    have e5 : (n.natAbs : Int) < 18446744073709551616 := by omega
    simp only [↓R0, R1, simprocAttr, -Int.reduceAbs, e3, e5, spFU64, spIof, nl_bl, hz, Fin, isEnd, resL, res1, iE, rE]
    exact ⟨_, rfl, rfl, fun k hk => by simp only [ne_nb hk, if_false]⟩
def spIAdd : List Value → Option Value
  | [.agg ⟨[.bool s, .string ⟨⟨l⟩⟩]⟩, .agg ⟨[.bool t, .string ⟨⟨m⟩⟩]⟩] => if l.length ≤ 68719476736 ∧ m.length ≤ 68719476736 then some (.agg ⟨iE (sv s l + sv t m)⟩) else none
  | _ => none
def c34 : ICode :=
  (.seq (.reg [qq 2 (.box 23 2 (.t 0)), qq 3 (.box 23 2 (.t 1)), qq 4 (.alloc 23 2 [(.bool false), e0])]) (.seq (.dreg [qu 9 (.load true 2 (.t 2)), qu 10 (.call 78 [(.t 9)]), qv 11 [1] (.load true 2 (.t 3)), qu 12 (.call 78 [(.t 11)]), qm (.store 2 (.t 2) (.t 10)), qm (.store 2 (.t 3) (.t 12))]) (.seq (.seq (.reg [qq 13 (.faddr 0 (.t 2)), qq 14 (.load false 1 (.t 13)), qq 15 (.faddr 0 (.t 3)), qq 16 (.load false 1 (.t 15)), qq 17 (.eqb false (.t 14) (.t 16))]) (.cond (.t 17) (.seq (.dreg [qu 18 (.faddr 0 (.t 2)), qu 19 (.load false 1 (.t 18)), qu 20 (.faddr 1 (.t 2)), qu 21 (.load false 1 (.t 20)), qu 22 (.faddr 1 (.t 3)), qu 23 (.load false 1 (.t 22)), qu 24 (.call 79 [(.t 21), (.t 23)]), qu 25 (.call 69 [(.t 19), (.t 24)]), qm (.store 2 (.t 4) (.t 25))]) .ret) .skip)) (.seq (.seq (.reg [qq 27 (.faddr 1 (.t 2)), qq 28 (.load false 1 (.t 27)), qq 29 (.faddr 1 (.t 3)), qq 30 (.load false 1 (.t 29)), qq 31 (.call 80 [(.t 28), (.t 30)]), qq 26 (.mv (.t 31)), qq 32 (.ext (.t 26) 0), qq 33 (.ext (.t 26) 1), qq 5 (.mv (.t 32)), qq 6 (.mv (.t 33))]) (.seq (.reg [qq 34 (.mv (.t 6))]) (.cond (.t 34) (.seq (.reg [qq 35 (.faddr 0 (.t 2)), qq 36 (.load false 1 (.t 35)), qq 37 (.mv (.t 5)), qq 38 (.call 69 [(.t 36), (.t 37)]), qn (.store 2 (.t 4) (.t 38))]) .ret) .skip))) (.seq (.reg [qq 40 (.faddr 1 (.t 3)), qq 41 (.load false 1 (.t 40)), qq 42 (.faddr 1 (.t 2)), qq 43 (.load false 1 (.t 42)), qq 44 (.call 80 [(.t 41), (.t 43)]), qq 39 (.mv (.t 44)), qq 45 (.ext (.t 39) 0), qq 46 (.ext (.t 39) 1), qq 7 (.mv (.t 45)), qq 8 (.mv (.t 46))]) (.seq (.reg [qq 47 (.faddr 0 (.t 3)), qq 48 (.load false 1 (.t 47)), qq 49 (.mv (.t 7)), qq 50 (.call 69 [(.t 48), (.t 49)]), qn (.store 2 (.t 4) (.t 50))]) .ret))))))
theorem tr34 : trFun Tryz.prog 34 = some ⟨51, [.cell 4 true 2], c34⟩ := by kernel_rfl
theorem iadd_same {x y : Int} (h : decide (x < 0) = decide (y < 0)) : sv (decide (y < 0)) (bl (x.natAbs + y.natAbs)) = x + y := by
  rw [sv_bl]
  by_cases hx : x < 0
  · have hy : y < 0 := by simpa [hx] using h
    simp [hy]; omega
  · have hy : ¬ y < 0 := by simpa [hx] using h
    simp [hy]; omega
theorem iadd_diff {x y : Int} (h : ¬ decide (x < 0) = decide (y < 0)) :
    (x.natAbs < y.natAbs → sv (decide (y < 0)) (bl (y.natAbs - x.natAbs)) = x + y) ∧ (¬ x.natAbs < y.natAbs → sv (decide (x < 0)) (bl (x.natAbs - y.natAbs)) = x + y) := by
  rw [sv_bl, sv_bl]
  by_cases hx : x < 0
  · have hy : ¬ y < 0 := by simpa [hx] using h
    constructor
    · intro g; simp [hy]; omega
    · intro g; simp [hx]; omega
  · have hy : y < 0 := by simpa [hx] using h
    constructor
    · intro g; simp [hy]; omega
    · intro g; simp [hx]; omega
theorem ok_iAdd : SpecOK Tryz.prog 34 (flat spIAdd) := by
  refine flat_run (env_cons ok_iof (env_cons ok_iNorm (env_cons ok_nAdd (env_cons ok_nSub (env_nil _))))) mixed tr34 ?_
  intro args v h N hG
  unfold spIAdd at hG
  split at hG
  case h_2 => cases hG
  rename_i s l t m
  split at hG
  case isFalse => cases hG
  rename_i hl
  obtain ⟨hl, hm⟩ := hl
  cases hG
  refine ⟨rfl, by simp, ?_⟩
  have hl' : l.length ≤ 1099511627776 := by omega
  have hm' : m.length ≤ 1099511627776 := by omega
  have n1 := len_sv (s := s) hl
  have n2 := len_sv (s := t) hm
  simp only [c34, G0, Nat.reduceAdd]
  simp only [↓R0, R1, simprocAttr, -Int.reduceAbs, spINorm, hl', hm', iE]
  generalize sv s l = x at *
  generalize sv t m = y at *
  by_cases hst : decide (x < 0) = decide (y < 0)
  · have hz := iadd_same hst
    simp only [↓R0, R1, simprocAttr, -Int.reduceAbs, hst, spNAdd, n1, n2, nl_bl, spIof, hz, Fin, isEnd, resL, res1, iE, rE]
    exact ⟨_, rfl, rfl, fun k hk => by simp only [ne_nb hk, if_false]⟩
  · obtain ⟨d1, d2⟩ := iadd_diff hst
    by_cases hlt : x.natAbs < y.natAbs
    · have hlt2 : ¬ y.natAbs < x.natAbs := by omega
      have hz := d1 hlt
      simp only [↓R0, R1, simprocAttr, -Int.reduceAbs, hst, spNSub, n1, n2, nl_bl, hlt, hlt2, spIof, hz, Fin, isEnd, resL, res1, iE, rE]
      exact ⟨_, rfl, rfl, fun k hk => by simp only [ne_nb hk, if_false]⟩
    · have hz := d2 hlt
      simp only [↓R0, R1, simprocAttr, -Int.reduceAbs, hst, spNSub, n1, n2, nl_bl, hlt, spIof, hz, Fin, isEnd, resL, res1, iE, rE]
      exact ⟨_, rfl, rfl, fun k hk => by simp only [ne_nb hk, if_false]⟩
def spISub : List Value → Option Value
  | [.agg ⟨[.bool s, .string ⟨⟨l⟩⟩]⟩, .agg ⟨[.bool t, .string ⟨⟨m⟩⟩]⟩] => if l.length ≤ 68719476736 ∧ m.length ≤ 68719476736 then some (.agg ⟨iE (sv s l - sv t m)⟩) else none
  | _ => none
def c54 : ICode :=
  (.seq (.reg [qq 2 (.box 23 2 (.t 0)), qq 3 (.box 23 2 (.t 1)), qq 4 (.alloc 23 2 [(.bool false), e0])]) (.seq (.dreg [qu 5 (.load true 2 (.t 2)), qu 6 (.load true 2 (.t 3)), qu 7 (.call 97 [(.t 6)]), qu 8 (.call 34 [(.t 5), (.t 7)]), qm (.store 2 (.t 4) (.t 8))]) .ret))
theorem tr54 : trFun Tryz.prog 54 = some ⟨9, [.cell 4 true 2], c54⟩ := by kernel_rfl
theorem ok_iSub : SpecOK Tryz.prog 54 (flat spISub) := by
  refine flat_run (env_cons ok_iNeg (env_cons ok_iAdd (env_nil _))) mixed tr54 ?_
  intro args v h N hG
  unfold spISub at hG
  split at hG
  case h_2 => cases hG
  rename_i s l t m
  split at hG
  case isFalse => cases hG
  rename_i hl
  obtain ⟨hl, hm⟩ := hl
  cases hG
  refine ⟨rfl, by simp, ?_⟩
  have hm' : m.length ≤ 1099511627776 := by omega
  have n2 : (bl (-sv t m).natAbs).length ≤ 68719476736 := by rw [Int.natAbs_neg]; exact len_sv hm
  rw [Int.sub_eq_add_neg]
  simp only [c54, G0, Nat.reduceAdd]
  simp only [↓R0, R1, simprocAttr, -Int.reduceAbs, spINeg, spIAdd, hl, hm', n2, Fin, isEnd, resL, res1, iE, rE]
  exact ⟨_, rfl, rfl, fun k hk => by simp only [ne_nb hk, if_false]⟩
def spICmp : List Value → Option Value
  | [.agg ⟨[.bool s, .string ⟨⟨l⟩⟩]⟩, .agg ⟨[.bool t, .string ⟨⟨m⟩⟩]⟩] => if l.length ≤ 68719476736 ∧ m.length ≤ 68719476736 then some (.int .i64 (sv s l - sv t m).sign) else none
  | _ => none
def c76 : ICode :=
  (.seq (.reg [qq 2 (.box 23 2 (.t 0)), qq 3 (.box 23 2 (.t 1)), qq 4 (.mv (ci 0))]) (.seq (.reg [qq 5 (.load true 2 (.t 2)), qq 6 (.load true 2 (.t 3)), qq 7 (.call 54 [(.t 5), (.t 6)]), qq 8 (.call 65 [(.t 7)]), qq 4 (.mv (.t 8))]) .ret))
theorem tr76 : trFun Tryz.prog 76 = some ⟨9, [.t 4], c76⟩ := by kernel_rfl
theorem ok_iCmp : SpecOK Tryz.prog 76 (flat spICmp) := by
  refine flat_run (env_cons ok_iSub (env_cons ok_iSign (env_nil _))) mixed tr76 ?_
  intro args v h N hG
  unfold spICmp at hG
  split at hG
  case h_2 => cases hG
  rename_i s l t m
  split at hG
  case isFalse => cases hG
  rename_i hl
  obtain ⟨hl, hm⟩ := hl
  cases hG
  refine ⟨rfl, by simp, ?_⟩
  have n2 : (bl (-sv t m).natAbs).length ≤ 68719476736 := by rw [Int.natAbs_neg]; exact len_sv hm
  have n3 : (bl (sv s l - sv t m).natAbs).length ≤ 1099511627776 := by rw [Int.sub_eq_add_neg]; exact Nat.le_trans (len_add (len_sv hl) n2) (by omega)
  simp only [c76, G0, Nat.reduceAdd]
  simp only [↓R0, R1, simprocAttr, -Int.reduceAbs, spISub, spISign, hl, hm, n3, Fin, isEnd, resL, res1, iE, rE]
  exact ⟨_, rfl, rfl, fun k hk => by simp only [ne_nb hk, if_false]⟩
def spIMul : List Value → Option Value
  | [.agg ⟨[.bool s, .string ⟨⟨l⟩⟩]⟩, .agg ⟨[.bool t, .string ⟨⟨m⟩⟩]⟩] => if l.length ≤ 34359738368 ∧ m.length ≤ 34359738368 then some (.agg ⟨iE (sv s l * sv t m)⟩) else none
  | _ => none
def c35 : ICode :=
  (.seq (.reg [qq 2 (.box 23 2 (.t 0)), qq 3 (.box 23 2 (.t 1)), qq 4 (.alloc 23 2 [(.bool false), e0])]) (.seq (.dreg [qu 5 (.load true 2 (.t 2)), qu 6 (.call 78 [(.t 5)]), qv 7 [1] (.load true 2 (.t 3)), qu 8 (.call 78 [(.t 7)]), qm (.store 2 (.t 2) (.t 6)), qm (.store 2 (.t 3) (.t 8))]) (.seq (.dreg [qu 9 (.faddr 0 (.t 2)), qu 10 (.load false 1 (.t 9)), qu 11 (.faddr 0 (.t 3)), qu 12 (.load false 1 (.t 11)), qu 13 (.eqb true (.t 10) (.t 12)), qu 14 (.faddr 1 (.t 2)), qu 15 (.load false 1 (.t 14)), qu 16 (.faddr 1 (.t 3)), qu 17 (.load false 1 (.t 16)), qu 18 (.call 81 [(.t 15), (.t 17)]), qu 19 (.call 69 [(.t 13), (.t 18)]), qm (.store 2 (.t 4) (.t 19))]) .ret)))
theorem tr35 : trFun Tryz.prog 35 = some ⟨20, [.cell 4 true 2], c35⟩ := by kernel_rfl
theorem imul_sv (x y : Int) : sv (decide (¬ decide (x < 0) = decide (y < 0))) (bl (x.natAbs * y.natAbs)) = x * y := by
  have := sv_mul (decide (x < 0)) (decide (y < 0)) (bl x.natAbs) (bl y.natAbs)
  rw [sv_can, sv_can, nl_bl, nl_bl] at this
  exact this
theorem ok_iMul : SpecOK Tryz.prog 35 (flat spIMul) := by
  refine flat_run (env_cons ok_iof (env_cons ok_iNorm (env_cons ok_nMul (env_nil _)))) mixed tr35 ?_
  intro args v h N hG
  unfold spIMul at hG
  split at hG
  case h_2 => cases hG
  rename_i s l t m
  split at hG
  case isFalse => cases hG
  rename_i hl
  obtain ⟨hl, hm⟩ := hl
  cases hG
  refine ⟨rfl, by simp, ?_⟩
  have hl' : l.length ≤ 1099511627776 := by omega
  have hm' : m.length ≤ 1099511627776 := by omega
  have n1 := len_sv (s := s) hl
  have n2 := len_sv (s := t) hm
  have hz := imul_sv (sv s l) (sv t m)
  simp only [c35, G0, Nat.reduceAdd]
  simp only [↓R0, R1, simprocAttr, -Int.reduceAbs, spINorm, spNMul, spIof, hl', hm', n1, n2, nl_bl, hz, Fin, isEnd, resL, res1, iE, rE]
  exact ⟨_, rfl, rfl, fun k hk => by simp only [ne_nb hk, if_false]⟩
end Go.Eng
end
section
set_option linter.unusedVariables false
set_option linter.unusedSimpArgs false
set_option linter.unusedSectionVars false
set_option maxRecDepth 4000
namespace Go.Eng
open Go Go.Proofs Go.IntWalk
theorem idiv_all (x y : Int) (hy : y ≠ 0) :
    (¬ (x < 0 ∧ x.natAbs % y.natAbs ≠ 0) → sv (decide (¬ decide (x < 0) = decide (y < 0))) (bl (x.natAbs / y.natAbs)) = x / y ∧ sv false (bl (x.natAbs % y.natAbs)) = x % y) ∧
    (x < 0 → x.natAbs % y.natAbs ≠ 0 → sv (decide (¬ decide (x < 0) = decide (y < 0))) (bl (x.natAbs / y.natAbs + 1)) = x / y ∧ sv false (bl (y.natAbs - x.natAbs % y.natAbs)) = x % y) := by
  have hM0 : 0 < y.natAbs := by omega
  have hd := Nat.div_add_mod x.natAbs y.natAbs
  have hr := Nat.mod_lt x.natAbs hM0
  simp only [sv_bl]
  generalize x.natAbs / y.natAbs = q at *
  generalize x.natAbs % y.natAbs = r at *
  have hdi : (y.natAbs : Int) * (q : Int) + (r : Int) = (x.natAbs : Int) := by rw [← hd]; simp
  have uni : ∀ Q R : Int, R + y * Q = x → 0 ≤ R → R < (y.natAbs : Int) → Q = x / y ∧ R = x % y := fun Q R h1 h2 h3 => by
    rcases Int.lt_or_gt_of_ne hy with g | g
    · have := (Int.ediv_emod_unique' g (a := x) (r := R) (q := Q)).2 ⟨h1, h2, by omega⟩
      exact ⟨this.1.symm, this.2.symm⟩
    · have := (Int.ediv_emod_unique g (a := x) (r := R) (q := Q)).2 ⟨h1, h2, by omega⟩
      exact ⟨this.1.symm, this.2.symm⟩
  generalize hM : (y.natAbs : Int) = M at *
  have e1 : M * (-(q : Int)) = -(M * (q : Int)) := by rw [Int.mul_neg]
  have e2 : -M * (q : Int) = -(M * (q : Int)) := by rw [Int.neg_mul]
  have e3 : -M * (-(q : Int)) = (M * (q : Int)) := by rw [Int.neg_mul, Int.mul_neg]; simp
  have e4 : M * (-((q + 1 : Nat) : Int)) = -(M * (q : Int)) - M := by rw [Int.mul_neg, Int.natCast_add, Int.mul_add]; simp; omega
  have e5 : -M * (((q + 1 : Nat) : Int)) = -(M * (q : Int)) - M := by rw [Int.neg_mul, Int.natCast_add, Int.mul_add]; simp; omega
  by_cases hx : x < 0
  · by_cases hyn : y < 0
    · have hY : y = -M := by omega
      constructor
      · intro h
        have : r = 0 := by
          rcases Nat.eq_zero_or_pos r with e | e
          · exact e
          · exact absurd ⟨hx, by omega⟩ h
        simp only [hx, hyn, decide_true, not_true_eq_false, decide_false, Bool.false_eq_true, if_false]
        exact uni _ _ (by rw [hY, e2]; omega) (by omega) (by omega)
      · intro _ h
        simp only [hx, hyn, decide_true, not_true_eq_false, decide_false, Bool.false_eq_true, if_false]
        exact uni _ _ (by rw [hY, e5]; omega) (by omega) (by omega)
    · have hY : y = M := by omega
      constructor
      · intro h
        have : r = 0 := by
          rcases Nat.eq_zero_or_pos r with e | e
          · exact e
          · exact absurd ⟨hx, by omega⟩ h
        simp only [hx, hyn, decide_true, decide_false, reduceCtorEq, not_false_eq_true, if_true, Bool.false_eq_true, if_false]
        exact uni _ _ (by rw [hY, e1]; omega) (by omega) (by omega)
      · intro _ h
        simp only [hx, hyn, decide_true, decide_false, reduceCtorEq, not_false_eq_true, if_true, Bool.false_eq_true, if_false]
        exact uni _ _ (by rw [hY, e4]; omega) (by omega) (by omega)
  · by_cases hyn : y < 0
    · have hY : y = -M := by omega
      constructor
      · intro h
        simp only [hx, hyn, decide_true, decide_false, reduceCtorEq, not_false_eq_true, if_true, Bool.false_eq_true, if_false]
        exact uni _ _ (by rw [hY, e3]; omega) (by omega) (by omega)
      · intro h; exact absurd h hx
    · have hY : y = M := by omega
      constructor
      · intro h
        simp only [hx, hyn, decide_false, not_true_eq_false, Bool.false_eq_true, if_false]
        exact uni _ _ (by rw [hY]; omega) (by omega) (by omega)
      · intro h; exact absurd h hx
def spIDiv : List Value → Option Value
  | [.agg ⟨[.bool s, .string ⟨⟨l⟩⟩]⟩, .agg ⟨[.bool t, .string ⟨⟨m⟩⟩]⟩] => if l.length ≤ 34359738368 ∧ m.length ≤ 34359738368 then
      (if sv t m = 0 then some (.tuple ⟨[.agg ⟨[.bool false, .string ⟨⟨[]⟩⟩]⟩, .agg ⟨[.bool false, .string ⟨⟨[]⟩⟩]⟩, .bool false]⟩) else
        some (.tuple ⟨[.agg ⟨iE (sv s l / sv t m)⟩, .agg ⟨iE (sv s l % sv t m)⟩, .bool true]⟩)) else none
  | _ => none
def c121 : ICode :=
  (.seq (.reg [qq 2 (.box 23 2 (.t 0)), qq 3 (.box 23 2 (.t 1)), qq 4 (.alloc 23 2 [(.bool false), e0]), qq 5 (.alloc 23 2 [(.bool false), e0]), qq 6 (.mv (.c (.bool false)))]) (.seq (.dreg [qu 10 (.load true 2 (.t 2)), qu 11 (.call 78 [(.t 10)]), qv 12 [1] (.load true 2 (.t 3)), qu 13 (.call 78 [(.t 12)]), qm (.store 2 (.t 2) (.t 11)), qm (.store 2 (.t 3) (.t 13))]) (.seq (.reg [qq 15 (.faddr 1 (.t 2)), qq 16 (.load false 1 (.t 15)), qq 17 (.faddr 1 (.t 3)), qq 18 (.load false 1 (.t 17)), qq 19 (.call 68 [(.t 16), (.t 18)]), qq 14 (.mv (.t 19)), qq 20 (.ext (.t 14) 0), qq 21 (.ext (.t 14) 1), qq 22 (.ext (.t 14) 2), qq 7 (.mv (.t 20)), qq 8 (.mv (.t 21)), qq 9 (.mv (.t 22))]) (.seq (.seq (.reg [qq 23 (.mv (.t 9)), qq 24 (.un .not (.t 23))]) (.cond (.t 24) (.seq (.reg [qq 25 (.build [(.bool false), e0] []), qq 26 (.build [(.bool false), e0] []), qn (.store 2 (.t 4) (.t 25)), qn (.store 2 (.t 5) (.t 26)), qq 6 (.mv (.c (.bool false)))]) .ret) .skip)) (.seq (.seq (.reg [qq 27 (.faddr 0 (.t 2)), qq 28 (.load false 1 (.t 27)), qq 29 (.mv (.t 28)), ⟨(some 30), (some (29, true)), (.mv (.t 8))⟩, ⟨(some 31), (some (29, true)), (.bin .neq (.t 30) (.c e0))⟩, qq 32 (.pick (.t 29) (.t 31) (.c (.bool false)))]) (.cond (.t 32) (.seq (.reg [qq 33 (.mv (.t 7)), qq 34 (.call 70 [(.c (.int .u64 1))]), qq 35 (.call 79 [(.t 33), (.t 34)]), qq 7 (.mv (.t 35))]) (.reg [qq 37 (.faddr 1 (.t 3)), qq 38 (.load false 1 (.t 37)), qq 39 (.call 108 [(.t 38)]), qq 40 (.mv (.t 8)), qq 41 (.call 80 [(.t 39), (.t 40)]), qq 36 (.mv (.t 41)), qq 42 (.ext (.t 36) 0), qq 43 (.ext (.t 36) 1), qq 8 (.mv (.t 42))])) .skip)) (.seq (.reg [qq 44 (.faddr 0 (.t 2)), qq 45 (.load false 1 (.t 44)), qq 46 (.faddr 0 (.t 3)), qq 47 (.load false 1 (.t 46)), qq 48 (.eqb true (.t 45) (.t 47)), qq 49 (.mv (.t 7)), qq 50 (.call 69 [(.t 48), (.t 49)]), qq 51 (.mv (.t 8)), qq 52 (.call 69 [(.c (.bool false)), (.t 51)]), qn (.store 2 (.t 4) (.t 50)), qn (.store 2 (.t 5) (.t 52)), qq 6 (.mv (.c (.bool true)))]) .ret))))))
theorem tr121 : trFun Tryz.prog 121 = some ⟨53, [.cell 4 true 2, .cell 5 true 2, .t 6], c121⟩ := by kernel_rfl
set_option maxHeartbeats 1000000 in
theorem ok_iDiv : SpecOK Tryz.prog 121 (flat spIDiv) := by
  refine flat_run (env_cons ok_iof (env_cons ok_iNorm (env_cons ok_nDiv (env_cons ok_nFU64 (env_cons ok_nAdd (env_cons ok_nNorm (env_cons ok_nSub (env_nil _)))))))) mixed tr121 ?_
  intro args v h N hG
  unfold spIDiv at hG
  split at hG
  case h_2 => cases hG
  rename_i s l t m
  split at hG
  case isFalse => cases hG
  rename_i hl
  obtain ⟨hl, hm⟩ := hl
  have hl' : l.length ≤ 1099511627776 := by omega
  have hm' : m.length ≤ 1099511627776 := by omega
  have n1 := len_sv (s := s) hl
  have n2 := len_sv (s := t) hm
  split at hG
  · rename_i h0
    cases hG
    refine ⟨rfl, by simp, ?_⟩
    have z0 : (Int.natAbs 0) = 0 := rfl
    rw [h0] at n2
    simp only [c121, G0, Nat.reduceAdd]
    simp only [↓R0, R1, simprocAttr, -Int.reduceAbs, spINorm, hl', hm', h0, z0, spNDiv, nl_bl, bl_zero, n1, List.length_nil, Nat.zero_le, Bool.not_false, nl, Int.lt_irrefl, Fin, isEnd, resL, res1, iE, rE]
    exact ⟨_, rfl, rfl, fun k hk => by simp only [ne_nb hk, if_false]⟩
  rename_i h0
  cases hG
  refine ⟨rfl, by simp, ?_⟩
  simp only [c121, G0, Nat.reduceAdd]
  simp only [↓R0, R1, simprocAttr, -Int.reduceAbs, spINorm, hl', hm', iE]
  generalize sv s l = x at *
  generalize sv t m = y at *
  have y0 : ¬ (y.natAbs = 0) := by omega
  have hr := Nat.mod_lt x.natAbs (show y.natAbs > 0 by omega)
  have hr2 : ¬ (y.natAbs < x.natAbs % y.natAbs) := by omega
  obtain ⟨d1, d2⟩ := idiv_all x y h0
  have rl : (bl (x.natAbs % y.natAbs)).length ≤ 68719476736 := Nat.le_trans (bl_length_mono (Nat.le_of_lt hr)) (Nat.le_trans n2 (by omega))
  have ql : (bl (x.natAbs / y.natAbs)).length ≤ 68719476736 := Nat.le_trans (bl_length_mono (Nat.div_le_self _ _)) (Nat.le_trans n1 (by omega))
  have n2' : (bl y.natAbs).length ≤ 1099511627776 := by omega
  have n2'' : (bl y.natAbs).length ≤ 68719476736 := by omega
  have o1 : (bl 1).length ≤ 68719476736 := Nat.le_trans (bl_length_le (k := 1).2 (by decide)) (by omega)
  by_cases hx : x < 0
  · by_cases hr0 : x.natAbs % y.natAbs = 0
    · obtain ⟨z1, z2⟩ := d1 (fun e => e.2 hr0)
      rw [hr0] at z2
      simp only [hx, decide_true] at z1
      have b0 : bl 0 = [] := bl_zero
      have z2' : sv false [] = x % y := by rw [← z2, bl_zero]
      simp only [↓R0, R1, simprocAttr, -Int.reduceAbs, hx, spNDiv, n1, n2, nl_bl, y0, hr0, spIof, Bool.not_true, z1, b0, nl, z2', Fin, isEnd, resL, res1, iE, rE]
      exact ⟨_, rfl, rfl, fun k hk => by simp only [ne_nb hk, if_false]⟩
    · obtain ⟨z1, z2⟩ := d2 hx hr0
      simp only [hx, decide_true] at z1
      have hb0 : ¬ (bl (x.natAbs % y.natAbs) = []) := fun e => hr0 (bl_eq_nil.1 e)
      simp only [↓R0, R1, simprocAttr, -Int.reduceAbs, hx, spNDiv, n1, n2, nl_bl, y0, hb0, spIof, spFU64, o1, spNAdd, spNNorm, n2', n2'', spNSub, rl, ql, hr2, Bool.not_true, z1, z2, Fin, isEnd, resL, res1, iE, rE]
      exact ⟨_, rfl, rfl, fun k hk => by simp only [ne_nb hk, if_false]⟩
  · obtain ⟨z1, z2⟩ := d1 (fun e => hx e.1)
    simp only [hx, decide_false] at z1
    simp only [↓R0, R1, simprocAttr, -Int.reduceAbs, hx, spNDiv, n1, n2, nl_bl, y0, spIof, Bool.not_true, z1, z2, Fin, isEnd, resL, res1, iE, rE]
    exact ⟨_, rfl, rfl, fun k hk => by simp only [ne_nb hk, if_false]⟩
def spIGcd : List Value → Heap → Option Value
  | [.slice (some ⟨k, 0, none⟩) len _], h => match hget h k with
    | some blk => match ints blk.cells with
      | some zs => if len ≤ zs.length ∧ len ≤ 1000 ∧ (∀ z ∈ zs, z.2.length ≤ 34359738368) then some (.agg ⟨iE (gcds (zs.take len) : Int)⟩) else none
      | none => none
    | none => none
  | _, _ => none
theorem take2 {cells : List Value} {k : Nat} {a b : Value} (ha : cells[k]? = some a) (hb : cells[k + 1]? = some b) : (cells.drop k).take 2 = [a, b] ∧ k + 2 ≤ cells.length := by
  have h1 := (List.getElem?_eq_some_iff.1 ha)
  have h2 := (List.getElem?_eq_some_iff.1 hb)
  obtain ⟨h1, e1⟩ := h1
  obtain ⟨h2, e2⟩ := h2
  refine ⟨?_, by omega⟩
  rw [List.drop_eq_getElem_cons h1, List.drop_eq_getElem_cons h2, e1, e2]
  rfl
def c120 : ICode :=
  (.seq (.reg [qq 2 (.alloc 23 2 [(.bool false), e0])]) (.seq (.reg [qq 3 (.mv (.c e0))]) (.seq (.seq (.reg [qq 6 (.mv (.t 0)), qq 7 (.lensl (.t 6)), qq 8 (.mv (ci 0))]) (.block 0 (.loop (.seq (.reg [qq 9 (.bin .lss (.t 8) (.t 7))]) (.seq (.cond (.t 9) .skip (.exit 0)) (.seq (.block 1 (.seq (.reg [qq 10 (.ixsl 2 (.t 6) (.t 8)), qq 11 (.load true 2 (.t 10)), qq 5 (.alloc 23 2 [(.bool false), e0]), qn (.store 2 (.t 5) (.t 11))]) (.reg [qq 12 (.mv (.t 3)), qq 13 (.faddr 1 (.t 5)), qq 14 (.load false 1 (.t 13)), qq 15 (.call 66 [(.t 12), (.t 14)]), qq 3 (.mv (.t 15))]))) (.reg [qq 16 (.bin .add (.t 8) (ci 1)), qq 8 (.mv (.t 16))]))))))) (.seq (.reg [qq 17 (.mv (.t 3)), qq 18 (.call 69 [(.c (.bool false)), (.t 17)]), qn (.store 2 (.t 2) (.t 18))]) .ret))))
theorem tr120 : trFun Tryz.prog 120 = some ⟨19, [.cell 2 true 2], c120⟩ := by kernel_rfl
theorem ok_iGcd : SpecOK Tryz.prog 120 (rdS spIGcd) := by
  refine rd_run (env_cons ok_iof (env_cons ok_nGcd (env_nil _))) mixed tr120 ?_ ?_
  · intro args h h' v hle e
    unfold spIGcd at e ⊢
    split at e
    · rename_i k len c
      split at e
      · rename_i blk hb
        simp only [hle _ _ hb]; exact e
      · cases e
    · cases e
  intro args v h N hG hN
  unfold spIGcd at hG
  split at hG
  case h_2 => cases hG
  rename_i k len c
  split at hG
  case h_2 => cases hG
  rename_i blk hb
  split at hG
  case h_2 => cases hG
  rename_i zs hz
  split at hG
  case isFalse => cases hG
  rename_i hl
  obtain ⟨hl1, hl2, hl3⟩ := hl
  cases hG
  have hk := hN _ _ hb
  refine ⟨rfl, by simp, ?_⟩
  simp only [c120, G0, Nat.reduceAdd]
  simp only [↓R0, R1, simprocAttr, -Int.reduceAbs]
  refine lp_parts (fun n tm hp nx => ∃ (i : Nat), n + i = len ∧ tmget tm 6 = .slice (some ⟨k, 0, none⟩) len c ∧ tmget tm 7 = .int .i64 len ∧ tmget tm 8 = .int .i64 i ∧ tmget tm 3 = .string ⟨⟨bl (gcds (zs.take i))⟩⟩ ∧
      tmget tm 2 = .pointer (some ⟨N + 0, 0, none⟩) ∧ hget hp (N + 0) = some ⟨23, 2, true, [.bool false, .string ⟨⟨[]⟩⟩]⟩ ∧ (∀ q, q < N → hget hp q = hget h q) ∧ nx = N + (i + 1) ∧ (bl (gcds (zs.take i))).length ≤ 34359738368) ?_ len
    ⟨0, by omega, ?_, ?_, ?_, ?_, ?_, ?_, ?_, rfl, ?_⟩
  · intro n tm hp nx ⟨i, hn, t6, t7, t8, t3, t2, hb2, hh, hnx, hg⟩
    subst hnx
    by_cases c1 : i < len
    · obtain ⟨⟨s, l⟩, hi⟩ : ∃ z, zs[i]? = some z := ⟨_, List.getElem?_eq_getElem (by omega)⟩
      obtain ⟨g1, g2⟩ := ints_get zs hz i s l hi
      obtain ⟨g3, g4⟩ := take2 g1 g2
      have hbb : hget hp k = some blk := by rw [hh k hk]; exact hb
      have hll : l.length ≤ 34359738368 := hl3 (s, l) (List.mem_of_getElem? hi)
      have e1 : IntKind.i64.wrap ((i : Int) + 1) = ((i + 1 : Nat) : Int) := by rw [i64_in _ (by omega)]; omega
      have hne : ¬ (N + (i + 1) = k) := by omega
      have hgs : gcds (zs.take (i + 1)) = Nat.gcd (gcds (zs.take i)) (nl l) := by
        unfold gcds; rw [List.take_add_one, hi]; simp
      simp only [↓R0, R1, simprocAttr, -Int.reduceAbs, t6, t7, t8, t3, t2, c1, hne, hbb, g3, g4, e1, spNGcd, hg, hll, nl_bl]
      refine ⟨n - 1, by omega, i + 1, by omega, rfl, ?_, ?_, ?_, rfl, ?_⟩
      · rw [hgs]
      · first | exact hb2 | (rw [if_neg (by omega)]; exact hb2)
      · intro q hq
        simp only [if_neg (show ¬ N + (i + 1) = q by omega)]
        exact hh q hq
      · rw [hgs]
        rcases Nat.eq_zero_or_pos (nl l) with e | e
        · rw [e, Nat.gcd_zero_right]; exact hg
        · exact Nat.le_trans (bl_length_mono (Nat.gcd_le_right _ e)) (Nat.le_trans (bl_length_nl l) hll)
    · have ei : i = len := by omega
      subst ei
      have hz2 : sv false (bl (gcds (zs.take i))) = (gcds (zs.take i) : Int) := by rw [sv_false, nl_bl]
      simp only [↓R0, R1, simprocAttr, -Int.reduceAbs, t6, t7, t8, t3, t2, hb2, c1, spIof, nl_bl, hz2, Fin, isEnd, resL, res1, iE, rE]
      first | exact ⟨_, rfl, rfl, hh⟩ | exact ⟨_, rfl, rfl, fun k hk => by simp only [ne_nb hk, if_false]; exact hh k hk⟩
  · (first | (simp only [↓R0, R1, simprocAttr, -Int.reduceAbs]; done) | (simp only [↓R0, R1, simprocAttr, -Int.reduceAbs]; rfl) | rfl)
  · (first | (simp only [↓R0, R1, simprocAttr, -Int.reduceAbs]; done) | (simp only [↓R0, R1, simprocAttr, -Int.reduceAbs]; rfl) | rfl)
  · (first | (simp only [↓R0, R1, simprocAttr, -Int.reduceAbs]; done) | (simp only [↓R0, R1, simprocAttr, -Int.reduceAbs]; rfl) | rfl)
  · (first | (simp only [↓R0, R1, simprocAttr, -Int.reduceAbs, gcds, List.foldl_nil, bl_zero]; done) | (simp only [↓R0, R1, simprocAttr, -Int.reduceAbs, gcds, List.foldl_nil, bl_zero]; rfl) | rfl)
  · (first | (simp only [↓R0, R1, simprocAttr, -Int.reduceAbs]; done) | (simp only [↓R0, R1, simprocAttr, -Int.reduceAbs]; rfl) | rfl)
  · (first | (simp only [↓R0, R1, simprocAttr, -Int.reduceAbs]; done) | (simp only [↓R0, R1, simprocAttr, -Int.reduceAbs]; rfl) | rfl)
  · intro q hq
    simp only [↓R0, R1, simprocAttr, -Int.reduceAbs, hget_new hq]
  · simp [gcds, bl_zero]
end Go.Eng
end
section
set_option linter.unusedVariables false
set_option linter.unusedSimpArgs false
set_option linter.unusedSectionVars false
set_option maxRecDepth 4000
namespace Go.Eng
open Go Go.Proofs Go.IntWalk
def spPNorm : List Value → Option Value
  | [.agg ⟨[.bool s1, .string ⟨⟨l1⟩⟩, .bool s2, .string ⟨⟨l2⟩⟩, .bool s3, .string ⟨⟨l3⟩⟩, .bool s4, .string ⟨⟨l4⟩⟩]⟩] =>
    if l1.length ≤ 34359738368 ∧ l2.length ≤ 34359738368 ∧ l3.length ≤ 34359738368 ∧ l4.length ≤ 34359738368 then some (.agg ⟨pE (sv s1 l1) (sv s2 l2) (sv s3 l3) (sv s4 l4)⟩) else none
  | _ => none
def c75 : ICode :=
  (.seq (.reg [qq 1 (.box 30 8 (.t 0)), qq 2 (.alloc 30 8 [(.bool false), e0, (.bool false), e0, (.bool false), e0, (.bool false), e0])]) (.seq (.dreg [qu 8 (.faddr 0 (.t 1)), qu 9 (.load true 2 (.t 8)), qu 10 (.call 78 [(.t 9)]), qu 11 (.faddr 2 (.t 1)), qv 12 [2] (.load true 2 (.t 11)), qu 13 (.call 78 [(.t 12)]), qu 14 (.faddr 4 (.t 1)), qv 15 [2, 5] (.load true 2 (.t 14)), qu 16 (.call 78 [(.t 15)]), qu 17 (.faddr 6 (.t 1)), qv 18 [2, 5, 8] (.load true 2 (.t 17)), qu 19 (.call 78 [(.t 18)]), qu 20 (.build [(.bool false), e0, (.bool false), e0, (.bool false), e0, (.bool false), e0] [(0, 2, (.t 10)), (2, 2, (.t 13)), (4, 2, (.t 16)), (6, 2, (.t 19))]), qu 3 (.alloc 108 8 [(.bool false), e0, (.bool false), e0, (.bool false), e0, (.bool false), e0]), qm (.store 8 (.t 3) (.t 20))]) (.seq (.seq (.reg [qq 21 (.ixarr 4 2 (.t 3) (ci 3)), qq 22 (.load true 2 (.t 21)), qq 23 (.call 65 [(.t 22)]), qq 24 (.bin .eql (.t 23) (ci 0))]) (.cond (.t 24) (.reg [qq 25 (.call 26 [(ci 1)]), qq 26 (.ixarr 4 2 (.t 3) (ci 3)), qn (.store 2 (.t 26) (.t 25))]) .skip)) (.seq (.reg [qq 27 (.slarr 4 2 (.t 3) none none), qq 28 (.call 120 [(.t 27)]), qq 4 (.alloc 23 2 [(.bool false), e0]), qn (.store 2 (.t 4) (.t 28))]) (.seq (.reg [qq 29 (.ixarr 4 2 (.t 3) (ci 3)), qq 30 (.load true 2 (.t 29)), qq 31 (.call 65 [(.t 30)]), qq 32 (.bin .lss (.t 31) (ci 0)), qq 5 (.mv (.t 32))]) (.seq (.seq (.reg [qq 33 (.load true 8 (.t 3)), qq 34 (.mv (ci 0))]) (.block 0 (.loop (.seq (.reg [qq 35 (.bin .lss (.t 34) (ci 4))]) (.seq (.cond (.t 35) .skip (.exit 0)) (.seq (.block 1 (.seq (.reg [qq 36 (.mv (.t 34)), qq 37 (.idarr 4 true 2 (.t 33) (.t 34)), qq 7 (.alloc 23 2 [(.bool false), e0]), qq 6 (.mv (.t 36)), qn (.store 2 (.t 7) (.t 37))]) (.seq (.reg [qq 39 (.load true 2 (.t 7)), qq 40 (.load true 2 (.t 4)), qq 41 (.call 121 [(.t 39), (.t 40)]), qq 38 (.mv (.t 41)), qq 42 (.ext (.t 38) 0), qq 43 (.ext (.t 38) 1), qq 44 (.ext (.t 38) 2), qn (.store 2 (.t 7) (.t 42))]) (.seq (.seq (.reg [qq 45 (.mv (.t 5))]) (.cond (.t 45) (.reg [qq 46 (.load true 2 (.t 7)), qq 47 (.call 97 [(.t 46)]), qn (.store 2 (.t 7) (.t 47))]) .skip)) (.reg [qq 48 (.mv (.t 6)), qq 49 (.load true 2 (.t 7)), qq 50 (.ixarr 4 2 (.t 3) (.t 48)), qn (.store 2 (.t 50) (.t 49))]))))) (.reg [qq 51 (.bin .add (.t 34) (ci 1)), qq 34 (.mv (.t 51))]))))))) (.seq (.reg [qq 52 (.ixarr 4 2 (.t 3) (ci 0)), qq 53 (.load true 2 (.t 52)), qq 54 (.ixarr 4 2 (.t 3) (ci 1)), qq 55 (.load true 2 (.t 54)), qq 56 (.ixarr 4 2 (.t 3) (ci 2)), qq 57 (.load true 2 (.t 56)), qq 58 (.ixarr 4 2 (.t 3) (ci 3)), qq 59 (.load true 2 (.t 58)), qq 60 (.build [(.bool false), e0, (.bool false), e0, (.bool false), e0, (.bool false), e0] [(0, 2, (.t 53)), (2, 2, (.t 55)), (4, 2, (.t 57)), (6, 2, (.t 59))]), qn (.store 8 (.t 2) (.t 60))]) .ret)))))))
theorem tr75 : trFun Tryz.prog 75 = some ⟨61, [.cell 2 true 8], c75⟩ := by kernel_rfl
set_option maxHeartbeats 2000000 in
theorem ok_pNorm : SpecOK Tryz.prog 75 (flat spPNorm) := by
  refine flat_run (env_cons ok_iNorm (env_cons ok_iSign (env_cons ok_iFrom (env_cons ok_iGcd (env_cons ok_iNeg (env_cons ok_iDiv (env_nil _))))))) mixed tr75 ?_
  intro args v h N hG
  unfold spPNorm at hG
  split at hG
  case h_2 => cases hG
  rename_i s1 l1 s2 l2 s3 l3 s4 l4
  split at hG
  case isFalse => cases hG
  rename_i hl
  obtain ⟨h1, h2, h3, h4⟩ := hl
  cases hG
  refine ⟨rfl, by simp, ?_⟩
  have k1 : l1.length ≤ 1099511627776 := by omega
  have k2 : l2.length ≤ 1099511627776 := by omega
  have k3 : l3.length ≤ 1099511627776 := by omega
  have k4 : l4.length ≤ 1099511627776 := by omega
  have n1 := len_sv (s := s1) h1
  have n2 := len_sv (s := s2) h2
  have n3 := len_sv (s := s3) h3
  have n4 := len_sv (s := s4) h4
  have n4' : (bl (sv s4 l4).natAbs).length ≤ 1099511627776 := by omega
  simp only [c75, G0, Nat.reduceAdd]
  simp only [↓R0, R1, simprocAttr, -Int.reduceAbs, spINorm, k1, k2, k3, k4, iE]
  generalize sv s1 l1 = x at *
  generalize sv s2 l2 = y at *
  generalize sv s3 l3 = z at *
  generalize sv s4 l4 = w at *
  have e1 : (w.sign = 0) = (w = 0) := propext Int.sign_eq_zero_iff_zero
  simp only [↓R0, R1, simprocAttr, -Int.reduceAbs, spISign, n4', e1]
  have rest : ∀ W : Int, W = pW w → (bl W.natAbs).length ≤ 34359738368 := by
    intro W e
    subst e
    unfold pW; split
    · exact Nat.le_trans (bl_length_le (k := 1).2 (by decide)) (by omega)
    · exact n4
  unfold pE pQ pG
  generalize hW : pW w = W at *
  have nW := rest W rfl
  have nW2 : (bl W.natAbs).length ≤ 1099511627776 := by omega
  have hWne : W ≠ 0 := by rw [← hW]; exact pW_ne w
  have dv1 : (Nat.gcd (Nat.gcd (Nat.gcd x.natAbs y.natAbs) z.natAbs) W.natAbs : Int) ∣ x := by
    refine Int.ofNat_dvd_left.2 ?_; exact Nat.dvd_trans (Nat.gcd_dvd_left _ _) (Nat.dvd_trans (Nat.gcd_dvd_left _ _) (Nat.gcd_dvd_left _ _))
  have dv2 : (Nat.gcd (Nat.gcd (Nat.gcd x.natAbs y.natAbs) z.natAbs) W.natAbs : Int) ∣ y := by
    refine Int.ofNat_dvd_left.2 ?_; exact Nat.dvd_trans (Nat.gcd_dvd_left _ _) (Nat.dvd_trans (Nat.gcd_dvd_left _ _) (Nat.gcd_dvd_right _ _))
  have dv3 : (Nat.gcd (Nat.gcd (Nat.gcd x.natAbs y.natAbs) z.natAbs) W.natAbs : Int) ∣ z := by
    refine Int.ofNat_dvd_left.2 ?_; exact Nat.dvd_trans (Nat.gcd_dvd_left _ _) (Nat.gcd_dvd_right _ _)
  have dv4 : (Nat.gcd (Nat.gcd (Nat.gcd x.natAbs y.natAbs) z.natAbs) W.natAbs : Int) ∣ W := by
    refine Int.ofNat_dvd_left.2 ?_; exact Nat.gcd_dvd_right _ _
  generalize hGG : Nat.gcd (Nat.gcd (Nat.gcd x.natAbs y.natAbs) z.natAbs) W.natAbs = G at *
  have hG0 : 0 < G := by rw [← hGG]; exact Nat.gcd_pos_of_pos_right _ (by omega)
  have mG : (bl G).length ≤ 34359738368 := by
    rw [← hGG]; exact Nat.le_trans (bl_length_mono (Nat.gcd_le_right _ (by omega))) nW
  have f1 : ¬ ((G : Int) < 0) := by omega
  have f2 : ¬ ((G : Int) = 0) := by omega
  have f3 : ¬ (G = 0) := by omega
  have f5 : sv false (bl G) = (G : Int) := by rw [sv_false, nl_bl]
  have q1 : (bl (x / (G : Int)).natAbs).length ≤ 1099511627776 := Nat.le_trans (bl_length_mono (Int.natAbs_ediv_le_natAbs _ _)) (by omega)
  have q2 : (bl (y / (G : Int)).natAbs).length ≤ 1099511627776 := Nat.le_trans (bl_length_mono (Int.natAbs_ediv_le_natAbs _ _)) (by omega)
  have q3 : (bl (z / (G : Int)).natAbs).length ≤ 1099511627776 := Nat.le_trans (bl_length_mono (Int.natAbs_ediv_le_natAbs _ _)) (by omega)
  have q4 : (bl (W / (G : Int)).natAbs).length ≤ 1099511627776 := Nat.le_trans (bl_length_mono (Int.natAbs_ediv_le_natAbs _ _)) (by omega)
  have d1 : -(x / (G : Int)) = -x / (G : Int) := (Int.neg_ediv_of_dvd dv1).symm
  have d2 : -(y / (G : Int)) = -y / (G : Int) := (Int.neg_ediv_of_dvd dv2).symm
  have d3 : -(z / (G : Int)) = -z / (G : Int) := (Int.neg_ediv_of_dvd dv3).symm
  have d4 : -(W / (G : Int)) = -W / (G : Int) := (Int.neg_ediv_of_dvd dv4).symm
  have w1 : IntKind.i64.wrap 1 = 1 := i64_in _ (by omega)
  have w2 : IntKind.i64.wrap 2 = 2 := i64_in _ (by omega)
  have w3 : IntKind.i64.wrap 3 = 3 := i64_in _ (by omega)
  have w4 : IntKind.i64.wrap 4 = 4 := i64_in _ (by omega)
  have eW : (W.sign < 0) = (W < 0) := propext Int.sign_neg_iff
  have z00 : 4 - 0 = 4 := rfl
  by_cases hw : w = 0
  · have hfrom : spIFrom [.int .i64 1] = some (.agg ⟨iE W⟩) := by
      rw [← hW]; unfold pW; rw [if_pos hw]; rfl
    simp only [↓R0, R1, simprocAttr, -Int.reduceAbs, hw, hfrom, iE, spISign, nW2, eW, rdS, spIGcd, ints, gcds, mkSl, z00, List.foldl_cons, List.foldl_nil, Nat.gcd_zero_left, nl_bl, List.forall_mem_cons, n1, n2, n3, nW, List.not_mem_nil, false_implies, implies_true, hGG, f1, Int.natAbs_natCast]
    by_cases hn : W < 0
    · have sW : sv true (bl W.natAbs) = W := by rw [sv_true, nl_bl]; omega
      simp only [↓R0, R1, simprocAttr, -Int.reduceAbs, hn]
      refine lp_step ?_
      simp only [↓R0, R1, simprocAttr, -Int.reduceAbs, hn, spINeg, spIDiv, sW, n1, n2, n3, nW, mG, f1, f2, f3, f5, q1, q2, q3, q4, d1, d2, d3, d4, w1, w2, w3, w4, iE]
      refine lp_step ?_
      simp only [↓R0, R1, simprocAttr, -Int.reduceAbs, hn, spINeg, spIDiv, sW, n1, n2, n3, nW, mG, f1, f2, f3, f5, q1, q2, q3, q4, d1, d2, d3, d4, w1, w2, w3, w4, iE]
      refine lp_step ?_
      simp only [↓R0, R1, simprocAttr, -Int.reduceAbs, hn, spINeg, spIDiv, sW, n1, n2, n3, nW, mG, f1, f2, f3, f5, q1, q2, q3, q4, d1, d2, d3, d4, w1, w2, w3, w4, iE]
      refine lp_step ?_
      simp only [↓R0, R1, simprocAttr, -Int.reduceAbs, hn, spINeg, spIDiv, sW, n1, n2, n3, nW, mG, f1, f2, f3, f5, q1, q2, q3, q4, d1, d2, d3, d4, w1, w2, w3, w4, iE]
      refine lp_step ?_
      simp only [↓R0, R1, simprocAttr, -Int.reduceAbs, hn, Fin, isEnd, resL, res1, iE, rE]
      exact ⟨_, rfl, rfl, fun k hk => by simp only [ne_nb hk, if_false]⟩
    · have sW : sv false (bl W.natAbs) = W := by rw [sv_false, nl_bl]; omega
      simp only [↓R0, R1, simprocAttr, -Int.reduceAbs, hn]
      refine lp_step ?_
      simp only [↓R0, R1, simprocAttr, -Int.reduceAbs, hn, spINeg, spIDiv, sW, n1, n2, n3, nW, mG, f1, f2, f3, f5, q1, q2, q3, q4, d1, d2, d3, d4, w1, w2, w3, w4, iE]
      refine lp_step ?_
      simp only [↓R0, R1, simprocAttr, -Int.reduceAbs, hn, spINeg, spIDiv, sW, n1, n2, n3, nW, mG, f1, f2, f3, f5, q1, q2, q3, q4, d1, d2, d3, d4, w1, w2, w3, w4, iE]
      refine lp_step ?_
      simp only [↓R0, R1, simprocAttr, -Int.reduceAbs, hn, spINeg, spIDiv, sW, n1, n2, n3, nW, mG, f1, f2, f3, f5, q1, q2, q3, q4, d1, d2, d3, d4, w1, w2, w3, w4, iE]
      refine lp_step ?_
      simp only [↓R0, R1, simprocAttr, -Int.reduceAbs, hn, spINeg, spIDiv, sW, n1, n2, n3, nW, mG, f1, f2, f3, f5, q1, q2, q3, q4, d1, d2, d3, d4, w1, w2, w3, w4, iE]
      refine lp_step ?_
      simp only [↓R0, R1, simprocAttr, -Int.reduceAbs, hn, Fin, isEnd, resL, res1, iE, rE]
      exact ⟨_, rfl, rfl, fun k hk => by simp only [ne_nb hk, if_false]⟩
  · have hWw : W = w := by rw [← hW]; unfold pW; rw [if_neg hw]
    subst hWw
    simp only [↓R0, R1, simprocAttr, -Int.reduceAbs, hw, iE, spISign, nW2, eW, rdS, spIGcd, ints, gcds, mkSl, z00, List.foldl_cons, List.foldl_nil, Nat.gcd_zero_left, nl_bl, List.forall_mem_cons, n1, n2, n3, nW, List.not_mem_nil, false_implies, implies_true, hGG, f1, Int.natAbs_natCast]
    by_cases hn : W < 0
    · have sW : sv true (bl W.natAbs) = W := by rw [sv_true, nl_bl]; omega
      simp only [↓R0, R1, simprocAttr, -Int.reduceAbs, hn]
      refine lp_step ?_
      simp only [↓R0, R1, simprocAttr, -Int.reduceAbs, hn, spINeg, spIDiv, sW, n1, n2, n3, nW, mG, f1, f2, f3, f5, q1, q2, q3, q4, d1, d2, d3, d4, w1, w2, w3, w4, iE]
      refine lp_step ?_
      simp only [↓R0, R1, simprocAttr, -Int.reduceAbs, hn, spINeg, spIDiv, sW, n1, n2, n3, nW, mG, f1, f2, f3, f5, q1, q2, q3, q4, d1, d2, d3, d4, w1, w2, w3, w4, iE]
      refine lp_step ?_
      simp only [↓R0, R1, simprocAttr, -Int.reduceAbs, hn, spINeg, spIDiv, sW, n1, n2, n3, nW, mG, f1, f2, f3, f5, q1, q2, q3, q4, d1, d2, d3, d4, w1, w2, w3, w4, iE]
      refine lp_step ?_
      simp only [↓R0, R1, simprocAttr, -Int.reduceAbs, hn, spINeg, spIDiv, sW, n1, n2, n3, nW, mG, f1, f2, f3, f5, q1, q2, q3, q4, d1, d2, d3, d4, w1, w2, w3, w4, iE]
      refine lp_step ?_
      simp only [↓R0, R1, simprocAttr, -Int.reduceAbs, hn, Fin, isEnd, resL, res1, iE, rE]
      exact ⟨_, rfl, rfl, fun k hk => by simp only [ne_nb hk, if_false]⟩
    · have sW : sv false (bl W.natAbs) = W := by rw [sv_false, nl_bl]; omega
      simp only [↓R0, R1, simprocAttr, -Int.reduceAbs, hn]
      refine lp_step ?_
      simp only [↓R0, R1, simprocAttr, -Int.reduceAbs, hn, spINeg, spIDiv, sW, n1, n2, n3, nW, mG, f1, f2, f3, f5, q1, q2, q3, q4, d1, d2, d3, d4, w1, w2, w3, w4, iE]
      refine lp_step ?_
      simp only [↓R0, R1, simprocAttr, -Int.reduceAbs, hn, spINeg, spIDiv, sW, n1, n2, n3, nW, mG, f1, f2, f3, f5, q1, q2, q3, q4, d1, d2, d3, d4, w1, w2, w3, w4, iE]
      refine lp_step ?_
      simp only [↓R0, R1, simprocAttr, -Int.reduceAbs, hn, spINeg, spIDiv, sW, n1, n2, n3, nW, mG, f1, f2, f3, f5, q1, q2, q3, q4, d1, d2, d3, d4, w1, w2, w3, w4, iE]
      refine lp_step ?_
      simp only [↓R0, R1, simprocAttr, -Int.reduceAbs, hn, spINeg, spIDiv, sW, n1, n2, n3, nW, mG, f1, f2, f3, f5, q1, q2, q3, q4, d1, d2, d3, d4, w1, w2, w3, w4, iE]
      refine lp_step ?_
      simp only [↓R0, R1, simprocAttr, -Int.reduceAbs, hn, Fin, isEnd, resL, res1, iE, rE]
      exact ⟨_, rfl, rfl, fun k hk => by simp only [ne_nb hk, if_false]⟩
end Go.Eng
end
section
set_option linter.unusedVariables false
set_option linter.unusedSimpArgs false
set_option linter.unusedSectionVars false
set_option maxRecDepth 8000
namespace Go.Eng
open Go Go.Proofs Go.IntWalk
theorem lmul {a b : Int} {i j k : Nat} (ha : (bl a.natAbs).length ≤ i) (hb : (bl b.natAbs).length ≤ j) (h : i + j ≤ k) : (bl (a * b).natAbs).length ≤ k := by
  rw [Int.natAbs_mul]
  exact Nat.le_trans (bl_length_mul _ _) (by omega)
theorem ladd {a b : Int} {i j k : Nat} (ha : (bl a.natAbs).length ≤ i) (hb : (bl b.natAbs).length ≤ j) (h : max i j + 1 ≤ k) : (bl (a + b).natAbs).length ≤ k := by
  refine Nat.le_trans (bl_length_mono (Int.natAbs_add_le a b)) ?_
  exact Nat.le_trans (bl_length_add (k := max i j) (by omega) (by omega)) h
theorem lsub {a b : Int} {i j k : Nat} (ha : (bl a.natAbs).length ≤ i) (hb : (bl b.natAbs).length ≤ j) (h : max i j + 1 ≤ k) : (bl (a - b).natAbs).length ≤ k := by
  rw [Int.sub_eq_add_neg]
  exact ladd ha (by rw [Int.natAbs_neg]; exact hb) h
theorem lle {a : Int} {i k : Nat} (ha : (bl a.natAbs).length ≤ i) (h : i ≤ k) : (bl a.natAbs).length ≤ k := Nat.le_trans ha h
def spXNormal : List Value → Option Value
  | [.agg ⟨[.bool s1, .string ⟨⟨l1⟩⟩, .bool s2, .string ⟨⟨l2⟩⟩, .bool s3, .string ⟨⟨l3⟩⟩, .bool s4, .string ⟨⟨l4⟩⟩]⟩] => some (.agg ⟨[.bool s1, .string ⟨⟨l1⟩⟩, .bool s2, .string ⟨⟨l2⟩⟩, .bool s3, .string ⟨⟨l3⟩⟩]⟩)
  | _ => none
def c33 : ICode :=
  (.seq (.reg [qq 1 (.box 25 8 (.t 0)), qq 2 (.alloc 60 6 [(.bool false), e0, (.bool false), e0, (.bool false), e0])]) (.seq (.reg [qq 3 (.faddr 0 (.t 1)), qq 4 (.load true 2 (.t 3)), qq 5 (.faddr 2 (.t 1)), qq 6 (.load true 2 (.t 5)), qq 7 (.faddr 4 (.t 1)), qq 8 (.load true 2 (.t 7)), qq 9 (.build [(.bool false), e0, (.bool false), e0, (.bool false), e0] [(0, 2, (.t 4)), (2, 2, (.t 6)), (4, 2, (.t 8))]), qn (.store 6 (.t 2) (.t 9))]) .ret))
theorem tr33 : trFun Tryz.prog 33 = some ⟨10, [.cell 2 true 6], c33⟩ := by kernel_rfl
theorem ok_xNormal : SpecOK Tryz.prog 33 (flat spXNormal) := by
  refine flat_run (env_nil _) mixed tr33 ?_
  intro args v h N hG
  unfold spXNormal at hG
  split at hG
  case h_2 => cases hG
  cases hG
  refine ⟨rfl, by simp, ?_⟩
  simp only [c33, G0, Nat.reduceAdd]
  simp only [↓R0, R1, simprocAttr, -Int.reduceAbs, Fin, isEnd, resL, res1, iE, rE]
  exact ⟨_, rfl, rfl, fun k hk => by simp only [ne_nb hk, if_false]⟩
def tE (x y z : Int) : List Value := iE x ++ iE y ++ iE z
def spXCross : List Value → Option Value
  | [.agg ⟨[.bool s1, .string ⟨⟨l1⟩⟩, .bool s2, .string ⟨⟨l2⟩⟩, .bool s3, .string ⟨⟨l3⟩⟩]⟩, .agg ⟨[.bool t1, .string ⟨⟨m1⟩⟩, .bool t2, .string ⟨⟨m2⟩⟩, .bool t3, .string ⟨⟨m3⟩⟩]⟩] =>
    if l1.length ≤ 4294967296 ∧ l2.length ≤ 4294967296 ∧ l3.length ≤ 4294967296 ∧ m1.length ≤ 4294967296 ∧ m2.length ≤ 4294967296 ∧ m3.length ≤ 4294967296 then
      some (.agg ⟨tE (sv s2 l2 * sv t3 m3 - sv s3 l3 * sv t2 m2) (sv s3 l3 * sv t1 m1 - sv s1 l1 * sv t3 m3) (sv s1 l1 * sv t2 m2 - sv s2 l2 * sv t1 m1)⟩) else none
  | _ => none
def c32 : ICode :=
  (.seq (.reg [qq 2 (.box 60 6 (.t 0)), qq 3 (.box 60 6 (.t 1)), qq 4 (.alloc 60 6 [(.bool false), e0, (.bool false), e0, (.bool false), e0])]) (.seq (.reg [qq 5 (.alloc 60 6 [(.bool false), e0, (.bool false), e0, (.bool false), e0])]) (.seq (.seq (.reg [qq 9 (.mv (ci 0))]) (.block 0 (.loop (.seq (.reg [qq 10 (.bin .lss (.t 9) (ci 3))]) (.seq (.cond (.t 10) .skip (.exit 0)) (.seq (.block 1 (.seq (.reg [qq 11 (.mv (.t 9)), qq 6 (.mv (.t 11))]) (.seq (.reg [qq 12 (.mv (.t 6)), qq 13 (.bin .add (.t 12) (ci 1)), qq 14 (.bin .rem (.t 13) (ci 3)), qq 15 (.mv (.t 6)), qq 16 (.bin .add (.t 15) (ci 2)), qq 17 (.bin .rem (.t 16) (ci 3)), qq 7 (.mv (.t 14)), qq 8 (.mv (.t 17))]) (.dreg [qu 18 (.mv (.t 6)), qu 19 (.mv (.t 7)), qu 20 (.ixarr 3 2 (.t 2) (.t 19)), qu 21 (.load true 2 (.t 20)), qu 22 (.mv (.t 8)), qu 23 (.ixarr 3 2 (.t 3) (.t 22)), qu 24 (.load true 2 (.t 23)), qu 25 (.call 35 [(.t 21), (.t 24)]), qu 26 (.mv (.t 8)), qu 27 (.ixarr 3 2 (.t 2) (.t 26)), qv 28 [7] (.load true 2 (.t 27)), qu 29 (.mv (.t 7)), qu 30 (.ixarr 3 2 (.t 3) (.t 29)), qv 31 [7] (.load true 2 (.t 30)), qu 32 (.call 35 [(.t 28), (.t 31)]), qu 33 (.call 54 [(.t 25), (.t 32)]), qu 34 (.ixarr 3 2 (.t 5) (.t 18)), qm (.store 2 (.t 34) (.t 33))])))) (.reg [qq 35 (.bin .add (.t 9) (ci 1)), qq 9 (.mv (.t 35))]))))))) (.seq (.reg [qq 36 (.load true 6 (.t 5)), qn (.store 6 (.t 4) (.t 36))]) .ret))))
theorem tr32 : trFun Tryz.prog 32 = some ⟨37, [.cell 4 true 6], c32⟩ := by kernel_rfl
set_option maxHeartbeats 2000000 in
theorem ok_xCross : SpecOK Tryz.prog 32 (flat spXCross) := by
  refine flat_run (env_cons ok_iMul (env_cons ok_iSub (env_nil _))) mixed tr32 ?_
  intro args v h N hG
  unfold spXCross at hG
  split at hG
  case h_2 => cases hG
  rename_i s1 l1 s2 l2 s3 l3 t1 m1 t2 m2 t3 m3
  split at hG
  case isFalse => cases hG
  rename_i hl
  obtain ⟨h1, h2, h3, h4, h5, h6⟩ := hl
  cases hG
  refine ⟨rfl, by simp, ?_⟩
  have a1 : l1.length ≤ 34359738368 := by omega
  have a2 : l2.length ≤ 34359738368 := by omega
  have a3 : l3.length ≤ 34359738368 := by omega
  have b1 : m1.length ≤ 34359738368 := by omega
  have b2 : m2.length ≤ 34359738368 := by omega
  have b3 : m3.length ≤ 34359738368 := by omega
  have n1 := len_sv (s := s1) h1
  have n2 := len_sv (s := s2) h2
  have n3 := len_sv (s := s3) h3
  have n4 := len_sv (s := t1) h4
  have n5 := len_sv (s := t2) h5
  have n6 := len_sv (s := t3) h6
  have p1 := lmul (k := 68719476736) n2 n6 (by omega)
  have p2 := lmul (k := 68719476736) n3 n5 (by omega)
  have p3 := lmul (k := 68719476736) n3 n4 (by omega)
  have p4 := lmul (k := 68719476736) n1 n6 (by omega)
  have p5 := lmul (k := 68719476736) n1 n5 (by omega)
  have p6 := lmul (k := 68719476736) n2 n4 (by omega)
  have w1 : IntKind.i64.wrap 1 = 1 := i64_in _ (by omega)
  have w2 : IntKind.i64.wrap 2 = 2 := i64_in _ (by omega)
  have w3 : IntKind.i64.wrap 3 = 3 := i64_in _ (by omega)
  have w4 : IntKind.i64.wrap 4 = 4 := i64_in _ (by omega)
  have r1 : Int.tmod 1 3 = 1 := rfl
  have r2 : Int.tmod 2 3 = 2 := rfl
  have r3 : Int.tmod 3 3 = 0 := rfl
  have r4 : Int.tmod 4 3 = 1 := rfl
  simp only [c32, G0, Nat.reduceAdd]
  simp only [↓R0, R1, simprocAttr, -Int.reduceAbs]
  refine lp_step ?_
  simp only [↓R0, R1, simprocAttr, -Int.reduceAbs, a1, a2, a3, b1, b2, b3, p1, p2, p3, p4, p5, p6, w1, w2, w3, w4, r1, r2, r3, r4, spIMul, spISub, iE]
  refine lp_step ?_
  simp only [↓R0, R1, simprocAttr, -Int.reduceAbs, a1, a2, a3, b1, b2, b3, p1, p2, p3, p4, p5, p6, w1, w2, w3, w4, r1, r2, r3, r4, spIMul, spISub, iE]
  refine lp_step ?_
  simp only [↓R0, R1, simprocAttr, -Int.reduceAbs, a1, a2, a3, b1, b2, b3, p1, p2, p3, p4, p5, p6, w1, w2, w3, w4, r1, r2, r3, r4, spIMul, spISub, iE]
  refine lp_step ?_
  simp only [↓R0, R1, simprocAttr, -Int.reduceAbs, tE, Fin, isEnd, resL, res1, iE, rE]
  exact ⟨_, rfl, rfl, fun k hk => by simp only [ne_nb hk, if_false]⟩
def spXDot : List Value → Option Value
  | [.agg ⟨[.bool s1, .string ⟨⟨l1⟩⟩, .bool s2, .string ⟨⟨l2⟩⟩, .bool s3, .string ⟨⟨l3⟩⟩]⟩, .agg ⟨[.bool t1, .string ⟨⟨m1⟩⟩, .bool t2, .string ⟨⟨m2⟩⟩, .bool t3, .string ⟨⟨m3⟩⟩]⟩] =>
    if l1.length ≤ 17179869184 ∧ l2.length ≤ 17179869184 ∧ l3.length ≤ 17179869184 ∧ m1.length ≤ 17179869184 ∧ m2.length ≤ 17179869184 ∧ m3.length ≤ 17179869184 then
      some (.agg ⟨iE (sv s1 l1 * sv t1 m1 + sv s2 l2 * sv t2 m2 + sv s3 l3 * sv t3 m3)⟩) else none
  | _ => none
def c37 : ICode :=
  (.seq (.reg [qq 2 (.box 60 6 (.t 0)), qq 3 (.box 60 6 (.t 1)), qq 4 (.alloc 23 2 [(.bool false), e0])]) (.seq (.reg [qq 5 (.alloc 23 2 [(.bool false), e0])]) (.seq (.seq (.reg [qq 7 (.mv (ci 0))]) (.block 0 (.loop (.seq (.reg [qq 8 (.bin .lss (.t 7) (ci 3))]) (.seq (.cond (.t 8) .skip (.exit 0)) (.seq (.block 1 (.seq (.reg [qq 9 (.mv (.t 7)), qq 6 (.mv (.t 9))]) (.dreg [qu 10 (.load true 2 (.t 5)), qu 11 (.mv (.t 6)), qu 12 (.ixarr 3 2 (.t 2) (.t 11)), qu 13 (.load true 2 (.t 12)), qu 14 (.mv (.t 6)), qu 15 (.ixarr 3 2 (.t 3) (.t 14)), qu 16 (.load true 2 (.t 15)), qu 17 (.call 35 [(.t 13), (.t 16)]), qu 18 (.call 34 [(.t 10), (.t 17)]), qm (.store 2 (.t 5) (.t 18))]))) (.reg [qq 19 (.bin .add (.t 7) (ci 1)), qq 7 (.mv (.t 19))]))))))) (.seq (.reg [qq 20 (.load true 2 (.t 5)), qn (.store 2 (.t 4) (.t 20))]) .ret))))
theorem tr37 : trFun Tryz.prog 37 = some ⟨21, [.cell 4 true 2], c37⟩ := by kernel_rfl
set_option maxHeartbeats 2000000 in
theorem ok_xDot : SpecOK Tryz.prog 37 (flat spXDot) := by
  refine flat_run (env_cons ok_iMul (env_cons ok_iAdd (env_nil _))) mixed tr37 ?_
  intro args v h N hG
  unfold spXDot at hG
  split at hG
  case h_2 => cases hG
  rename_i s1 l1 s2 l2 s3 l3 t1 m1 t2 m2 t3 m3
  split at hG
  case isFalse => cases hG
  rename_i hl
  obtain ⟨h1, h2, h3, h4, h5, h6⟩ := hl
  cases hG
  refine ⟨rfl, by simp, ?_⟩
  have a1 : l1.length ≤ 34359738368 := by omega
  have a2 : l2.length ≤ 34359738368 := by omega
  have a3 : l3.length ≤ 34359738368 := by omega
  have b1 : m1.length ≤ 34359738368 := by omega
  have b2 : m2.length ≤ 34359738368 := by omega
  have b3 : m3.length ≤ 34359738368 := by omega
  have n1 := len_sv (s := s1) h1
  have n2 := len_sv (s := s2) h2
  have n3 := len_sv (s := s3) h3
  have n4 := len_sv (s := t1) h4
  have n5 := len_sv (s := t2) h5
  have n6 := len_sv (s := t3) h6
  have p1 := lmul (k := 34359738368) n1 n4 (by omega)
  have p2 := lmul (k := 34359738368) n2 n5 (by omega)
  have p3 := lmul (k := 34359738368) n3 n6 (by omega)
  have q1 := lle (k := 68719476736) p1 (by omega)
  have q2 := lle (k := 68719476736) p2 (by omega)
  have q3 := lle (k := 68719476736) p3 (by omega)
  have q4 := ladd (k := 68719476736) p1 p2 (by omega)
  have z0 : sv false [] = 0 := rfl
  have w1 : IntKind.i64.wrap 1 = 1 := i64_in _ (by omega)
  have w2 : IntKind.i64.wrap 2 = 2 := i64_in _ (by omega)
  have w3 : IntKind.i64.wrap 3 = 3 := i64_in _ (by omega)
  simp only [c37, G0, Nat.reduceAdd]
  simp only [↓R0, R1, simprocAttr, -Int.reduceAbs]
  refine lp_step ?_
  simp only [↓R0, R1, simprocAttr, -Int.reduceAbs, a1, a2, a3, b1, b2, b3, q1, q2, q3, q4, w1, w2, w3, z0, Int.zero_add, Nat.zero_le, spIMul, spIAdd, iE]
  refine lp_step ?_
  simp only [↓R0, R1, simprocAttr, -Int.reduceAbs, a1, a2, a3, b1, b2, b3, q1, q2, q3, q4, w1, w2, w3, z0, Int.zero_add, Nat.zero_le, spIMul, spIAdd, iE]
  refine lp_step ?_
  simp only [↓R0, R1, simprocAttr, -Int.reduceAbs, a1, a2, a3, b1, b2, b3, q1, q2, q3, q4, w1, w2, w3, z0, Int.zero_add, Nat.zero_le, spIMul, spIAdd, iE]
  refine lp_step ?_
  simp only [↓R0, R1, simprocAttr, -Int.reduceAbs, Fin, isEnd, resL, res1, iE, rE]
  exact ⟨_, rfl, rfl, fun k hk => by simp only [ne_nb hk, if_false]⟩
def pZ : List Value := [.bool false, .string ⟨⟨[]⟩⟩, .bool false, .string ⟨⟨[]⟩⟩, .bool false, .string ⟨⟨[]⟩⟩, .bool false, .string ⟨⟨[]⟩⟩]
def spXMade : List Value → Option Value
  | [.agg ⟨[.bool s1, .string ⟨⟨l1⟩⟩, .bool s2, .string ⟨⟨l2⟩⟩, .bool s3, .string ⟨⟨l3⟩⟩]⟩, .agg ⟨[.bool s4, .string ⟨⟨l4⟩⟩]⟩] =>
    if l1.length ≤ 34359738368 ∧ l2.length ≤ 34359738368 ∧ l3.length ≤ 34359738368 ∧ l4.length ≤ 34359738368 then
      (if sv s4 l4 = 0 then some (.tuple ⟨[.agg ⟨pZ⟩, .bool false]⟩) else some (.tuple ⟨[.agg ⟨pE (sv s1 l1) (sv s2 l2) (sv s3 l3) (sv s4 l4)⟩, .bool true]⟩)) else none
  | _ => none
def c36 : ICode :=
  (.seq (.reg [qq 2 (.box 60 6 (.t 0)), qq 3 (.box 23 2 (.t 1)), qq 4 (.alloc 30 8 [(.bool false), e0, (.bool false), e0, (.bool false), e0, (.bool false), e0]), qq 5 (.mv (.c (.bool false)))]) (.seq (.seq (.reg [qq 6 (.load true 2 (.t 3)), qq 7 (.call 65 [(.t 6)]), qq 8 (.bin .eql (.t 7) (ci 0))]) (.cond (.t 8) (.seq (.reg [qq 9 (.build [(.bool false), e0, (.bool false), e0, (.bool false), e0, (.bool false), e0] []), qn (.store 8 (.t 4) (.t 9)), qq 5 (.mv (.c (.bool false)))]) .ret) .skip)) (.seq (.reg [qq 10 (.ixarr 3 2 (.t 2) (ci 0)), qq 11 (.load true 2 (.t 10)), qq 12 (.ixarr 3 2 (.t 2) (ci 1)), qq 13 (.load true 2 (.t 12)), qq 14 (.ixarr 3 2 (.t 2) (ci 2)), qq 15 (.load true 2 (.t 14)), qq 16 (.load true 2 (.t 3)), qq 17 (.build [(.bool false), e0, (.bool false), e0, (.bool false), e0, (.bool false), e0] [(0, 2, (.t 11)), (2, 2, (.t 13)), (4, 2, (.t 15)), (6, 2, (.t 16))]), qq 18 (.call 75 [(.t 17)]), qn (.store 8 (.t 4) (.t 18)), qq 5 (.mv (.c (.bool true)))]) .ret)))
theorem tr36 : trFun Tryz.prog 36 = some ⟨19, [.cell 4 true 8, .t 5], c36⟩ := by kernel_rfl
theorem ok_xMade : SpecOK Tryz.prog 36 (flat spXMade) := by
  refine flat_run (env_cons ok_iSign (env_cons ok_pNorm (env_nil _))) mixed tr36 ?_
  intro args v h N hG
  unfold spXMade at hG
  split at hG
  case h_2 => cases hG
  rename_i s1 l1 s2 l2 s3 l3 s4 l4
  split at hG
  case isFalse => cases hG
  rename_i hl
  obtain ⟨h1, h2, h3, h4⟩ := hl
  have k4 : l4.length ≤ 1099511627776 := by omega
  have e1 : ((sv s4 l4).sign = 0) = (sv s4 l4 = 0) := propext Int.sign_eq_zero_iff_zero
  split at hG
  · rename_i h0
    cases hG
    refine ⟨rfl, by simp, ?_⟩
    simp only [c36, G0, Nat.reduceAdd]
    simp only [↓R0, R1, simprocAttr, -Int.reduceAbs, spISign, k4, e1, h0, Int.sign_zero, pZ, Fin, isEnd, resL, res1, iE, rE]
    exact ⟨_, rfl, rfl, fun k hk => by simp only [ne_nb hk, if_false]⟩
  · rename_i h0
    cases hG
    refine ⟨rfl, by simp, ?_⟩
    simp only [c36, G0, Nat.reduceAdd]
    simp only [↓R0, R1, simprocAttr, -Int.reduceAbs, spISign, k4, e1, h0, spPNorm, h1, h2, h3, h4, pE, Fin, isEnd, resL, res1, iE, rE]
    exact ⟨_, rfl, rfl, fun k hk => by simp only [ne_nb hk, if_false]⟩
end Go.Eng
end
section
set_option linter.unusedVariables false
set_option linter.unusedSimpArgs false
set_option linter.unusedSectionVars false
set_option maxRecDepth 20000
namespace Go.Eng
open Go Go.Proofs Go.IntWalk
end Go.Eng
end
section
set_option linter.unusedVariables false
set_option linter.unusedSimpArgs false
set_option linter.unusedSectionVars false
set_option maxRecDepth 20000
namespace Go.Eng
open Go Go.Proofs Go.IntWalk
end Go.Eng
end
section
set_option linter.unusedVariables false
set_option linter.unusedSimpArgs false
set_option linter.unusedSectionVars false
namespace Go.Eng
theorem sign_pos_mul {k x : Int} (h : 0 < k) : (x * k).sign = x.sign := by
  rw [Int.sign_mul, Int.sign_eq_one_of_pos h, Int.mul_one]
end Go.Eng
end
section
set_option linter.unusedVariables false
set_option linter.unusedSimpArgs false
set_option linter.unusedSectionVars false
set_option maxRecDepth 20000
namespace Go.Eng
open Go Go.Proofs Go.IntWalk
end Go.Eng
end
section
set_option linter.unusedVariables false
set_option linter.unusedSimpArgs false
set_option linter.unusedSectionVars false
set_option maxRecDepth 20000
namespace Go.Eng
open Go Go.Proofs Go.IntWalk
def spId8 : List Value → Option Value
  | [.agg ⟨[.bool s1, .string ⟨⟨l1⟩⟩, .bool s2, .string ⟨⟨l2⟩⟩, .bool s3, .string ⟨⟨l3⟩⟩, .bool s4, .string ⟨⟨l4⟩⟩]⟩] => some (.agg ⟨[.bool s1, .string ⟨⟨l1⟩⟩, .bool s2, .string ⟨⟨l2⟩⟩, .bool s3, .string ⟨⟨l3⟩⟩, .bool s4, .string ⟨⟨l4⟩⟩]⟩)
  | _ => none
def c131 : ICode :=
  (.seq (.reg [qq 1 (.box 25 8 (.t 0)), qq 2 (.alloc 108 8 [(.bool false), e0, (.bool false), e0, (.bool false), e0, (.bool false), e0])]) (.seq (.reg [qq 3 (.faddr 0 (.t 1)), qq 4 (.load true 2 (.t 3)), qq 5 (.faddr 2 (.t 1)), qq 6 (.load true 2 (.t 5)), qq 7 (.faddr 4 (.t 1)), qq 8 (.load true 2 (.t 7)), qq 9 (.faddr 6 (.t 1)), qq 10 (.load true 2 (.t 9)), qq 11 (.build [(.bool false), e0, (.bool false), e0, (.bool false), e0, (.bool false), e0] [(0, 2, (.t 4)), (2, 2, (.t 6)), (4, 2, (.t 8)), (6, 2, (.t 10))]), qn (.store 8 (.t 2) (.t 11))]) .ret))
theorem tr131 : trFun Tryz.prog 131 = some ⟨12, [.cell 2 true 8], c131⟩ := by kernel_rfl
theorem ok_lnFour : SpecOK Tryz.prog 131 (flat spId8) := by
  refine flat_run (env_nil _) mixed tr131 ?_
  intro args v h N hG
  unfold spId8 at hG
  split at hG
  case h_2 => cases hG
  cases hG
  refine ⟨rfl, by simp, ?_⟩
  simp only [c131, G0, Nat.reduceAdd]
  simp only [↓R0, R1, simprocAttr, -Int.reduceAbs, Fin, isEnd, resL, res1, iE, rE]
  exact ⟨_, rfl, rfl, fun k hk => by simp only [ne_nb hk, if_false]⟩
def c102 : ICode :=
  (.seq (.reg [qq 1 (.box 108 8 (.t 0)), qq 2 (.alloc 25 8 [(.bool false), e0, (.bool false), e0, (.bool false), e0, (.bool false), e0])]) (.seq (.reg [qq 3 (.ixarr 4 2 (.t 1) (ci 0)), qq 4 (.load true 2 (.t 3)), qq 5 (.ixarr 4 2 (.t 1) (ci 1)), qq 6 (.load true 2 (.t 5)), qq 7 (.ixarr 4 2 (.t 1) (ci 2)), qq 8 (.load true 2 (.t 7)), qq 9 (.ixarr 4 2 (.t 1) (ci 3)), qq 10 (.load true 2 (.t 9)), qq 11 (.build [(.bool false), e0, (.bool false), e0, (.bool false), e0, (.bool false), e0] [(0, 2, (.t 4)), (2, 2, (.t 6)), (4, 2, (.t 8)), (6, 2, (.t 10))]), qn (.store 8 (.t 2) (.t 11))]) .ret))
theorem tr102 : trFun Tryz.prog 102 = some ⟨12, [.cell 2 true 8], c102⟩ := by kernel_rfl
theorem ok_lnOf : SpecOK Tryz.prog 102 (flat spId8) := by
  refine flat_run (env_nil _) mixed tr102 ?_
  intro args v h N hG
  unfold spId8 at hG
  split at hG
  case h_2 => cases hG
  cases hG
  refine ⟨rfl, by simp, ?_⟩
  simp only [c102, G0, Nat.reduceAdd]
  simp only [↓R0, R1, simprocAttr, -Int.reduceAbs, Fin, isEnd, resL, res1, iE, rE]
  exact ⟨_, rfl, rfl, fun k hk => by simp only [ne_nb hk, if_false]⟩
def spLnMinor : List Value → Option Value
  | [.agg ⟨[.bool s1, .string ⟨⟨l1⟩⟩]⟩, .agg ⟨[.bool s2, .string ⟨⟨l2⟩⟩]⟩, .agg ⟨[.bool s3, .string ⟨⟨l3⟩⟩]⟩, .agg ⟨[.bool s4, .string ⟨⟨l4⟩⟩]⟩] =>
    if l1.length ≤ 17179869184 ∧ l2.length ≤ 17179869184 ∧ l3.length ≤ 17179869184 ∧ l4.length ≤ 17179869184 then some (.agg ⟨iE (sv s1 l1 * sv s4 l4 - sv s2 l2 * sv s3 l3)⟩) else none
  | _ => none
def c100 : ICode :=
  (.seq (.reg [qq 4 (.box 23 2 (.t 0)), qq 5 (.box 23 2 (.t 1)), qq 6 (.box 23 2 (.t 2)), qq 7 (.box 23 2 (.t 3)), qq 8 (.alloc 23 2 [(.bool false), e0])]) (.seq (.dreg [qu 9 (.load true 2 (.t 4)), qu 10 (.load true 2 (.t 7)), qu 11 (.call 35 [(.t 9), (.t 10)]), qv 12 [2] (.load true 2 (.t 5)), qv 13 [2] (.load true 2 (.t 6)), qu 14 (.call 35 [(.t 12), (.t 13)]), qu 15 (.call 54 [(.t 11), (.t 14)]), qm (.store 2 (.t 8) (.t 15))]) .ret))
theorem tr100 : trFun Tryz.prog 100 = some ⟨16, [.cell 8 true 2], c100⟩ := by kernel_rfl
theorem ok_lnMinor : SpecOK Tryz.prog 100 (flat spLnMinor) := by
  refine flat_run (env_cons ok_iMul (env_cons ok_iSub (env_nil _))) mixed tr100 ?_
  intro args v h N hG
  unfold spLnMinor at hG
  split at hG
  case h_2 => cases hG
  rename_i s1 l1 s2 l2 s3 l3 s4 l4
  split at hG
  case isFalse => cases hG
  rename_i hl
  obtain ⟨h1, h2, h3, h4⟩ := hl
  cases hG
  refine ⟨rfl, by simp, ?_⟩
  have a1 : l1.length ≤ 34359738368 := by omega
  have a2 : l2.length ≤ 34359738368 := by omega
  have a3 : l3.length ≤ 34359738368 := by omega
  have a4 : l4.length ≤ 34359738368 := by omega
  have p1 := lmul (k := 68719476736) (len_sv (s := s1) h1) (len_sv (s := s4) h4) (by omega)
  have p2 := lmul (k := 68719476736) (len_sv (s := s2) h2) (len_sv (s := s3) h3) (by omega)
  simp only [c100, G0, Nat.reduceAdd]
  simp only [↓R0, R1, simprocAttr, -Int.reduceAbs, spIMul, spISub, a1, a2, a3, a4, p1, p2, Fin, isEnd, resL, res1, iE, rE]
  exact ⟨_, rfl, rfl, fun k hk => by simp only [ne_nb hk, if_false]⟩
def spLnAway : List Value → Option Value
  | [.agg ⟨[.bool s1, .string ⟨⟨l1⟩⟩, .bool s2, .string ⟨⟨l2⟩⟩, .bool s3, .string ⟨⟨l3⟩⟩, .bool s4, .string ⟨⟨l4⟩⟩]⟩, .agg ⟨[.bool t1, .string ⟨⟨m1⟩⟩, .bool t2, .string ⟨⟨m2⟩⟩, .bool t3, .string ⟨⟨m3⟩⟩, .bool t4, .string ⟨⟨m4⟩⟩]⟩] =>
    if l1.length ≤ 17179869184 ∧ l2.length ≤ 17179869184 ∧ l3.length ≤ 17179869184 ∧ l4.length ≤ 17179869184 ∧ m1.length ≤ 17179869184 ∧ m2.length ≤ 17179869184 ∧ m3.length ≤ 17179869184 ∧ m4.length ≤ 17179869184 then
      some (.agg ⟨tE (sv t1 m1 * sv s4 l4 - sv s1 l1 * sv t4 m4) (sv t2 m2 * sv s4 l4 - sv s2 l2 * sv t4 m4) (sv t3 m3 * sv s4 l4 - sv s3 l3 * sv t4 m4)⟩) else none
  | _ => none
def c99 : ICode :=
  (.seq (.reg [qq 2 (.box 30 8 (.t 0)), qq 3 (.box 30 8 (.t 1)), qq 4 (.alloc 59 6 [(.bool false), e0, (.bool false), e0, (.bool false), e0])]) (.seq (.dreg [qu 5 (.faddr 0 (.t 3)), qu 6 (.load true 2 (.t 5)), qu 7 (.faddr 0 (.t 2)), qu 8 (.load true 2 (.t 7)), qu 9 (.faddr 6 (.t 3)), qu 10 (.load true 2 (.t 9)), qu 11 (.faddr 6 (.t 2)), qu 12 (.load true 2 (.t 11)), qu 13 (.call 100 [(.t 6), (.t 8), (.t 10), (.t 12)]), qu 14 (.faddr 2 (.t 3)), qv 15 [8] (.load true 2 (.t 14)), qu 16 (.faddr 2 (.t 2)), qv 17 [8] (.load true 2 (.t 16)), qu 18 (.faddr 6 (.t 3)), qv 19 [8] (.load true 2 (.t 18)), qu 20 (.faddr 6 (.t 2)), qv 21 [8] (.load true 2 (.t 20)), qu 22 (.call 100 [(.t 15), (.t 17), (.t 19), (.t 21)]), qu 23 (.faddr 4 (.t 3)), qv 24 [8, 17] (.load true 2 (.t 23)), qu 25 (.faddr 4 (.t 2)), qv 26 [8, 17] (.load true 2 (.t 25)), qu 27 (.faddr 6 (.t 3)), qv 28 [8, 17] (.load true 2 (.t 27)), qu 29 (.faddr 6 (.t 2)), qv 30 [8, 17] (.load true 2 (.t 29)), qu 31 (.call 100 [(.t 24), (.t 26), (.t 28), (.t 30)]), qu 32 (.build [(.bool false), e0, (.bool false), e0, (.bool false), e0] [(0, 2, (.t 13)), (2, 2, (.t 22)), (4, 2, (.t 31))]), qm (.store 6 (.t 4) (.t 32))]) .ret))
theorem tr99 : trFun Tryz.prog 99 = some ⟨33, [.cell 4 true 6], c99⟩ := by kernel_rfl
theorem ok_lnAway : SpecOK Tryz.prog 99 (flat spLnAway) := by
  refine flat_run (env_cons ok_lnMinor (env_nil _)) mixed tr99 ?_
  intro args v h N hG
  unfold spLnAway at hG
  split at hG
  case h_2 => cases hG
  rename_i s1 l1 s2 l2 s3 l3 s4 l4 t1 m1 t2 m2 t3 m3 t4 m4
  split at hG
  case isFalse => cases hG
  rename_i hl
  obtain ⟨h1, h2, h3, h4, g1, g2, g3, g4⟩ := hl
  cases hG
  refine ⟨rfl, by simp, ?_⟩
  simp only [c99, G0, Nat.reduceAdd]
  simp only [↓R0, R1, simprocAttr, -Int.reduceAbs, spLnMinor, h1, h2, h3, h4, g1, g2, g3, g4, tE, Fin, isEnd, resL, res1, iE, rE]
  exact ⟨_, rfl, rfl, fun k hk => by simp only [ne_nb hk, if_false]⟩
def spLnNorm : List Value → Option Value
  | [.agg ⟨[.bool s1, .string ⟨⟨l1⟩⟩, .bool s2, .string ⟨⟨l2⟩⟩, .bool s3, .string ⟨⟨l3⟩⟩, .bool s4, .string ⟨⟨l4⟩⟩]⟩] =>
    if l1.length ≤ 34359738368 ∧ l2.length ≤ 34359738368 ∧ l3.length ≤ 34359738368 ∧ l4.length ≤ 34359738368 then
      (if sv s1 l1 = 0 ∧ sv s2 l2 = 0 ∧ sv s3 l3 = 0 then some (.tuple ⟨[.agg ⟨pZ⟩, .bool false]⟩)
        else some (.tuple ⟨[.agg ⟨lE (sv s1 l1) (sv s2 l2) (sv s3 l3) (sv s4 l4)⟩, .bool true]⟩)) else none
  | _ => none
def c101 : ICode :=
  (.seq (.reg [qq 1 (.box 25 8 (.t 0)), qq 2 (.alloc 25 8 [(.bool false), e0, (.bool false), e0, (.bool false), e0, (.bool false), e0]), qq 3 (.mv (.c (.bool false)))]) (.seq (.reg [qq 7 (.load true 8 (.t 1)), qq 8 (.call 131 [(.t 7)]), qq 4 (.alloc 108 8 [(.bool false), e0, (.bool false), e0, (.bool false), e0, (.bool false), e0]), qn (.store 8 (.t 4) (.t 8))]) (.seq (.seq (.reg [qq 9 (.slarr 4 2 (.t 4) none (some (ci 3))), qq 10 (.call 120 [(.t 9)]), qq 11 (.call 65 [(.t 10)]), qq 12 (.bin .eql (.t 11) (ci 0))]) (.cond (.t 12) (.seq (.reg [qq 13 (.build [(.bool false), e0, (.bool false), e0, (.bool false), e0, (.bool false), e0] []), qn (.store 8 (.t 2) (.t 13)), qq 3 (.mv (.c (.bool false)))]) .ret) .skip)) (.seq (.reg [qq 14 (.slarr 4 2 (.t 4) none none), qq 15 (.call 120 [(.t 14)]), qq 5 (.alloc 23 2 [(.bool false), e0]), qn (.store 2 (.t 5) (.t 15))]) (.seq (.seq (.reg [qq 16 (.mv (ci 0))]) (.block 0 (.loop (.seq (.reg [qq 17 (.bin .lss (.t 16) (ci 4))]) (.seq (.cond (.t 17) .skip (.exit 0)) (.seq (.block 1 (.seq (.reg [qq 18 (.mv (.t 16)), qq 6 (.mv (.t 18))]) (.dreg [qu 20 (.mv (.t 6)), qu 21 (.mv (.t 6)), qu 22 (.ixarr 4 2 (.t 4) (.t 21)), qu 23 (.load true 2 (.t 22)), qu 24 (.load true 2 (.t 5)), qu 25 (.call 121 [(.t 23), (.t 24)]), qu 19 (.mv (.t 25)), qu 26 (.ext (.t 19) 0), qu 27 (.ext (.t 19) 1), qu 28 (.ext (.t 19) 2), qu 29 (.ixarr 4 2 (.t 4) (.t 20)), qm (.store 2 (.t 29) (.t 26))]))) (.reg [qq 30 (.bin .add (.t 16) (ci 1)), qq 16 (.mv (.t 30))]))))))) (.seq (.reg [qq 31 (.load true 8 (.t 4)), qq 32 (.call 102 [(.t 31)]), qn (.store 8 (.t 2) (.t 32)), qq 3 (.mv (.c (.bool true)))]) .ret))))))
theorem tr101 : trFun Tryz.prog 101 = some ⟨33, [.cell 2 true 8, .t 3], c101⟩ := by kernel_rfl
set_option maxHeartbeats 4000000 in
theorem ok_lnNorm : SpecOK Tryz.prog 101 (flat spLnNorm) := by
  refine flat_run (env_cons ok_lnFour (env_cons ok_lnOf (env_cons ok_iGcd (env_cons ok_iSign (env_cons ok_iDiv (env_nil _)))))) mixed tr101 ?_
  intro args v h N hG
  unfold spLnNorm at hG
  split at hG
  case h_2 => cases hG
  rename_i s1 l1 s2 l2 s3 l3 s4 l4
  split at hG
  case isFalse => cases hG
  rename_i hl
  obtain ⟨h1, h2, h3, h4⟩ := hl
  have g3 : Nat.gcd (Nat.gcd (nl l1) (nl l2)) (nl l3) = Nat.gcd (Nat.gcd (sv s1 l1).natAbs (sv s2 l2).natAbs) (sv s3 l3).natAbs := by
    rw [sv_natAbs, sv_natAbs, sv_natAbs]
  have zl0 : (bl (Int.natAbs 0)).length ≤ 1099511627776 := by rw [show Int.natAbs 0 = 0 from rfl, bl_zero]; exact Nat.zero_le _
  have zs0 : sv false (bl (Int.natAbs 0)) = 0 := by rw [sv_bl]; rfl
  have i40 : 4 - 0 = 4 := rfl
  have i30 : 3 - 0 = 3 := rfl
  have i43 : ¬ (4 = 0) := by decide
  have f5 : ∀ G : Nat, sv false (bl G) = (G : Int) := fun G => by rw [sv_false, nl_bl]
  split at hG
  · rename_i h0
    obtain ⟨z1, z2, z3⟩ := h0
    cases hG
    refine ⟨rfl, by simp, ?_⟩
    have hg0 : Nat.gcd (Nat.gcd (nl l1) (nl l2)) (nl l3) = 0 := by rw [g3, z1, z2, z3]; rfl
    have b0 : bl 0 = [] := bl_zero
    have hz : sv false ([] : List UInt8) = 0 := rfl
    have i00 : ((0 : Nat) : Int) = 0 := rfl
    simp only [c101, G0, Nat.reduceAdd]
    simp only [↓R0, R1, simprocAttr, -Int.reduceAbs, spId8, rdS, spIGcd, ints, gcds, mkSl, i40, i30, i43, List.foldl_cons, List.foldl_nil, Nat.gcd_zero_left, List.forall_mem_cons, h1, h2, h3, h4, List.not_mem_nil, false_implies, implies_true, hg0, i00, spISign, zl0, zs0, Int.sign_zero, iE]
    simp only [↓R0, R1, simprocAttr, -Int.reduceAbs, spISign, zl0, zs0, Int.lt_irrefl, Int.sign_zero, pZ, Fin, isEnd, resL, res1, iE, rE]
    exact ⟨_, rfl, rfl, fun k hk => by simp only [ne_nb hk, if_false]⟩
  rename_i h0
  cases hG
  refine ⟨rfl, by simp, ?_⟩
  have hG0 := lG_pos (d := sv s4 l4) h0
  have n1 := len_sv (s := s1) h1
  have n2 := len_sv (s := s2) h2
  have n3 := len_sv (s := s3) h3
  have n4 := len_sv (s := s4) h4
  have hGl := lG_le (d := sv s4 l4) (k := 34359738368) n1 n2 n3 h0
  have hGG : Nat.gcd (Nat.gcd (Nat.gcd (nl l1) (nl l2)) (nl l3)) (nl l4) = lG (sv s1 l1) (sv s2 l2) (sv s3 l3) (sv s4 l4) := by
    unfold lG; rw [sv_natAbs, sv_natAbs, sv_natAbs, sv_natAbs]
  unfold lE
  generalize lG (sv s1 l1) (sv s2 l2) (sv s3 l3) (sv s4 l4) = G at *
  have f1 : ¬ ((G : Int) < 0) := by omega
  have f2 : ¬ ((G : Int) = 0) := by omega
  have f6 := f5 G
  have hg3 : 0 < Nat.gcd (Nat.gcd (nl l1) (nl l2)) (nl l3) := by
    rw [g3]
    by_cases z3 : sv s3 l3 = 0
    · refine Nat.gcd_pos_of_pos_left _ ?_
      by_cases z2 : sv s2 l2 = 0
      · refine Nat.gcd_pos_of_pos_left _ ?_
        have : sv s1 l1 ≠ 0 := fun e => h0 ⟨e, z2, z3⟩
        omega
      · exact Nat.gcd_pos_of_pos_right _ (by omega)
    · exact Nat.gcd_pos_of_pos_right _ (by omega)
  have hg3l : (bl (Nat.gcd (Nat.gcd (nl l1) (nl l2)) (nl l3))).length ≤ 1099511627776 := by
    rcases Nat.eq_zero_or_pos (nl l3) with e | e
    · rw [e, Nat.gcd_zero_right]
      rcases Nat.eq_zero_or_pos (nl l2) with e2 | e2
      · rw [e2, Nat.gcd_zero_right]; exact Nat.le_trans (bl_length_nl l1) (by omega)
      · exact Nat.le_trans (bl_length_mono (Nat.gcd_le_right _ e2)) (Nat.le_trans (bl_length_nl l2) (by omega))
    · exact Nat.le_trans (bl_length_mono (Nat.gcd_le_right _ e)) (Nat.le_trans (bl_length_nl l3) (by omega))
  obtain ⟨g, eg⟩ : ∃ g, Nat.gcd (Nat.gcd (nl l1) (nl l2)) (nl l3) = g := ⟨_, rfl⟩
  rw [eg] at hg3 hg3l hGG
  have t1 : ¬ ((g : Int) < 0) := by omega
  have t2 : ¬ (((g : Int).sign) = 0) := by rw [Int.sign_eq_zero_iff_zero]; omega
  have t3 := f5 g
  have w1 : IntKind.i64.wrap 1 = 1 := i64_in _ (by omega)
  have w2 : IntKind.i64.wrap 2 = 2 := i64_in _ (by omega)
  have w3 : IntKind.i64.wrap 3 = 3 := i64_in _ (by omega)
  have w4 : IntKind.i64.wrap 4 = 4 := i64_in _ (by omega)
  simp only [c101, G0, Nat.reduceAdd]
  simp only [↓R0, R1, simprocAttr, -Int.reduceAbs, spId8, rdS, spIGcd, ints, gcds, mkSl, i40, i30, i43, List.foldl_cons, List.foldl_nil, Nat.gcd_zero_left, List.forall_mem_cons, h1, h2, h3, h4, List.not_mem_nil, false_implies, implies_true, eg, hGG, t1, t2, t3, hg3l, f1, Int.natAbs_natCast, spISign, iE]
  refine lp_step ?_
  simp only [↓R0, R1, simprocAttr, -Int.reduceAbs, spIDiv, h1, h2, h3, h4, hGl, f1, f2, f6, w1, w2, w3, w4, iE]
  refine lp_step ?_
  simp only [↓R0, R1, simprocAttr, -Int.reduceAbs, spIDiv, h1, h2, h3, h4, hGl, f1, f2, f6, w1, w2, w3, w4, iE]
  refine lp_step ?_
  simp only [↓R0, R1, simprocAttr, -Int.reduceAbs, spIDiv, h1, h2, h3, h4, hGl, f1, f2, f6, w1, w2, w3, w4, iE]
  refine lp_step ?_
  simp only [↓R0, R1, simprocAttr, -Int.reduceAbs, spIDiv, h1, h2, h3, h4, hGl, f1, f2, f6, w1, w2, w3, w4, iE]
  refine lp_step ?_
  simp only [↓R0, R1, simprocAttr, -Int.reduceAbs, spId8, Fin, isEnd, resL, res1, iE, rE]
  exact ⟨_, rfl, rfl, fun k hk => by simp only [ne_nb hk, if_false]⟩
end Go.Eng
end
section
set_option linter.unusedVariables false
set_option linter.unusedSimpArgs false
set_option linter.unusedSectionVars false
set_option maxRecDepth 20000
namespace Go.Eng
open Go Go.Proofs Go.IntWalk
end Go.Eng
end
section
set_option linter.unusedVariables false
set_option linter.unusedSimpArgs false
set_option linter.unusedSectionVars false
set_option maxRecDepth 20000
namespace Go.Eng
open Go Go.Proofs Go.IntWalk
def spLnThrough : List Value → Option Value
  | [.agg ⟨[.bool s1, .string ⟨⟨l1⟩⟩, .bool s2, .string ⟨⟨l2⟩⟩, .bool s3, .string ⟨⟨l3⟩⟩, .bool s4, .string ⟨⟨l4⟩⟩]⟩, .agg ⟨[.bool t1, .string ⟨⟨m1⟩⟩, .bool t2, .string ⟨⟨m2⟩⟩, .bool t3, .string ⟨⟨m3⟩⟩, .bool t4, .string ⟨⟨m4⟩⟩]⟩, .agg ⟨[.bool q1, .string ⟨⟨k1⟩⟩, .bool q2, .string ⟨⟨k2⟩⟩, .bool q3, .string ⟨⟨k3⟩⟩, .bool q4, .string ⟨⟨k4⟩⟩]⟩] =>
    if l1.length ≤ 1073741824 ∧ l2.length ≤ 1073741824 ∧ l3.length ≤ 1073741824 ∧ l4.length ≤ 1073741824 ∧ m1.length ≤ 1073741824 ∧ m2.length ≤ 1073741824 ∧ m3.length ≤ 1073741824 ∧ m4.length ≤ 1073741824 ∧ k1.length ≤ 1073741824 ∧ k2.length ≤ 1073741824 ∧ k3.length ≤ 1073741824 ∧ k4.length ≤ 1073741824 then
      (if (thC (sv s1 l1) (sv s2 l2) (sv s3 l3) (sv s4 l4) (sv t1 m1) (sv t2 m2) (sv t3 m3) (sv t4 m4) (sv q1 k1) (sv q2 k2) (sv q3 k3) (sv q4 k4)).x = 0 ∧ (thC (sv s1 l1) (sv s2 l2) (sv s3 l3) (sv s4 l4) (sv t1 m1) (sv t2 m2) (sv t3 m3) (sv t4 m4) (sv q1 k1) (sv q2 k2) (sv q3 k3) (sv q4 k4)).y = 0 ∧ (thC (sv s1 l1) (sv s2 l2) (sv s3 l3) (sv s4 l4) (sv t1 m1) (sv t2 m2) (sv t3 m3) (sv t4 m4) (sv q1 k1) (sv q2 k2) (sv q3 k3) (sv q4 k4)).z = 0 then some (.tuple ⟨[.agg ⟨pZ⟩, .bool false]⟩)
        else some (.tuple ⟨[.agg ⟨lE (thC (sv s1 l1) (sv s2 l2) (sv s3 l3) (sv s4 l4) (sv t1 m1) (sv t2 m2) (sv t3 m3) (sv t4 m4) (sv q1 k1) (sv q2 k2) (sv q3 k3) (sv q4 k4)).x (thC (sv s1 l1) (sv s2 l2) (sv s3 l3) (sv s4 l4) (sv t1 m1) (sv t2 m2) (sv t3 m3) (sv t4 m4) (sv q1 k1) (sv q2 k2) (sv q3 k3) (sv q4 k4)).y (thC (sv s1 l1) (sv s2 l2) (sv s3 l3) (sv s4 l4) (sv t1 m1) (sv t2 m2) (sv t3 m3) (sv t4 m4) (sv q1 k1) (sv q2 k2) (sv q3 k3) (sv q4 k4)).z (thC (sv s1 l1) (sv s2 l2) (sv s3 l3) (sv s4 l4) (sv t1 m1) (sv t2 m2) (sv t3 m3) (sv t4 m4) (sv q1 k1) (sv q2 k2) (sv q3 k3) (sv q4 k4)).w⟩, .bool true]⟩)) else none
  | _ => none
def c58 : ICode :=
  (.seq (.reg [qq 3 (.box 30 8 (.t 0)), qq 4 (.box 30 8 (.t 1)), qq 5 (.box 30 8 (.t 2)), qq 6 (.alloc 25 8 [(.bool false), e0, (.bool false), e0, (.bool false), e0, (.bool false), e0]), qq 7 (.mv (.c (.bool false)))]) (.seq (.dreg [qu 15 (.load true 8 (.t 3)), qu 16 (.load true 8 (.t 4)), qu 17 (.call 99 [(.t 15), (.t 16)]), qv 18 [2] (.load true 8 (.t 3)), qv 19 [2] (.load true 8 (.t 5)), qu 20 (.call 99 [(.t 18), (.t 19)]), qu 8 (.alloc 59 6 [(.bool false), e0, (.bool false), e0, (.bool false), e0]), qu 9 (.alloc 59 6 [(.bool false), e0, (.bool false), e0, (.bool false), e0]), qm (.store 6 (.t 8) (.t 17)), qm (.store 6 (.t 9) (.t 20))]) (.seq (.reg [qq 10 (.alloc 108 8 [(.bool false), e0, (.bool false), e0, (.bool false), e0, (.bool false), e0])]) (.seq (.seq (.reg [qq 21 (.mv (ci 0))]) (.block 0 (.loop (.seq (.reg [qq 22 (.bin .lss (.t 21) (ci 3))]) (.seq (.cond (.t 22) .skip (.exit 0)) (.seq (.block 1 (.seq (.reg [qq 23 (.mv (.t 21)), qq 11 (.mv (.t 23))]) (.seq (.reg [qq 24 (.mv (.t 11)), qq 25 (.bin .add (.t 24) (ci 1)), qq 26 (.bin .rem (.t 25) (ci 3)), qq 27 (.mv (.t 11)), qq 28 (.bin .add (.t 27) (ci 2)), qq 29 (.bin .rem (.t 28) (ci 3)), qq 12 (.mv (.t 26)), qq 13 (.mv (.t 29))]) (.dreg [qu 30 (.mv (.t 11)), qu 31 (.mv (.t 12)), qu 32 (.ixarr 3 2 (.t 8) (.t 31)), qu 33 (.load true 2 (.t 32)), qu 34 (.mv (.t 13)), qu 35 (.ixarr 3 2 (.t 8) (.t 34)), qu 36 (.load true 2 (.t 35)), qu 37 (.mv (.t 12)), qu 38 (.ixarr 3 2 (.t 9) (.t 37)), qu 39 (.load true 2 (.t 38)), qu 40 (.mv (.t 13)), qu 41 (.ixarr 3 2 (.t 9) (.t 40)), qu 42 (.load true 2 (.t 41)), qu 43 (.call 100 [(.t 33), (.t 36), (.t 39), (.t 42)]), qu 44 (.ixarr 4 2 (.t 10) (.t 30)), qm (.store 2 (.t 44) (.t 43))])))) (.reg [qq 45 (.bin .add (.t 21) (ci 1)), qq 21 (.mv (.t 45))]))))))) (.seq (.dreg [qu 46 (.ixarr 4 2 (.t 10) (ci 0)), qu 47 (.load true 2 (.t 46)), qu 48 (.faddr 0 (.t 3)), qu 49 (.load true 2 (.t 48)), qu 50 (.call 35 [(.t 47), (.t 49)]), qu 51 (.ixarr 4 2 (.t 10) (ci 1)), qv 52 [4] (.load true 2 (.t 51)), qu 53 (.faddr 2 (.t 3)), qv 54 [4] (.load true 2 (.t 53)), qu 55 (.call 35 [(.t 52), (.t 54)]), qu 56 (.call 34 [(.t 50), (.t 55)]), qu 57 (.ixarr 4 2 (.t 10) (ci 2)), qv 58 [4, 9, 10] (.load true 2 (.t 57)), qu 59 (.faddr 4 (.t 3)), qv 60 [4, 9, 10] (.load true 2 (.t 59)), qu 61 (.call 35 [(.t 58), (.t 60)]), qu 62 (.call 34 [(.t 56), (.t 61)]), qu 63 (.ixarr 4 2 (.t 10) (ci 3)), qm (.store 2 (.t 63) (.t 62))]) (.seq (.seq (.reg [qq 64 (.mv (ci 0))]) (.block 2 (.loop (.seq (.reg [qq 65 (.bin .lss (.t 64) (ci 3))]) (.seq (.cond (.t 65) .skip (.exit 2)) (.seq (.block 3 (.seq (.reg [qq 66 (.mv (.t 64)), qq 14 (.mv (.t 66))]) (.dreg [qu 67 (.mv (.t 14)), qu 68 (.mv (.t 14)), qu 69 (.ixarr 4 2 (.t 10) (.t 68)), qu 70 (.load true 2 (.t 69)), qu 71 (.faddr 6 (.t 3)), qu 72 (.load true 2 (.t 71)), qu 73 (.call 35 [(.t 70), (.t 72)]), qu 74 (.ixarr 4 2 (.t 10) (.t 67)), qm (.store 2 (.t 74) (.t 73))]))) (.reg [qq 75 (.bin .add (.t 64) (ci 1)), qq 64 (.mv (.t 75))]))))))) (.seq (.reg [qq 76 (.load true 8 (.t 10)), qq 77 (.call 102 [(.t 76)]), qq 78 (.call 101 [(.t 77)]), qq 79 (.ext (.t 78) 0), qq 80 (.ext (.t 78) 1), qn (.store 8 (.t 6) (.t 79)), qq 7 (.mv (.t 80))]) .ret)))))))
theorem tr58 : trFun Tryz.prog 58 = some ⟨81, [.cell 6 true 8, .t 7], c58⟩ := by kernel_rfl
set_option maxHeartbeats 4000000 in
theorem ok_lnThrough : SpecOK Tryz.prog 58 (flat spLnThrough) := by
  refine flat_run (env_cons ok_lnAway (env_cons ok_lnMinor (env_cons ok_iMul (env_cons ok_iAdd (env_cons ok_lnOf (env_cons ok_lnNorm (env_nil _))))))) mixed tr58 ?_
  intro args v h N hG
  unfold spLnThrough at hG
  split at hG
  case h_2 => cases hG
  rename_i s1 l1 s2 l2 s3 l3 s4 l4 t1 m1 t2 m2 t3 m3 t4 m4 q1 k1 q2 k2 q3 k3 q4 k4
  split at hG
  case isFalse => cases hG
  rename_i hl
  obtain ⟨h1, h2, h3, h4, h5, h6, h7, h8, h9, h10, h11, h12⟩ := hl
  have a1 := len_sv (s := s1) h1
  have a2 := len_sv (s := s2) h2
  have a3 := len_sv (s := s3) h3
  have a4 := len_sv (s := s4) h4
  have b1 := len_sv (s := t1) h5
  have b2 := len_sv (s := t2) h6
  have b3 := len_sv (s := t3) h7
  have b4 := len_sv (s := t4) h8
  have d1 := len_sv (s := q1) h9
  have d2 := len_sv (s := q2) h10
  have d3 := len_sv (s := q3) h11
  have d4 := len_sv (s := q4) h12
  have g1 : l1.length ≤ 17179869184 := by omega
  have g2 : l2.length ≤ 17179869184 := by omega
  have g3 : l3.length ≤ 17179869184 := by omega
  have g4 : l4.length ≤ 17179869184 := by omega
  have g5 : m1.length ≤ 17179869184 := by omega
  have g6 : m2.length ≤ 17179869184 := by omega
  have g7 : m3.length ≤ 17179869184 := by omega
  have g8 : m4.length ≤ 17179869184 := by omega
  have g9 : k1.length ≤ 17179869184 := by omega
  have g10 : k2.length ≤ 17179869184 := by omega
  have g11 : k3.length ≤ 17179869184 := by omega
  have g12 : k4.length ≤ 17179869184 := by omega
  have f1 : l1.length ≤ 34359738368 := by omega
  have f2 : l2.length ≤ 34359738368 := by omega
  have f3 : l3.length ≤ 34359738368 := by omega
  have f4 : l4.length ≤ 34359738368 := by omega
  obtain ⟨A1, eA1⟩ : ∃ x, sv s1 l1 = x := ⟨_, rfl⟩
  obtain ⟨A2, eA2⟩ : ∃ x, sv s2 l2 = x := ⟨_, rfl⟩
  obtain ⟨A3, eA3⟩ : ∃ x, sv s3 l3 = x := ⟨_, rfl⟩
  obtain ⟨A4, eA4⟩ : ∃ x, sv s4 l4 = x := ⟨_, rfl⟩
  obtain ⟨B1, eB1⟩ : ∃ x, sv t1 m1 = x := ⟨_, rfl⟩
  obtain ⟨B2, eB2⟩ : ∃ x, sv t2 m2 = x := ⟨_, rfl⟩
  obtain ⟨B3, eB3⟩ : ∃ x, sv t3 m3 = x := ⟨_, rfl⟩
  obtain ⟨B4, eB4⟩ : ∃ x, sv t4 m4 = x := ⟨_, rfl⟩
  obtain ⟨D1, eD1⟩ : ∃ x, sv q1 k1 = x := ⟨_, rfl⟩
  obtain ⟨D2, eD2⟩ : ∃ x, sv q2 k2 = x := ⟨_, rfl⟩
  obtain ⟨D3, eD3⟩ : ∃ x, sv q3 k3 = x := ⟨_, rfl⟩
  obtain ⟨D4, eD4⟩ : ∃ x, sv q4 k4 = x := ⟨_, rfl⟩
  rw [eA1, eA2, eA3, eA4, eB1, eB2, eB3, eB4, eD1, eD2, eD3, eD4] at hG
  rw [eA1] at a1; rw [eA2] at a2; rw [eA3] at a3; rw [eA4] at a4
  rw [eB1] at b1; rw [eB2] at b2; rw [eB3] at b3; rw [eB4] at b4
  rw [eD1] at d1; rw [eD2] at d2; rw [eD3] at d3; rw [eD4] at d4
  have lu : ∀ {x y w v : Int}, (bl x.natAbs).length ≤ 1073741824 → (bl y.natAbs).length ≤ 1073741824 → (bl w.natAbs).length ≤ 1073741824 → (bl v.natAbs).length ≤ 1073741824 → (bl (y * w - x * v).natAbs).length ≤ 4294967296 :=
    fun hx hy hw hv => lsub (lmul (k := 2147483648) hy hw (by omega)) (lmul (k := 2147483648) hx hv (by omega)) (by omega)
  have u1 := lu a1 b1 a4 b4
  have u2 := lu a2 b2 a4 b4
  have u3 := lu a3 b3 a4 b4
  have v1 := lu a1 d1 a4 d4
  have v2 := lu a2 d2 a4 d4
  have v3 := lu a3 d3 a4 d4
  clear lu
  unfold thC thN aw at hG
  obtain ⟨U1, eU1⟩ : ∃ x, B1 * A4 - A1 * B4 = x := ⟨_, rfl⟩
  obtain ⟨U2, eU2⟩ : ∃ x, B2 * A4 - A2 * B4 = x := ⟨_, rfl⟩
  obtain ⟨U3, eU3⟩ : ∃ x, B3 * A4 - A3 * B4 = x := ⟨_, rfl⟩
  obtain ⟨V1, eV1⟩ : ∃ x, D1 * A4 - A1 * D4 = x := ⟨_, rfl⟩
  obtain ⟨V2, eV2⟩ : ∃ x, D2 * A4 - A2 * D4 = x := ⟨_, rfl⟩
  obtain ⟨V3, eV3⟩ : ∃ x, D3 * A4 - A3 * D4 = x := ⟨_, rfl⟩
  rw [eU1] at u1; rw [eU2] at u2; rw [eU3] at u3; rw [eV1] at v1; rw [eV2] at v2; rw [eV3] at v3
  rw [eU1, eU2, eU3, eV1, eV2, eV3] at hG
  have ln : ∀ {x y w v : Int}, (bl x.natAbs).length ≤ 4294967296 → (bl y.natAbs).length ≤ 4294967296 → (bl w.natAbs).length ≤ 4294967296 → (bl v.natAbs).length ≤ 4294967296 → (bl (x * v - y * w).natAbs).length ≤ 17179869184 :=
    fun hx hy hw hv => lsub (lmul (k := 8589934592) hx hv (by omega)) (lmul (k := 8589934592) hy hw (by omega)) (by omega)
  have n1 := ln u2 u3 v2 v3
  have n2 := ln u3 u1 v3 v1
  have n3 := ln u1 u2 v1 v2
  clear ln
  obtain ⟨N1, eN1⟩ : ∃ x, U2 * V3 - U3 * V2 = x := ⟨_, rfl⟩
  obtain ⟨N2, eN2⟩ : ∃ x, U3 * V1 - U1 * V3 = x := ⟨_, rfl⟩
  obtain ⟨N3, eN3⟩ : ∃ x, U1 * V2 - U2 * V1 = x := ⟨_, rfl⟩
  rw [eN1] at n1; rw [eN2] at n2; rw [eN3] at n3
  rw [eN1, eN2, eN3] at hG
  have lp : ∀ {x y : Int}, (bl x.natAbs).length ≤ 17179869184 → (bl y.natAbs).length ≤ 1073741824 → (bl (x * y).natAbs).length ≤ 25769803776 :=
    fun hx hy => lmul hx hy (by omega)
  have p1 := lp n1 a1
  have p2 := lp n2 a2
  have p3 := lp n3 a3
  have r1 := lle (k := 34359738368) (lp n1 a4) (by omega)
  have r2 := lle (k := 34359738368) (lp n2 a4) (by omega)
  have r3 := lle (k := 34359738368) (lp n3 a4) (by omega)
  clear lp
  have x1 := lle (k := 68719476736) p1 (by omega)
  have x2 := lle (k := 68719476736) p2 (by omega)
  have x3 := lle (k := 68719476736) p3 (by omega)
  have y1 := ladd (k := 25769803777) p1 p2 (by omega)
  have y2 := lle (k := 68719476736) y1 (by omega)
  have y3 := ladd (k := 34359738368) y1 p3 (by omega)
  have o1 := lle (k := 34359738368) n1 (by omega)
  have o2 := lle (k := 34359738368) n2 (by omega)
  have o3 := lle (k := 34359738368) n3 (by omega)
  have e1 := lle (k := 17179869184) u1 (by omega)
  have e2 := lle (k := 17179869184) u2 (by omega)
  have e3 := lle (k := 17179869184) u3 (by omega)
  have e4 := lle (k := 17179869184) v1 (by omega)
  have e5 := lle (k := 17179869184) v2 (by omega)
  have e6 := lle (k := 17179869184) v3 (by omega)
  clear a1 a2 a3 a4 b1 b2 b3 b4 d1 d2 d3 d4 u1 u2 u3 v1 v2 v3 n1 n2 n3 p1 p2 p3 y1
  have w1 : IntKind.i64.wrap 1 = 1 := i64_in _ (by omega)
  have w2 : IntKind.i64.wrap 2 = 2 := i64_in _ (by omega)
  have w3 : IntKind.i64.wrap 3 = 3 := i64_in _ (by omega)
  have w4 : IntKind.i64.wrap 4 = 4 := i64_in _ (by omega)
  have i1 : Int.tmod 1 3 = 1 := rfl
  have i2 : Int.tmod 2 3 = 2 := rfl
  have i3 : Int.tmod 3 3 = 0 := rfl
  have i4 : Int.tmod 4 3 = 1 := rfl
  split at hG
  · rename_i h0
    have hh := eq_true h0
    cases hG
    refine ⟨rfl, by simp, ?_⟩
    simp only [c58, G0, Nat.reduceAdd]
    simp only [↓R0, R1, simprocAttr, -Int.reduceAbs, spLnAway, g1, g2, g3, g4, g5, g6, g7, g8, g9, g10, g11, g12, eA1, eA2, eA3, eA4, eB1, eB2, eB3, eB4, eD1, eD2, eD3, eD4, eU1, eU2, eU3, eV1, eV2, eV3, tE, iE]
    refine lp_step ?_
    simp only [↓R0, R1, simprocAttr, -Int.reduceAbs, e1, e2, e3, e4, e5, e6, eN1, eN2, eN3, w1, w2, w3, w4, i1, i2, i3, i4, spLnMinor, iE]
    refine lp_step ?_
    simp only [↓R0, R1, simprocAttr, -Int.reduceAbs, e1, e2, e3, e4, e5, e6, eN1, eN2, eN3, w1, w2, w3, w4, i1, i2, i3, i4, spLnMinor, iE]
    refine lp_step ?_
    simp only [↓R0, R1, simprocAttr, -Int.reduceAbs, e1, e2, e3, e4, e5, e6, eN1, eN2, eN3, w1, w2, w3, w4, i1, i2, i3, i4, spLnMinor, iE]
    refine lp_step ?_
    simp only [↓R0, R1, simprocAttr, -Int.reduceAbs, o1, o2, o3, f1, f2, f3, f4, eA1, eA2, eA3, eA4, x1, x2, x3, y2, spIMul, spIAdd, iE]
    refine lp_step ?_
    simp only [↓R0, R1, simprocAttr, -Int.reduceAbs, o1, o2, o3, f1, f2, f3, f4, eA1, eA2, eA3, eA4, w1, w2, w3, spIMul, iE]
    refine lp_step ?_
    simp only [↓R0, R1, simprocAttr, -Int.reduceAbs, o1, o2, o3, f1, f2, f3, f4, eA1, eA2, eA3, eA4, w1, w2, w3, spIMul, iE]
    refine lp_step ?_
    simp only [↓R0, R1, simprocAttr, -Int.reduceAbs, o1, o2, o3, f1, f2, f3, f4, eA1, eA2, eA3, eA4, w1, w2, w3, spIMul, iE]
    refine lp_step ?_
    simp only [↓R0, R1, simprocAttr, -Int.reduceAbs, spId8, spLnNorm, r1, r2, r3, y3, hh, pZ, lE, Fin, isEnd, resL, res1, iE, rE]
    exact ⟨_, rfl, rfl, fun k hk => by simp only [ne_nb hk, if_false]⟩
  · rename_i h0
    have hh := eq_false h0
    cases hG
    refine ⟨rfl, by simp, ?_⟩
    simp only [c58, G0, Nat.reduceAdd]
    simp only [↓R0, R1, simprocAttr, -Int.reduceAbs, spLnAway, g1, g2, g3, g4, g5, g6, g7, g8, g9, g10, g11, g12, eA1, eA2, eA3, eA4, eB1, eB2, eB3, eB4, eD1, eD2, eD3, eD4, eU1, eU2, eU3, eV1, eV2, eV3, tE, iE]
    refine lp_step ?_
    simp only [↓R0, R1, simprocAttr, -Int.reduceAbs, e1, e2, e3, e4, e5, e6, eN1, eN2, eN3, w1, w2, w3, w4, i1, i2, i3, i4, spLnMinor, iE]
    refine lp_step ?_
    simp only [↓R0, R1, simprocAttr, -Int.reduceAbs, e1, e2, e3, e4, e5, e6, eN1, eN2, eN3, w1, w2, w3, w4, i1, i2, i3, i4, spLnMinor, iE]
    refine lp_step ?_
    simp only [↓R0, R1, simprocAttr, -Int.reduceAbs, e1, e2, e3, e4, e5, e6, eN1, eN2, eN3, w1, w2, w3, w4, i1, i2, i3, i4, spLnMinor, iE]
    refine lp_step ?_
    simp only [↓R0, R1, simprocAttr, -Int.reduceAbs, o1, o2, o3, f1, f2, f3, f4, eA1, eA2, eA3, eA4, x1, x2, x3, y2, spIMul, spIAdd, iE]
    refine lp_step ?_
    simp only [↓R0, R1, simprocAttr, -Int.reduceAbs, o1, o2, o3, f1, f2, f3, f4, eA1, eA2, eA3, eA4, w1, w2, w3, spIMul, iE]
    refine lp_step ?_
    simp only [↓R0, R1, simprocAttr, -Int.reduceAbs, o1, o2, o3, f1, f2, f3, f4, eA1, eA2, eA3, eA4, w1, w2, w3, spIMul, iE]
    refine lp_step ?_
    simp only [↓R0, R1, simprocAttr, -Int.reduceAbs, o1, o2, o3, f1, f2, f3, f4, eA1, eA2, eA3, eA4, w1, w2, w3, spIMul, iE]
    refine lp_step ?_
    simp only [↓R0, R1, simprocAttr, -Int.reduceAbs, spId8, spLnNorm, r1, r2, r3, y3, hh, pZ, lE, Fin, isEnd, resL, res1, iE, rE]
    exact ⟨_, rfl, rfl, fun k hk => by simp only [ne_nb hk, if_false]⟩
end Go.Eng
end
section
set_option linter.unusedVariables false
set_option linter.unusedSimpArgs false
set_option linter.unusedSectionVars false
set_option maxRecDepth 20000
namespace Go.Eng
open Go Go.Proofs Go.IntWalk
def spXCollin : List Value → Option Value
  | [.agg ⟨[.bool s1, .string ⟨⟨l1⟩⟩, .bool s2, .string ⟨⟨l2⟩⟩, .bool s3, .string ⟨⟨l3⟩⟩, .bool s4, .string ⟨⟨l4⟩⟩]⟩, .agg ⟨[.bool t1, .string ⟨⟨m1⟩⟩, .bool t2, .string ⟨⟨m2⟩⟩, .bool t3, .string ⟨⟨m3⟩⟩, .bool t4, .string ⟨⟨m4⟩⟩]⟩, .agg ⟨[.bool q1, .string ⟨⟨k1⟩⟩, .bool q2, .string ⟨⟨k2⟩⟩, .bool q3, .string ⟨⟨k3⟩⟩, .bool q4, .string ⟨⟨k4⟩⟩]⟩] =>
    if (l1.length ≤ 67108864 ∧ l2.length ≤ 67108864 ∧ l3.length ≤ 67108864 ∧ l4.length ≤ 67108864 ∧ m1.length ≤ 67108864 ∧ m2.length ≤ 67108864 ∧ m3.length ≤ 67108864 ∧ m4.length ≤ 67108864 ∧ k1.length ≤ 67108864 ∧ k2.length ≤ 67108864 ∧ k3.length ≤ 67108864 ∧ k4.length ≤ 67108864) ∧ sv s4 l4 ≠ 0 then
      some (.bool (decide (flt (sv s1 l1) (sv s2 l2) (sv s3 l3) (sv s4 l4) (sv t1 m1) (sv t2 m2) (sv t3 m3) (sv t4 m4) (sv q1 k1) (sv q2 k2) (sv q3 k3) (sv q4 k4)))) else none
  | _ => none
def c19 : ICode :=
  (.seq (.reg [qq 3 (.box 30 8 (.t 0)), qq 4 (.box 30 8 (.t 1)), qq 5 (.box 30 8 (.t 2)), qq 6 (.mv (.c (.bool false)))]) (.seq (.reg [qq 10 (.load true 8 (.t 3)), qq 11 (.load true 8 (.t 4)), qq 12 (.load true 8 (.t 5)), qq 13 (.call 58 [(.t 10), (.t 11), (.t 12)]), qq 9 (.mv (.t 13)), qq 14 (.ext (.t 9) 0), qq 15 (.ext (.t 9) 1), qq 7 (.alloc 25 8 [(.bool false), e0, (.bool false), e0, (.bool false), e0, (.bool false), e0]), qn (.store 8 (.t 7) (.t 14)), qq 8 (.mv (.t 15))]) (.seq (.reg [qq 16 (.mv (.t 8)), qq 17 (.un .not (.t 16)), qq 6 (.mv (.t 17))]) .ret)))
theorem tr19 : trFun Tryz.prog 19 = some ⟨18, [.t 6], c19⟩ := by kernel_rfl
set_option maxHeartbeats 2000000 in
theorem ok_xCollin : SpecOK Tryz.prog 19 (flat spXCollin) := by
  refine flat_run (env_cons ok_lnThrough (env_nil _)) mixed tr19 ?_
  intro args v h N hG
  unfold spXCollin at hG
  split at hG
  case h_2 => cases hG
  rename_i s1 l1 s2 l2 s3 l3 s4 l4 t1 m1 t2 m2 t3 m3 t4 m4 q1 k1 q2 k2 q3 k3 q4 k4
  split at hG
  case isFalse => cases hG
  rename_i hl
  obtain ⟨⟨h1, h2, h3, h4, h5, h6, h7, h8, h9, h10, h11, h12⟩, hne⟩ := hl
  have hF := thC_zero (a1 := sv s1 l1) (a2 := sv s2 l2) (a3 := sv s3 l3) (b1 := sv t1 m1) (b2 := sv t2 m2) (b3 := sv t3 m3) (b4 := sv t4 m4) (c1 := sv q1 k1) (c2 := sv q2 k2) (c3 := sv q3 k3) (c4 := sv q4 k4) hne
  obtain ⟨T, hT⟩ : ∃ T, thC (sv s1 l1) (sv s2 l2) (sv s3 l3) (sv s4 l4) (sv t1 m1) (sv t2 m2) (sv t3 m3) (sv t4 m4) (sv q1 k1) (sv q2 k2) (sv q3 k3) (sv q4 k4) = T := ⟨_, rfl⟩
  rw [hT] at hF
  obtain ⟨x, y, z, w⟩ := T
  simp only at hF
  have g1 : l1.length ≤ 1073741824 := by omega
  have g2 : l2.length ≤ 1073741824 := by omega
  have g3 : l3.length ≤ 1073741824 := by omega
  have g4 : l4.length ≤ 1073741824 := by omega
  have g5 : m1.length ≤ 1073741824 := by omega
  have g6 : m2.length ≤ 1073741824 := by omega
  have g7 : m3.length ≤ 1073741824 := by omega
  have g8 : m4.length ≤ 1073741824 := by omega
  have g9 : k1.length ≤ 1073741824 := by omega
  have g10 : k2.length ≤ 1073741824 := by omega
  have g11 : k3.length ≤ 1073741824 := by omega
  have g12 : k4.length ≤ 1073741824 := by omega
  cases hG
  refine ⟨rfl, by simp, ?_⟩
  by_cases h0 : x = 0 ∧ y = 0 ∧ z = 0
  · have hd := eq_true (hF ▸ h0)
    have hh := eq_true h0
    simp only [c19, G0, Nat.reduceAdd]
    simp only [↓R0, R1, simprocAttr, -Int.reduceAbs, spLnThrough, g1, g2, g3, g4, g5, g6, g7, g8, g9, g10, g11, g12, hT, hh, pZ, hd, Bool.not_false, Bool.not_true, Fin, isEnd, resL, res1, iE, rE]
    exact ⟨_, rfl, rfl, fun k hk => by simp only [ne_nb hk, if_false]⟩
  · have hh := eq_false h0
    have hd := eq_false (hF ▸ h0)
    simp only [c19, G0, Nat.reduceAdd]
    simp only [↓R0, R1, simprocAttr, -Int.reduceAbs, spLnThrough, g1, g2, g3, g4, g5, g6, g7, g8, g9, g10, g11, g12, hT, hh, lE, hd, Bool.not_false, Bool.not_true, Fin, isEnd, resL, res1, iE, rE]
    exact ⟨_, rfl, rfl, fun k hk => by simp only [ne_nb hk, if_false]⟩
end Go.Eng
end
section
set_option linter.unusedVariables false
set_option linter.unusedSimpArgs false
set_option linter.unusedSectionVars false
namespace Go.Eng
def lex3 (x y z : Int) : Int := if x.sign = 0 then (if y.sign = 0 then z.sign else y.sign) else x.sign
def cmp4 (a1 a2 a3 a4 b1 b2 b3 b4 : Int) : Int := lex3 (a1 * b4 - b1 * a4) (a2 * b4 - b2 * a4) (a3 * b4 - b3 * a4)
theorem sg_cases (x : Int) : (x.sign = 1 ∧ 0 < x) ∨ (x.sign = 0 ∧ x = 0) ∨ (x.sign = -1 ∧ x < 0) := by
  rcases Int.lt_trichotomy x 0 with h | h | h
  · exact .inr (.inr ⟨Int.sign_eq_neg_one_of_neg h, h⟩)
  · exact .inr (.inl ⟨by rw [h]; rfl, h⟩)
  · exact .inl ⟨Int.sign_eq_one_of_pos h, h⟩
theorem lex3_vals (x y z : Int) : -1 ≤ lex3 x y z ∧ lex3 x y z ≤ 1 := by
  unfold lex3
  rcases sg_cases x with ⟨h, _⟩ | ⟨h, _⟩ | ⟨h, _⟩ <;> rcases sg_cases y with ⟨g, _⟩ | ⟨g, _⟩ | ⟨g, _⟩ <;> rcases sg_cases z with ⟨k, _⟩ | ⟨k, _⟩ | ⟨k, _⟩ <;> rw [h, g, k] <;> decide
theorem lex3_neg (x y z : Int) : lex3 (-x) (-y) (-z) = -lex3 x y z := by
  unfold lex3
  rw [Int.sign_neg, Int.sign_neg, Int.sign_neg]
  rcases sg_cases x with ⟨h, _⟩ | ⟨h, _⟩ | ⟨h, _⟩ <;> rcases sg_cases y with ⟨g, _⟩ | ⟨g, _⟩ | ⟨g, _⟩ <;> rcases sg_cases z with ⟨k, _⟩ | ⟨k, _⟩ | ⟨k, _⟩ <;> rw [h, g, k] <;> decide
theorem lex3_zero {x y z : Int} (h : lex3 x y z = 0) : x = 0 ∧ y = 0 ∧ z = 0 := by
  unfold lex3 at h
  rcases sg_cases x with ⟨e, p⟩ | ⟨e, p⟩ | ⟨e, p⟩ <;> rcases sg_cases y with ⟨g, q⟩ | ⟨g, q⟩ | ⟨g, q⟩ <;> rcases sg_cases z with ⟨k, r⟩ | ⟨k, r⟩ | ⟨k, r⟩ <;> rw [e, g, k] at h <;> first | exact ⟨p, q, r⟩ | exact absurd h (by decide)
theorem cmp4_vals (a1 a2 a3 a4 b1 b2 b3 b4 : Int) : -1 ≤ cmp4 a1 a2 a3 a4 b1 b2 b3 b4 ∧ cmp4 a1 a2 a3 a4 b1 b2 b3 b4 ≤ 1 := lex3_vals ..
theorem cmp4_neg (a1 a2 a3 a4 b1 b2 b3 b4 : Int) : cmp4 b1 b2 b3 b4 a1 a2 a3 a4 = -cmp4 a1 a2 a3 a4 b1 b2 b3 b4 := by
  unfold cmp4; rw [← lex3_neg, Int.neg_sub, Int.neg_sub, Int.neg_sub]
theorem cmp4_zero {a1 a2 a3 a4 b1 b2 b3 b4 : Int} (h : cmp4 a1 a2 a3 a4 b1 b2 b3 b4 = 0) : a1 * b4 = b1 * a4 ∧ a2 * b4 = b2 * a4 ∧ a3 * b4 = b3 * a4 := by
  obtain ⟨h1, h2, h3⟩ := lex3_zero h
  exact ⟨by omega, by omega, by omega⟩
section
variable {x b a m n p : Int}
end
def btw (a1 a2 a3 a4 b1 b2 b3 b4 x1 x2 x3 x4 : Int) : Prop :=
  (¬ cmp4 a1 a2 a3 a4 x1 x2 x3 x4 = 0) ∧ cmp4 a1 a2 a3 a4 x1 x2 x3 x4 = cmp4 x1 x2 x3 x4 b1 b2 b3 b4 ∧ flt a1 a2 a3 a4 b1 b2 b3 b4 x1 x2 x3 x4
instance {a1 a2 a3 a4 b1 b2 b3 b4 x1 x2 x3 x4 : Int} : Decidable (btw a1 a2 a3 a4 b1 b2 b3 b4 x1 x2 x3 x4) := by unfold btw; infer_instance
end Go.Eng
end
