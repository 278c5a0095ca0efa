/-
  A part of the proof: the machine, the contracts of the functions and the plain laws, merged from smaller texts.
-/
import Derived.Test.YtcmhlhgddifpeaaDoorIn2
section
set_option linter.unusedVariables false
set_option linter.unusedSimpArgs false
set_option linter.unusedSectionVars false
set_option maxRecDepth 4000
namespace Go.Eng
open Go Go.Proofs Go.IntWalk
def spSmall : List Value → Option Value
  | [.string ⟨⟨l⟩⟩, .int .i64 n] => if l.length ≤ 137438953472 ∧ 0 ≤ n ∧ n ≤ 255 then some (.string ⟨⟨bl (nl l * n.toNat)⟩⟩) else none
  | _ => none
def c61 : ICode :=
  (.seq (.reg [⟨(some 4), none, (.mv (.c (.string ⟨⟨[]⟩⟩)))⟩])
  (.seq (.reg [⟨(some 5), none, (.mv (.t 0))⟩, ⟨(some 6), none, (.mv (.t 1))⟩, ⟨(some 7), none, (.conv .u8 (.t 6))⟩, ⟨(some 8), none, (.bslice 5 1 1 [(.int .u8 0)] [(0, 1, (.t 7))])⟩, ⟨(some 9), none, (.b2s (.t 8))⟩, ⟨(some 10), none, (.call 71 [(.t 5), (.t 9)])⟩, ⟨(some 4), none, (.mv (.t 10))⟩])
  .ret))
theorem tr61 : trFun Tryd.prog 61 = some ⟨11, [.t 4], c61⟩ := by kernel_rfl
theorem ok_r1Small : SpecOK Tryd.prog 61 (flat spSmall) := by
  refine flat_run (env_cons ok_r1Mul (env_nil _)) mixed tr61 ?_
  intro args v h N hG
  unfold spSmall at hG
  split at hG
  case h_2 => cases hG
  rename_i l n
  split at hG
  case isFalse => cases hG
  rename_i hl
  cases hG
  refine ⟨rfl, by simp, ?_⟩
  have e1 : IntKind.u8.wrap n = ((UInt8.ofNat n.toNat).toNat : Int) := by rw [u8_in _ (by omega)]; simp; omega
  have e2 : byteList [Value.int .u8 ((UInt8.ofNat n.toNat).toNat : Int)] = some [UInt8.ofNat n.toNat] := byteList_bc [UInt8.ofNat n.toNat]
  have e3 : l.length + 1 ≤ 274877906944 := by omega
  simp only [c61, initT, List.zipIdx_cons, List.zipIdx_nil, List.map_cons, List.map_nil, Nat.reduceAdd]
  simp only [↓R0, R1, rdL, rdH, isCall, istep, ibin, vcells, fillI, setR, flat, okCell, isBase, List.set, List.drop, List.take, List.append, bnds, bhi, blo, srcOf, ↓reduceIte, Nat.reduceEqDiff, Nat.reduceAdd, Nat.reduceLeDiff, reduceCtorEq, Nat.reduceSub, Int.reduceEq, Int.reduceLT, Int.reduceLE, Int.reduceGT, Int.reduceGE, Int.reduceSub, Int.reduceAdd, Int.reduceMul, Int.reduceNe, Int.reduceNeg, Int.reduceToNat, Nat.reduceMul, e1, e2, spMul, e3]
  refine fin_t trivial ?_ (fun k hk => by rw [hget_new hk])
  simp only [↓R0, R1, rdL, rdH, isCall, istep, ibin, vcells, fillI, setR, flat, okCell, isBase, List.set, List.drop, List.take, List.append, bnds, bhi, blo, srcOf, ↓reduceIte, Nat.reduceEqDiff, Nat.reduceAdd, Nat.reduceLeDiff, reduceCtorEq, Nat.reduceSub, Int.reduceEq, Int.reduceLT, Int.reduceLE, Int.reduceGT, Int.reduceGE, Int.reduceSub, Int.reduceAdd, Int.reduceMul, Int.reduceNe, Int.reduceNeg, Int.reduceToNat, Nat.reduceMul]
  have t : (UInt8.ofNat n.toNat).toNat = n.toNat := by simp; omega
  simp only [nl, t, Nat.mul_zero, Nat.add_zero]
def spDiv : List Value → Option Value
  | [.string ⟨⟨l⟩⟩, .string ⟨⟨m⟩⟩] => if l.length ≤ 68719476736 ∧ m.length ≤ 68719476736 then
      (if nl m = 0 then some (.tuple ⟨[.string ⟨⟨[]⟩⟩, .string ⟨⟨[]⟩⟩, .bool false]⟩) else some (.tuple ⟨[.string ⟨⟨bl (nl l / nl m)⟩⟩, .string ⟨⟨bl (nl l % nl m)⟩⟩, .bool true]⟩)) else none
  | _ => none
theorem cmpN_le {a b : Nat} : (cmpN a b ≤ 0) = (a ≤ b) := by
  apply propext
  unfold cmpN
  split
  · simp; omega
  · split
    · simp; omega
    · simp; omega
theorem bc_set (l : List UInt8) (i : Nat) (b : UInt8) : (bc l).set i (.int .u8 b.toNat) = bc (l.set i b) := by simp [bc, List.map_set]
def c47 : ICode :=
  (.seq (.reg [⟨(some 4), none, (.mv (.c (.string ⟨⟨[]⟩⟩)))⟩, ⟨(some 5), none, (.mv (.c (.string ⟨⟨[]⟩⟩)))⟩, ⟨(some 6), none, (.mv (.c (.bool false)))⟩])
  (.seq (.seq (.reg [⟨(some 13), none, (.mv (.t 1))⟩, ⟨(some 14), none, (.call 44 [(.t 13)])⟩, ⟨(some 15), none, (.bin .eql (.t 14) (.c (.string ⟨⟨[]⟩⟩)))⟩])
  (.cond (.t 15)
  (.seq (.reg [⟨(some 4), none, (.mv (.c (.string ⟨⟨[]⟩⟩)))⟩, ⟨(some 5), none, (.mv (.c (.string ⟨⟨[]⟩⟩)))⟩, ⟨(some 6), none, (.mv (.c (.bool false)))⟩])
  .ret)
  .skip))
  (.seq (.reg [⟨(some 16), none, (.mv (.t 0))⟩, ⟨(some 17), none, (.lens (.t 16))⟩, ⟨(some 18), none, (.mkslice 5 1 1 [(.int .u8 0)] (.t 17) (.t 17))⟩, ⟨(some 7), none, (.mv (.t 18))⟩])
  (.seq (.reg [⟨(some 8), none, (.mv (.c (.string ⟨⟨[]⟩⟩)))⟩])
  (.seq (.seq (.reg [⟨(some 19), none, (.mv (.t 0))⟩, ⟨(some 20), none, (.lens (.t 19))⟩, ⟨(some 21), none, (.bin .sub (.t 20) (.c (.int .i64 1)))⟩, ⟨(some 9), none, (.mv (.t 21))⟩])
  (.block 0 (.loop (.seq (.seq (.reg [⟨(some 22), none, (.mv (.t 9))⟩, ⟨(some 23), none, (.bin .geq (.t 22) (.c (.int .i64 0)))⟩])
  (.cond (.t 23)
  .skip
  (.exit 0)))
  (.seq (.block 1 (.seq (.reg [⟨(some 26), none, (.mv (.t 0))⟩, ⟨(some 27), none, (.mv (.t 9))⟩, ⟨(some 28), none, (.mv (.t 9))⟩, ⟨(some 29), none, (.bin .add (.t 28) (.c (.int .i64 1)))⟩, ⟨(some 30), none, (.slstr (.t 26) (some (.t 27)) (some (.t 29)))⟩, ⟨(some 31), none, (.mv (.t 8))⟩, ⟨(some 32), none, (.bin .add (.t 30) (.t 31))⟩, ⟨(some 33), none, (.call 44 [(.t 32)])⟩, ⟨(some 8), none, (.mv (.t 33))⟩])
  (.seq (.reg [⟨(some 10), none, (.mv (.c (.int .i64 0)))⟩])
  (.seq (.reg [⟨(some 11), none, (.mv (.c (.int .i64 255)))⟩])
  (.seq (.block 2 (.loop (.seq (.seq (.reg [⟨(some 34), none, (.mv (.t 10))⟩, ⟨(some 35), none, (.mv (.t 11))⟩, ⟨(some 36), none, (.bin .lss (.t 34) (.t 35))⟩])
  (.cond (.t 36)
  .skip
  (.exit 2)))
  (.block 3 (.seq (.reg [⟨(some 37), none, (.mv (.t 10))⟩, ⟨(some 38), none, (.mv (.t 11))⟩, ⟨(some 39), none, (.bin .add (.t 37) (.t 38))⟩, ⟨(some 40), none, (.bin .add (.t 39) (.c (.int .i64 1)))⟩, ⟨(some 41), none, (.bin .quo (.t 40) (.c (.int .i64 2)))⟩, ⟨(some 12), none, (.mv (.t 41))⟩])
  (.seq (.reg [⟨(some 42), none, (.mv (.t 1))⟩, ⟨(some 43), none, (.mv (.t 12))⟩, ⟨(some 44), none, (.call 61 [(.t 42), (.t 43)])⟩, ⟨(some 45), none, (.mv (.t 8))⟩, ⟨(some 46), none, (.call 60 [(.t 44), (.t 45)])⟩, ⟨(some 47), none, (.bin .leq (.t 46) (.c (.int .i64 0)))⟩])
  (.cond (.t 47)
  (.reg [⟨(some 48), none, (.mv (.t 12))⟩, ⟨(some 10), none, (.mv (.t 48))⟩])
  (.reg [⟨(some 49), none, (.mv (.t 12))⟩, ⟨(some 50), none, (.bin .sub (.t 49) (.c (.int .i64 1)))⟩, ⟨(some 11), none, (.mv (.t 50))⟩]))))))))
  (.seq (.reg [⟨(some 52), none, (.mv (.t 8))⟩, ⟨(some 53), none, (.mv (.t 1))⟩, ⟨(some 54), none, (.mv (.t 10))⟩, ⟨(some 55), none, (.call 61 [(.t 53), (.t 54)])⟩, ⟨(some 56), none, (.call 62 [(.t 52), (.t 55)])⟩, ⟨(some 51), none, (.mv (.t 56))⟩, ⟨(some 57), none, (.ext (.t 51) 0)⟩, ⟨(some 58), none, (.ext (.t 51) 1)⟩, ⟨(some 8), none, (.mv (.t 57))⟩])
  (.reg [⟨(some 59), none, (.mv (.t 7))⟩, ⟨(some 60), none, (.mv (.t 9))⟩, ⟨(some 61), none, (.mv (.t 10))⟩, ⟨(some 62), none, (.conv .u8 (.t 61))⟩, ⟨(some 63), none, (.ixsl 1 (.t 59) (.t 60))⟩, ⟨none, none, (.store 1 (.t 63) (.t 62))⟩])))))))
  (.reg [⟨(some 24), none, (.mv (.t 9))⟩, ⟨(some 25), none, (.bin .sub (.t 24) (.c (.int .i64 1)))⟩, ⟨(some 9), none, (.mv (.t 25))⟩]))))))
  (.seq (.reg [⟨(some 64), none, (.mv (.t 7))⟩, ⟨(some 65), none, (.b2s (.t 64))⟩, ⟨(some 66), none, (.call 44 [(.t 65)])⟩, ⟨(some 67), none, (.mv (.t 8))⟩, ⟨(some 4), none, (.mv (.t 66))⟩, ⟨(some 5), none, (.mv (.t 67))⟩, ⟨(some 6), none, (.mv (.c (.bool true)))⟩])
  .ret))))))
theorem tr47 : trFun Tryd.prog 47 = some ⟨68, [.t 4, .t 5, .t 6], c47⟩ := by kernel_rfl
set_option maxHeartbeats 2000000 in
theorem ok_r1Div : SpecOK Tryd.prog 47 (flat spDiv) := by
  refine flat_run (env_cons ok_r1Norm (env_cons ok_r1Small (env_cons ok_r1Cmp (env_cons ok_r1Sub (env_nil _))))) mixed tr47 ?_
  intro args v h N hG
  unfold spDiv at hG
  split at hG
  case h_2 => cases hG
  rename_i l m
  split at hG
  case isFalse => cases hG
  rename_i hl
  obtain ⟨hl, hm⟩ := hl
  have sl : l.length ≤ 1099511627776 := by omega
  have sm : m.length ≤ 1099511627776 := by omega
  split at hG
  · rename_i h0
    cases hG
    refine ⟨rfl, by simp, ?_⟩
    simp only [c47, initT, List.zipIdx_cons, List.zipIdx_nil, List.map_cons, List.map_nil, Nat.reduceAdd]
    simp only [↓R0, R1, rdL, rdH, isCall, istep, ibin, vcells, fillI, setR, flat, okCell, isBase, List.set, List.drop, List.take, List.append, bnds, bhi, blo, srcOf, ↓reduceIte, Nat.reduceEqDiff, Nat.reduceAdd, Nat.reduceLeDiff, reduceCtorEq, Nat.reduceSub, Int.reduceEq, Int.reduceLT, Int.reduceLE, Int.reduceGT, Int.reduceGE, Int.reduceSub, Int.reduceAdd, Int.reduceMul, Int.reduceNe, Int.reduceNeg, Int.reduceToNat, Nat.reduceMul, spNorm, sm, bl_eq_nil, h0]
    exact fin_3 trivial rfl rfl rfl (fun k hk => rfl)
  rename_i h0
  cases hG
  refine ⟨rfl, by simp, ?_⟩
  have e1 : (l.length : Int) ≤ 281474976710656 := by omega
  have e2 : (l.length : Int) ≤ 9223372036854775807 := by omega
  have e3 : IntKind.i64.wrap ((l.length : Int) - 1) = (l.length : Int) - 1 := by rw [i64_in _ (by omega)]
  have eL : (List.replicate l.length [Value.int IntKind.u8 0]).flatten = bc (List.replicate l.length 0) := by
    generalize l.length = L
    induction L with
    | zero => rfl
    | succ L ih => rw [List.replicate_succ, List.flatten_cons, ih]; rfl
  simp only [c47, initT, List.zipIdx_cons, List.zipIdx_nil, List.map_cons, List.map_nil, Nat.reduceAdd]
  simp only [↓R0, R1, rdL, rdH, isCall, istep, ibin, vcells, fillI, setR, flat, okCell, isBase, List.set, List.drop, List.take, List.append, bnds, bhi, blo, srcOf, ↓reduceIte, Nat.reduceEqDiff, Nat.reduceAdd, Nat.reduceLeDiff, reduceCtorEq, Nat.reduceSub, Int.reduceEq, Int.reduceLT, Int.reduceLE, Int.reduceGT, Int.reduceGE, Int.reduceSub, Int.reduceAdd, Int.reduceMul, Int.reduceNe, Int.reduceNeg, Int.reduceToNat, Nat.reduceMul, spNorm, sm, bl_eq_nil, h0, e1, e2, e3, eL, Int.one_mul]
  clear eL e1 e2 e3
  have hB : 0 < nl m := by omega
  refine lp_parts (fun n tm hp nx => ∃ (R : Nat) (qs : List UInt8), n ≤ l.length ∧ tmget tm 0 = .string ⟨⟨l⟩⟩ ∧ tmget tm 1 = .string ⟨⟨m⟩⟩ ∧ tmget tm 9 = .int .i64 ((n : Int) - 1) ∧ tmget tm 8 = .string ⟨⟨bl R⟩⟩ ∧
      tmget tm 7 = .slice (some ⟨N + 0, 0, none⟩) l.length l.length ∧ hget hp (N + 0) = some ⟨5, 1, false, bc qs⟩ ∧ qs.length = l.length ∧ R < nl m ∧
      nl (l.drop n) = nl (qs.drop n) * nl m + R ∧ (∀ q, q < N → hget hp q = hget h q) ∧ nx = N + 1) ?_ l.length
    ⟨0, List.replicate l.length 0, by omega, ?_, ?_, ?_, ?_, ?_, ?_, by simp, hB, by simp [nl], ?_, rfl⟩
  · intro n tm hp nx ⟨R, qs, hn, t0, t1, t9, t8, t7, hk, hq, hR, hval, hh, hnx⟩
    subst hnx
    have hRm : (bl R).length ≤ m.length := by
      rw [bl_length_le]; exact Nat.lt_trans hR (nl_lt m)
    by_cases c1 : n = 0
    · subst c1
      have so : qs.length ≤ 1099511627776 := by omega
      rw [← hq] at t7
      simp only [↓R0, R1, rdL, rdH, isCall, istep, ibin, vcells, fillI, setR, flat, okCell, isBase, List.set, List.drop, List.take, List.append, bnds, bhi, blo, srcOf, ↓reduceIte, Nat.reduceEqDiff, Nat.reduceAdd, Nat.reduceLeDiff, reduceCtorEq, Nat.reduceSub, Int.reduceEq, Int.reduceLT, Int.reduceLE, Int.reduceGT, Int.reduceGE, Int.reduceSub, Int.reduceAdd, Int.reduceMul, Int.reduceNe, Int.reduceNeg, Int.reduceToNat, Nat.reduceMul, t0, t1, t9, t8, t7, hk, List.drop_zero, bc_take_all, byteList_bc, so, spNorm]
      refine fin_3 trivial ?_ ?_ rfl hh
      · simp only [↓R0, R1, rdL, rdH, isCall, istep, ibin, vcells, fillI, setR, flat, okCell, isBase, List.set, List.drop, List.take, List.append, bnds, bhi, blo, srcOf, ↓reduceIte, Nat.reduceEqDiff, Nat.reduceAdd, Nat.reduceLeDiff, reduceCtorEq, Nat.reduceSub, Int.reduceEq, Int.reduceLT, Int.reduceLE, Int.reduceGT, Int.reduceGE, Int.reduceSub, Int.reduceAdd, Int.reduceMul, Int.reduceNe, Int.reduceNeg, Int.reduceToNat, Nat.reduceMul]
        simp only [List.drop_zero] at hval
        rw [hval, Nat.add_comm, Nat.add_mul_div_right _ _ hB, Nat.div_eq_of_lt hR, Nat.zero_add]
      · simp only [↓R0, R1, rdL, rdH, isCall, istep, ibin, vcells, fillI, setR, flat, okCell, isBase, List.set, List.drop, List.take, List.append, bnds, bhi, blo, srcOf, ↓reduceIte, Nat.reduceEqDiff, Nat.reduceAdd, Nat.reduceLeDiff, reduceCtorEq, Nat.reduceSub, Int.reduceEq, Int.reduceLT, Int.reduceLE, Int.reduceGT, Int.reduceGE, Int.reduceSub, Int.reduceAdd, Int.reduceMul, Int.reduceNe, Int.reduceNeg, Int.reduceToNat, Nat.reduceMul, t8]
        simp only [List.drop_zero] at hval
        rw [hval, Nat.add_comm, Nat.add_mul_mod_self_right, Nat.mod_eq_of_lt hR]
    · obtain ⟨n, rfl⟩ : ∃ n', n = n' + 1 := ⟨n - 1, by omega⟩
      have e0 : ((n + 1 : Nat) : Int) - 1 = (n : Int) := by omega
      have e1 : IntKind.i64.wrap ((n : Int) + 1) = ((n + 1 : Nat) : Int) := by rw [i64_in _ (by omega)]; omega
      have e2 : (l.take (n + 1)).drop n = [l[n]] := by rw [List.take_succ_eq_append_getElem (by omega), List.drop_append_of_le_length (by simp; omega)]; simp
      have e3 : 1 + (bl R).length ≤ 9223372036854775807 := by omega
      have e4 : (bl R).length + 1 ≤ 1099511627776 := by omega
      have e5 : n ≤ n + 1 := by omega
      have e6 : nl (l[n] :: bl R) = l[n].toNat + 256 * R := by rw [nl, nl_bl]
      simp only [↓R0, R1, rdL, rdH, isCall, istep, ibin, vcells, fillI, setR, flat, okCell, isBase, List.set, List.drop, List.take, List.append, bnds, bhi, blo, srcOf, ↓reduceIte, Nat.reduceEqDiff, Nat.reduceAdd, Nat.reduceLeDiff, reduceCtorEq, Nat.reduceSub, Int.reduceEq, Int.reduceLT, Int.reduceLE, Int.reduceGT, Int.reduceGE, Int.reduceSub, Int.reduceAdd, Int.reduceMul, Int.reduceNe, Int.reduceNeg, Int.reduceToNat, Nat.reduceMul, t0, t1, t9, t8, t7, hk, e0, e1, e2, e3, e4, e5, e6, hn, spNorm]
      have hb := l[n].toNat_lt
      have hdrop : nl (l.drop n) = l[n].toNat + 256 * nl (l.drop (n + 1)) := by rw [List.drop_eq_getElem_cons (by omega)]; rfl
      generalize hR' : l[n].toNat + 256 * R = R' at *
      have hD : R' / nl m ≤ 255 := by
        have : R' < 256 * nl m := by omega
        have := (Nat.div_lt_iff_lt_mul hB).2 this
        omega
      generalize hDD : R' / nl m = D at *
      have hD1 : nl m * D ≤ R' := by rw [← hDD]; exact Nat.mul_div_le _ _
      have hD2 : R' < nl m * (D + 1) := by rw [← hDD]; have := Nat.lt_mul_div_succ R' hB; exact this
      have hRl : (bl R').length ≤ m.length + 1 := by
        rw [bl_length_le, Nat.pow_succ]
        have := nl_lt m
        omega
      have hsm : ∀ x, x ≤ 255 → (bl (nl m * x)).length ≤ m.length + 1 := by
        intro x hx
        rw [bl_length_le, Nat.pow_succ]
        have := nl_lt m
        calc nl m * x ≤ nl m * 255 := Nat.mul_le_mul_left _ hx
          _ < 256 ^ m.length * 256 := by omega
      have hm2 : m.length ≤ 137438953472 := by omega
      refine lp_parts (fun n2 tm hp nx => ∃ (lo hi : Nat), n2 = hi - lo ∧ tmget tm 0 = .string ⟨⟨l⟩⟩ ∧ tmget tm 1 = .string ⟨⟨m⟩⟩ ∧ tmget tm 9 = .int .i64 (n : Int) ∧ tmget tm 8 = .string ⟨⟨bl R'⟩⟩ ∧
        tmget tm 7 = .slice (some ⟨N + 0, 0, none⟩) l.length l.length ∧ tmget tm 10 = .int .i64 lo ∧ tmget tm 11 = .int .i64 hi ∧ hget hp (N + 0) = some ⟨5, 1, false, bc qs⟩ ∧
        lo ≤ D ∧ D ≤ hi ∧ hi ≤ 255 ∧ (∀ q, q < N → hget hp q = hget h q) ∧ nx = N + 1) ?_ 255
        ⟨0, 255, by omega, ?_, ?_, ?_, ?_, ?_, ?_, ?_, hk, by omega, hD, by omega, hh, rfl⟩
      · clear hk hh t0 t1 t9 t8 t7
        clear tm hp
        intro n2 tm hp nx ⟨lo, hi, hn2, t0, t1, t9, t8, t7, t10, t11, hk, hlo, hhi, hhi2, hh, hnx⟩
        subst hnx
        by_cases c2 : lo < hi
        · have g1 : IntKind.i64.wrap ((lo : Int) + (hi : Int)) = ((lo + hi : Nat) : Int) := by rw [i64_in _ (by omega)]; omega
          have g2 : IntKind.i64.wrap (((lo + hi : Nat) : Int) + 1) = ((lo + hi + 1 : Nat) : Int) := by rw [i64_in _ (by omega)]; omega
          have g3 : IntKind.i64.wrap (((lo + hi + 1 : Nat) : Int).tdiv 2) = (((lo + hi + 1) / 2 : Nat) : Int) := by rw [i64_quo _ _ (by omega)]; omega
          have hmid1 : lo < (lo + hi + 1) / 2 := by omega
          have hmid2 : (lo + hi + 1) / 2 ≤ hi := by omega
          generalize (lo + hi + 1) / 2 = mid at *
          have g4 : (mid : Int) ≤ 255 := by omega
          have g5 : (bl (nl m * mid)).length ≤ 1099511627776 := Nat.le_trans (hsm mid (by omega)) (by omega)
          have g6 : (bl R').length ≤ 1099511627776 := by omega
          have g7 : IntKind.i64.wrap ((mid : Int) - 1) = ((mid - 1 : Nat) : Int) := by rw [i64_in _ (by omega)]; omega
          simp only [↓R0, R1, rdL, rdH, isCall, istep, ibin, vcells, fillI, setR, flat, okCell, isBase, List.set, List.drop, List.take, List.append, bnds, bhi, blo, srcOf, ↓reduceIte, Nat.reduceEqDiff, Nat.reduceAdd, Nat.reduceLeDiff, reduceCtorEq, Nat.reduceSub, Int.reduceEq, Int.reduceLT, Int.reduceLE, Int.reduceGT, Int.reduceGE, Int.reduceSub, Int.reduceAdd, Int.reduceMul, Int.reduceNe, Int.reduceNeg, Int.reduceToNat, Nat.reduceMul, t0, t1, t9, t8, t7, t10, t11, c2, g1, g2, g3, spSmall, hm2, g4, spCmp, g5, g6, nl_bl, cmpN_le]
          by_cases c3 : nl m * mid ≤ R'
          · simp only [↓R0, R1, rdL, rdH, isCall, istep, ibin, vcells, fillI, setR, flat, okCell, isBase, List.set, List.drop, List.take, List.append, bnds, bhi, blo, srcOf, ↓reduceIte, Nat.reduceEqDiff, Nat.reduceAdd, Nat.reduceLeDiff, reduceCtorEq, Nat.reduceSub, Int.reduceEq, Int.reduceLT, Int.reduceLE, Int.reduceGT, Int.reduceGE, Int.reduceSub, Int.reduceAdd, Int.reduceMul, Int.reduceNe, Int.reduceNeg, Int.reduceToNat, Nat.reduceMul, t0, t1, t9, t8, t7, t10, t11, c3]
            refine ⟨_, ?_, mid, hi, rfl, rfl, rfl, hk, ?_, hhi, hhi2, hh⟩
            · omega
            · refine Nat.le_of_lt_succ (Nat.lt_of_mul_lt_mul_left (a := nl m) ?_)
              exact Nat.lt_of_le_of_lt c3 hD2
          · simp only [↓R0, R1, rdL, rdH, isCall, istep, ibin, vcells, fillI, setR, flat, okCell, isBase, List.set, List.drop, List.take, List.append, bnds, bhi, blo, srcOf, ↓reduceIte, Nat.reduceEqDiff, Nat.reduceAdd, Nat.reduceLeDiff, reduceCtorEq, Nat.reduceSub, Int.reduceEq, Int.reduceLT, Int.reduceLE, Int.reduceGT, Int.reduceGE, Int.reduceSub, Int.reduceAdd, Int.reduceMul, Int.reduceNe, Int.reduceNeg, Int.reduceToNat, Nat.reduceMul, t0, t1, t9, t8, t7, t10, t11, c3, g7]
            refine ⟨_, ?_, lo, mid - 1, rfl, rfl, rfl, hk, hlo, ?_, by omega, hh⟩
            · omega
            · have : D < mid := Nat.lt_of_mul_lt_mul_left (a := nl m) (by omega)
              omega
        · have hD0 : lo = D := by omega
          subst hD0
          have g4 : (lo : Int) ≤ 255 := by omega
          have g5 : (bl (nl m * lo)).length ≤ 549755813888 := Nat.le_trans (hsm lo (by omega)) (by omega)
          have g6 : (bl R').length ≤ 549755813888 := by omega
          have g7 : ¬ R' < nl m * lo := by omega
          have g8 : IntKind.u8.wrap (lo : Int) = ((UInt8.ofNat lo).toNat : Int) := by rw [u8_in _ (by omega)]; simp; omega
          have g9 : (n : Int) < (l.length : Int) := by omega
          have g10 : n + 1 ≤ qs.length := by omega
          have g11 : IntKind.i64.wrap ((n : Int) - 1) = (n : Int) - 1 := by rw [i64_in _ (by omega)]
          have g12 : n < l.length := by omega
          simp only [↓R0, R1, rdL, rdH, isCall, istep, ibin, vcells, fillI, setR, flat, okCell, isBase, List.set, List.drop, List.take, List.append, bnds, bhi, blo, srcOf, ↓reduceIte, Nat.reduceEqDiff, Nat.reduceAdd, Nat.reduceLeDiff, reduceCtorEq, Nat.reduceSub, Int.reduceEq, Int.reduceLT, Int.reduceLE, Int.reduceGT, Int.reduceGE, Int.reduceSub, Int.reduceAdd, Int.reduceMul, Int.reduceNe, Int.reduceNeg, Int.reduceToNat, Nat.reduceMul, t0, t1, t9, t8, t7, t10, t11, c2, spSmall, hm2, g4, spSub, g5, g6, nl_bl, g7, g8, g9, g10, g11, g12, hk, bc_set]
          refine ⟨n, by omega, R' - nl m * lo, qs.set n (UInt8.ofNat lo), by omega, rfl, rfl, rfl, by simp [hq], by rw [Nat.mul_add] at hD2; omega, ?_, ?_⟩
          · have ht : (UInt8.ofNat lo).toNat = lo := by simp; omega
            rw [hdrop, List.drop_eq_getElem_cons (l := qs.set n (UInt8.ofNat lo)) (i := n) (by rw [List.length_set]; omega), nl, List.getElem_set_self, ht, List.drop_set_of_lt (by omega), hval, Nat.add_mul, Nat.mul_comm lo, Nat.mul_assoc]
            omega
          · intro q hq
            rw [if_neg (by omega)]; exact hh q hq
      · (first | (simp only [↓R0, R1, rdL, rdH, isCall, istep, ibin, vcells, fillI, setR, flat, okCell, isBase, List.set, List.drop, List.take, List.append, bnds, bhi, blo, srcOf, ↓reduceIte, Nat.reduceEqDiff, Nat.reduceAdd, Nat.reduceLeDiff, reduceCtorEq, Nat.reduceSub, Int.reduceEq, Int.reduceLT, Int.reduceLE, Int.reduceGT, Int.reduceGE, Int.reduceSub, Int.reduceAdd, Int.reduceMul, Int.reduceNe, Int.reduceNeg, Int.reduceToNat, Nat.reduceMul, t0]; done) | (simp only [↓R0, R1, rdL, rdH, isCall, istep, ibin, vcells, fillI, setR, flat, okCell, isBase, List.set, List.drop, List.take, List.append, bnds, bhi, blo, srcOf, ↓reduceIte, Nat.reduceEqDiff, Nat.reduceAdd, Nat.reduceLeDiff, reduceCtorEq, Nat.reduceSub, Int.reduceEq, Int.reduceLT, Int.reduceLE, Int.reduceGT, Int.reduceGE, Int.reduceSub, Int.reduceAdd, Int.reduceMul, Int.reduceNe, Int.reduceNeg, Int.reduceToNat, Nat.reduceMul, t0]; rfl) | rfl)
      · (first | (simp only [↓R0, R1, rdL, rdH, isCall, istep, ibin, vcells, fillI, setR, flat, okCell, isBase, List.set, List.drop, List.take, List.append, bnds, bhi, blo, srcOf, ↓reduceIte, Nat.reduceEqDiff, Nat.reduceAdd, Nat.reduceLeDiff, reduceCtorEq, Nat.reduceSub, Int.reduceEq, Int.reduceLT, Int.reduceLE, Int.reduceGT, Int.reduceGE, Int.reduceSub, Int.reduceAdd, Int.reduceMul, Int.reduceNe, Int.reduceNeg, Int.reduceToNat, Nat.reduceMul, t1]; done) | (simp only [↓R0, R1, rdL, rdH, isCall, istep, ibin, vcells, fillI, setR, flat, okCell, isBase, List.set, List.drop, List.take, List.append, bnds, bhi, blo, srcOf, ↓reduceIte, Nat.reduceEqDiff, Nat.reduceAdd, Nat.reduceLeDiff, reduceCtorEq, Nat.reduceSub, Int.reduceEq, Int.reduceLT, Int.reduceLE, Int.reduceGT, Int.reduceGE, Int.reduceSub, Int.reduceAdd, Int.reduceMul, Int.reduceNe, Int.reduceNeg, Int.reduceToNat, Nat.reduceMul, t1]; rfl) | rfl)
      · (first | (simp only [↓R0, R1, rdL, rdH, isCall, istep, ibin, vcells, fillI, setR, flat, okCell, isBase, List.set, List.drop, List.take, List.append, bnds, bhi, blo, srcOf, ↓reduceIte, Nat.reduceEqDiff, Nat.reduceAdd, Nat.reduceLeDiff, reduceCtorEq, Nat.reduceSub, Int.reduceEq, Int.reduceLT, Int.reduceLE, Int.reduceGT, Int.reduceGE, Int.reduceSub, Int.reduceAdd, Int.reduceMul, Int.reduceNe, Int.reduceNeg, Int.reduceToNat, Nat.reduceMul, t9, e0]; done) | (simp only [↓R0, R1, rdL, rdH, isCall, istep, ibin, vcells, fillI, setR, flat, okCell, isBase, List.set, List.drop, List.take, List.append, bnds, bhi, blo, srcOf, ↓reduceIte, Nat.reduceEqDiff, Nat.reduceAdd, Nat.reduceLeDiff, reduceCtorEq, Nat.reduceSub, Int.reduceEq, Int.reduceLT, Int.reduceLE, Int.reduceGT, Int.reduceGE, Int.reduceSub, Int.reduceAdd, Int.reduceMul, Int.reduceNe, Int.reduceNeg, Int.reduceToNat, Nat.reduceMul, t9, e0]; rfl) | rfl)
      · (first | (simp only [↓R0, R1, rdL, rdH, isCall, istep, ibin, vcells, fillI, setR, flat, okCell, isBase, List.set, List.drop, List.take, List.append, bnds, bhi, blo, srcOf, ↓reduceIte, Nat.reduceEqDiff, Nat.reduceAdd, Nat.reduceLeDiff, reduceCtorEq, Nat.reduceSub, Int.reduceEq, Int.reduceLT, Int.reduceLE, Int.reduceGT, Int.reduceGE, Int.reduceSub, Int.reduceAdd, Int.reduceMul, Int.reduceNe, Int.reduceNeg, Int.reduceToNat, Nat.reduceMul]; done) | (simp only [↓R0, R1, rdL, rdH, isCall, istep, ibin, vcells, fillI, setR, flat, okCell, isBase, List.set, List.drop, List.take, List.append, bnds, bhi, blo, srcOf, ↓reduceIte, Nat.reduceEqDiff, Nat.reduceAdd, Nat.reduceLeDiff, reduceCtorEq, Nat.reduceSub, Int.reduceEq, Int.reduceLT, Int.reduceLE, Int.reduceGT, Int.reduceGE, Int.reduceSub, Int.reduceAdd, Int.reduceMul, Int.reduceNe, Int.reduceNeg, Int.reduceToNat, Nat.reduceMul]; rfl) | rfl)
      · (first | (simp only [↓R0, R1, rdL, rdH, isCall, istep, ibin, vcells, fillI, setR, flat, okCell, isBase, List.set, List.drop, List.take, List.append, bnds, bhi, blo, srcOf, ↓reduceIte, Nat.reduceEqDiff, Nat.reduceAdd, Nat.reduceLeDiff, reduceCtorEq, Nat.reduceSub, Int.reduceEq, Int.reduceLT, Int.reduceLE, Int.reduceGT, Int.reduceGE, Int.reduceSub, Int.reduceAdd, Int.reduceMul, Int.reduceNe, Int.reduceNeg, Int.reduceToNat, Nat.reduceMul, t7]; done) | (simp only [↓R0, R1, rdL, rdH, isCall, istep, ibin, vcells, fillI, setR, flat, okCell, isBase, List.set, List.drop, List.take, List.append, bnds, bhi, blo, srcOf, ↓reduceIte, Nat.reduceEqDiff, Nat.reduceAdd, Nat.reduceLeDiff, reduceCtorEq, Nat.reduceSub, Int.reduceEq, Int.reduceLT, Int.reduceLE, Int.reduceGT, Int.reduceGE, Int.reduceSub, Int.reduceAdd, Int.reduceMul, Int.reduceNe, Int.reduceNeg, Int.reduceToNat, Nat.reduceMul, t7]; rfl) | rfl)
      · (first | (simp only [↓R0, R1, rdL, rdH, isCall, istep, ibin, vcells, fillI, setR, flat, okCell, isBase, List.set, List.drop, List.take, List.append, bnds, bhi, blo, srcOf, ↓reduceIte, Nat.reduceEqDiff, Nat.reduceAdd, Nat.reduceLeDiff, reduceCtorEq, Nat.reduceSub, Int.reduceEq, Int.reduceLT, Int.reduceLE, Int.reduceGT, Int.reduceGE, Int.reduceSub, Int.reduceAdd, Int.reduceMul, Int.reduceNe, Int.reduceNeg, Int.reduceToNat, Nat.reduceMul]; done) | (simp only [↓R0, R1, rdL, rdH, isCall, istep, ibin, vcells, fillI, setR, flat, okCell, isBase, List.set, List.drop, List.take, List.append, bnds, bhi, blo, srcOf, ↓reduceIte, Nat.reduceEqDiff, Nat.reduceAdd, Nat.reduceLeDiff, reduceCtorEq, Nat.reduceSub, Int.reduceEq, Int.reduceLT, Int.reduceLE, Int.reduceGT, Int.reduceGE, Int.reduceSub, Int.reduceAdd, Int.reduceMul, Int.reduceNe, Int.reduceNeg, Int.reduceToNat, Nat.reduceMul]; rfl) | rfl)
      · (first | (simp only [↓R0, R1, rdL, rdH, isCall, istep, ibin, vcells, fillI, setR, flat, okCell, isBase, List.set, List.drop, List.take, List.append, bnds, bhi, blo, srcOf, ↓reduceIte, Nat.reduceEqDiff, Nat.reduceAdd, Nat.reduceLeDiff, reduceCtorEq, Nat.reduceSub, Int.reduceEq, Int.reduceLT, Int.reduceLE, Int.reduceGT, Int.reduceGE, Int.reduceSub, Int.reduceAdd, Int.reduceMul, Int.reduceNe, Int.reduceNeg, Int.reduceToNat, Nat.reduceMul]; done) | (simp only [↓R0, R1, rdL, rdH, isCall, istep, ibin, vcells, fillI, setR, flat, okCell, isBase, List.set, List.drop, List.take, List.append, bnds, bhi, blo, srcOf, ↓reduceIte, Nat.reduceEqDiff, Nat.reduceAdd, Nat.reduceLeDiff, reduceCtorEq, Nat.reduceSub, Int.reduceEq, Int.reduceLT, Int.reduceLE, Int.reduceGT, Int.reduceGE, Int.reduceSub, Int.reduceAdd, Int.reduceMul, Int.reduceNe, Int.reduceNeg, Int.reduceToNat, Nat.reduceMul]; rfl) | rfl)
  · (first | (simp only [↓R0, R1, rdL, rdH, isCall, istep, ibin, vcells, fillI, setR, flat, okCell, isBase, List.set, List.drop, List.take, List.append, bnds, bhi, blo, srcOf, ↓reduceIte, Nat.reduceEqDiff, Nat.reduceAdd, Nat.reduceLeDiff, reduceCtorEq, Nat.reduceSub, Int.reduceEq, Int.reduceLT, Int.reduceLE, Int.reduceGT, Int.reduceGE, Int.reduceSub, Int.reduceAdd, Int.reduceMul, Int.reduceNe, Int.reduceNeg, Int.reduceToNat, Nat.reduceMul]; done) | (simp only [↓R0, R1, rdL, rdH, isCall, istep, ibin, vcells, fillI, setR, flat, okCell, isBase, List.set, List.drop, List.take, List.append, bnds, bhi, blo, srcOf, ↓reduceIte, Nat.reduceEqDiff, Nat.reduceAdd, Nat.reduceLeDiff, reduceCtorEq, Nat.reduceSub, Int.reduceEq, Int.reduceLT, Int.reduceLE, Int.reduceGT, Int.reduceGE, Int.reduceSub, Int.reduceAdd, Int.reduceMul, Int.reduceNe, Int.reduceNeg, Int.reduceToNat, Nat.reduceMul]; rfl) | rfl)
  · (first | (simp only [↓R0, R1, rdL, rdH, isCall, istep, ibin, vcells, fillI, setR, flat, okCell, isBase, List.set, List.drop, List.take, List.append, bnds, bhi, blo, srcOf, ↓reduceIte, Nat.reduceEqDiff, Nat.reduceAdd, Nat.reduceLeDiff, reduceCtorEq, Nat.reduceSub, Int.reduceEq, Int.reduceLT, Int.reduceLE, Int.reduceGT, Int.reduceGE, Int.reduceSub, Int.reduceAdd, Int.reduceMul, Int.reduceNe, Int.reduceNeg, Int.reduceToNat, Nat.reduceMul]; done) | (simp only [↓R0, R1, rdL, rdH, isCall, istep, ibin, vcells, fillI, setR, flat, okCell, isBase, List.set, List.drop, List.take, List.append, bnds, bhi, blo, srcOf, ↓reduceIte, Nat.reduceEqDiff, Nat.reduceAdd, Nat.reduceLeDiff, reduceCtorEq, Nat.reduceSub, Int.reduceEq, Int.reduceLT, Int.reduceLE, Int.reduceGT, Int.reduceGE, Int.reduceSub, Int.reduceAdd, Int.reduceMul, Int.reduceNe, Int.reduceNeg, Int.reduceToNat, Nat.reduceMul]; rfl) | rfl)
  · (first | (simp only [↓R0, R1, rdL, rdH, isCall, istep, ibin, vcells, fillI, setR, flat, okCell, isBase, List.set, List.drop, List.take, List.append, bnds, bhi, blo, srcOf, ↓reduceIte, Nat.reduceEqDiff, Nat.reduceAdd, Nat.reduceLeDiff, reduceCtorEq, Nat.reduceSub, Int.reduceEq, Int.reduceLT, Int.reduceLE, Int.reduceGT, Int.reduceGE, Int.reduceSub, Int.reduceAdd, Int.reduceMul, Int.reduceNe, Int.reduceNeg, Int.reduceToNat, Nat.reduceMul]; done) | (simp only [↓R0, R1, rdL, rdH, isCall, istep, ibin, vcells, fillI, setR, flat, okCell, isBase, List.set, List.drop, List.take, List.append, bnds, bhi, blo, srcOf, ↓reduceIte, Nat.reduceEqDiff, Nat.reduceAdd, Nat.reduceLeDiff, reduceCtorEq, Nat.reduceSub, Int.reduceEq, Int.reduceLT, Int.reduceLE, Int.reduceGT, Int.reduceGE, Int.reduceSub, Int.reduceAdd, Int.reduceMul, Int.reduceNe, Int.reduceNeg, Int.reduceToNat, Nat.reduceMul]; rfl) | rfl)
  · (first | (simp only [↓R0, R1, rdL, rdH, isCall, istep, ibin, vcells, fillI, setR, flat, okCell, isBase, List.set, List.drop, List.take, List.append, bnds, bhi, blo, srcOf, ↓reduceIte, Nat.reduceEqDiff, Nat.reduceAdd, Nat.reduceLeDiff, reduceCtorEq, Nat.reduceSub, Int.reduceEq, Int.reduceLT, Int.reduceLE, Int.reduceGT, Int.reduceGE, Int.reduceSub, Int.reduceAdd, Int.reduceMul, Int.reduceNe, Int.reduceNeg, Int.reduceToNat, Nat.reduceMul, bl_zero]; done) | (simp only [↓R0, R1, rdL, rdH, isCall, istep, ibin, vcells, fillI, setR, flat, okCell, isBase, List.set, List.drop, List.take, List.append, bnds, bhi, blo, srcOf, ↓reduceIte, Nat.reduceEqDiff, Nat.reduceAdd, Nat.reduceLeDiff, reduceCtorEq, Nat.reduceSub, Int.reduceEq, Int.reduceLT, Int.reduceLE, Int.reduceGT, Int.reduceGE, Int.reduceSub, Int.reduceAdd, Int.reduceMul, Int.reduceNe, Int.reduceNeg, Int.reduceToNat, Nat.reduceMul, bl_zero]; rfl) | rfl)
  · (first | (simp only [↓R0, R1, rdL, rdH, isCall, istep, ibin, vcells, fillI, setR, flat, okCell, isBase, List.set, List.drop, List.take, List.append, bnds, bhi, blo, srcOf, ↓reduceIte, Nat.reduceEqDiff, Nat.reduceAdd, Nat.reduceLeDiff, reduceCtorEq, Nat.reduceSub, Int.reduceEq, Int.reduceLT, Int.reduceLE, Int.reduceGT, Int.reduceGE, Int.reduceSub, Int.reduceAdd, Int.reduceMul, Int.reduceNe, Int.reduceNeg, Int.reduceToNat, Nat.reduceMul]; done) | (simp only [↓R0, R1, rdL, rdH, isCall, istep, ibin, vcells, fillI, setR, flat, okCell, isBase, List.set, List.drop, List.take, List.append, bnds, bhi, blo, srcOf, ↓reduceIte, Nat.reduceEqDiff, Nat.reduceAdd, Nat.reduceLeDiff, reduceCtorEq, Nat.reduceSub, Int.reduceEq, Int.reduceLT, Int.reduceLE, Int.reduceGT, Int.reduceGE, Int.reduceSub, Int.reduceAdd, Int.reduceMul, Int.reduceNe, Int.reduceNeg, Int.reduceToNat, Nat.reduceMul]; rfl) | rfl)
  · (first | (simp only [↓R0, R1, rdL, rdH, isCall, istep, ibin, vcells, fillI, setR, flat, okCell, isBase, List.set, List.drop, List.take, List.append, bnds, bhi, blo, srcOf, ↓reduceIte, Nat.reduceEqDiff, Nat.reduceAdd, Nat.reduceLeDiff, reduceCtorEq, Nat.reduceSub, Int.reduceEq, Int.reduceLT, Int.reduceLE, Int.reduceGT, Int.reduceGE, Int.reduceSub, Int.reduceAdd, Int.reduceMul, Int.reduceNe, Int.reduceNeg, Int.reduceToNat, Nat.reduceMul]; done) | (simp only [↓R0, R1, rdL, rdH, isCall, istep, ibin, vcells, fillI, setR, flat, okCell, isBase, List.set, List.drop, List.take, List.append, bnds, bhi, blo, srcOf, ↓reduceIte, Nat.reduceEqDiff, Nat.reduceAdd, Nat.reduceLeDiff, reduceCtorEq, Nat.reduceSub, Int.reduceEq, Int.reduceLT, Int.reduceLE, Int.reduceGT, Int.reduceGE, Int.reduceSub, Int.reduceAdd, Int.reduceMul, Int.reduceNe, Int.reduceNeg, Int.reduceToNat, Nat.reduceMul]; rfl) | rfl)
  · intro q hq
    simp only [↓R0, R1, rdL, rdH, isCall, istep, ibin, vcells, fillI, setR, flat, okCell, isBase, List.set, List.drop, List.take, List.append, bnds, bhi, blo, srcOf, ↓reduceIte, Nat.reduceEqDiff, Nat.reduceAdd, Nat.reduceLeDiff, reduceCtorEq, Nat.reduceSub, Int.reduceEq, Int.reduceLT, Int.reduceLE, Int.reduceGT, Int.reduceGE, Int.reduceSub, Int.reduceAdd, Int.reduceMul, Int.reduceNe, Int.reduceNeg, Int.reduceToNat, Nat.reduceMul, hget_new hq]
end Go.Eng
end
section
set_option linter.unusedVariables false
set_option linter.unusedSimpArgs false
set_option linter.unusedSectionVars false
set_option maxRecDepth 4000
namespace Go.Eng
open Go Go.Proofs Go.IntWalk
def spGcd : List Value → Option Value
  | [.string ⟨⟨l⟩⟩, .string ⟨⟨m⟩⟩] => if l.length ≤ 68719476736 ∧ m.length ≤ 68719476736 then some (.string ⟨⟨bl (Nat.gcd (nl l) (nl m))⟩⟩) else none
  | _ => none
def c46 : ICode :=
  (.seq (.reg [⟨(some 4), none, (.mv (.c (.string ⟨⟨[]⟩⟩)))⟩])
  (.seq (.reg [⟨(some 10), none, (.mv (.t 0))⟩, ⟨(some 11), none, (.call 44 [(.t 10)])⟩, ⟨(some 12), none, (.mv (.t 1))⟩, ⟨(some 13), none, (.call 44 [(.t 12)])⟩, ⟨(some 5), none, (.mv (.t 11))⟩, ⟨(some 6), none, (.mv (.t 13))⟩])
  (.seq (.block 0 (.loop (.seq (.seq (.reg [⟨(some 14), none, (.mv (.t 6))⟩, ⟨(some 15), none, (.bin .neq (.t 14) (.c (.string ⟨⟨[]⟩⟩)))⟩])
  (.cond (.t 15)
  .skip
  (.exit 0)))
  (.block 1 (.seq (.reg [⟨(some 17), none, (.mv (.t 5))⟩, ⟨(some 18), none, (.mv (.t 6))⟩, ⟨(some 19), none, (.call 47 [(.t 17), (.t 18)])⟩, ⟨(some 16), none, (.mv (.t 19))⟩, ⟨(some 20), none, (.ext (.t 16) 0)⟩, ⟨(some 21), none, (.ext (.t 16) 1)⟩, ⟨(some 22), none, (.ext (.t 16) 2)⟩, ⟨(some 7), none, (.mv (.t 20))⟩, ⟨(some 8), none, (.mv (.t 21))⟩, ⟨(some 9), none, (.mv (.t 22))⟩])
  (.seq (.reg [⟨(some 23), none, (.mv (.t 6))⟩, ⟨(some 5), none, (.mv (.t 23))⟩])
  (.reg [⟨(some 24), none, (.mv (.t 8))⟩, ⟨(some 6), none, (.mv (.t 24))⟩])))))))
  (.seq (.reg [⟨(some 25), none, (.mv (.t 5))⟩, ⟨(some 4), none, (.mv (.t 25))⟩])
  .ret))))
theorem tr46 : trFun Tryd.prog 46 = some ⟨26, [.t 4], c46⟩ := by kernel_rfl
theorem ok_r1Gcd : SpecOK Tryd.prog 46 (flat spGcd) := by
  refine flat_run (env_cons ok_r1Norm (env_cons ok_r1Div (env_nil _))) mixed tr46 ?_
  intro args v h N hG
  unfold spGcd at hG
  split at hG
  case h_2 => cases hG
  rename_i l m
  split at hG
  case isFalse => cases hG
  rename_i hl
  obtain ⟨hl, hm⟩ := hl
  have sl : l.length ≤ 1099511627776 := by omega
  have sm : m.length ≤ 1099511627776 := by omega
  cases hG
  refine ⟨rfl, by simp, ?_⟩
  simp only [c46, initT, List.zipIdx_cons, List.zipIdx_nil, List.map_cons, List.map_nil, Nat.reduceAdd]
  simp only [↓R0, R1, rdL, rdH, isCall, istep, ibin, vcells, fillI, setR, flat, okCell, isBase, List.set, List.drop, List.take, List.append, bnds, bhi, blo, srcOf, ↓reduceIte, Nat.reduceEqDiff, Nat.reduceAdd, Nat.reduceLeDiff, reduceCtorEq, Nat.reduceSub, Int.reduceEq, Int.reduceLT, Int.reduceLE, Int.reduceGT, Int.reduceGE, Int.reduceSub, Int.reduceAdd, Int.reduceMul, Int.reduceNe, Int.reduceNeg, Int.reduceToNat, Nat.reduceMul, spNorm, sl, sm]
  have hX0 : (bl (nl l)).length ≤ 68719476736 := Nat.le_trans (bl_length_nl l) hl
  have hY0 : (bl (nl m)).length ≤ 68719476736 := Nat.le_trans (bl_length_nl m) hm
  refine lp_parts (fun n tm hp nx => ∃ (X : Nat), tmget tm 5 = .string ⟨⟨bl X⟩⟩ ∧ tmget tm 6 = .string ⟨⟨bl n⟩⟩ ∧ (bl X).length ≤ 68719476736 ∧ (bl n).length ≤ 68719476736 ∧
      Nat.gcd X n = Nat.gcd (nl l) (nl m) ∧ hp = h) ?_ (nl m) ⟨nl l, ?_, ?_, hX0, hY0, rfl, rfl⟩
  · intro Y tm hp nx ⟨X, t5, t6, hX, hY, hg, hh⟩
    subst hh
    by_cases c : Y = 0
    · subst c
      simp only [↓R0, R1, rdL, rdH, isCall, istep, ibin, vcells, fillI, setR, flat, okCell, isBase, List.set, List.drop, List.take, List.append, bnds, bhi, blo, srcOf, ↓reduceIte, Nat.reduceEqDiff, Nat.reduceAdd, Nat.reduceLeDiff, reduceCtorEq, Nat.reduceSub, Int.reduceEq, Int.reduceLT, Int.reduceLE, Int.reduceGT, Int.reduceGE, Int.reduceSub, Int.reduceAdd, Int.reduceMul, Int.reduceNe, Int.reduceNeg, Int.reduceToNat, Nat.reduceMul, t5, t6, bl_zero]
      refine fin_t trivial ?_ (fun k hk => rfl)
      simp only [↓R0, R1, rdL, rdH, isCall, istep, ibin, vcells, fillI, setR, flat, okCell, isBase, List.set, List.drop, List.take, List.append, bnds, bhi, blo, srcOf, ↓reduceIte, Nat.reduceEqDiff, Nat.reduceAdd, Nat.reduceLeDiff, reduceCtorEq, Nat.reduceSub, Int.reduceEq, Int.reduceLT, Int.reduceLE, Int.reduceGT, Int.reduceGE, Int.reduceSub, Int.reduceAdd, Int.reduceMul, Int.reduceNe, Int.reduceNeg, Int.reduceToNat, Nat.reduceMul, t5]
      rw [← hg, Nat.gcd_zero_right]
    · simp only [↓R0, R1, rdL, rdH, isCall, istep, ibin, vcells, fillI, setR, flat, okCell, isBase, List.set, List.drop, List.take, List.append, bnds, bhi, blo, srcOf, ↓reduceIte, Nat.reduceEqDiff, Nat.reduceAdd, Nat.reduceLeDiff, reduceCtorEq, Nat.reduceSub, Int.reduceEq, Int.reduceLT, Int.reduceLE, Int.reduceGT, Int.reduceGE, Int.reduceSub, Int.reduceAdd, Int.reduceMul, Int.reduceNe, Int.reduceNeg, Int.reduceToNat, Nat.reduceMul, t5, t6, bl_eq_nil, c, spDiv, hX, hY, nl_bl]
      refine ⟨X % Y, Nat.mod_lt _ (by omega), Y, rfl, rfl, hY, ?_, ?_⟩
      · exact Nat.le_trans (bl_length_mono (Nat.le_of_lt (Nat.mod_lt _ (by omega)))) hY
      · rw [← hg, Nat.gcd_comm X Y, Nat.gcd_rec Y X, Nat.gcd_comm]
  · (first | (simp only [↓R0, R1, rdL, rdH, isCall, istep, ibin, vcells, fillI, setR, flat, okCell, isBase, List.set, List.drop, List.take, List.append, bnds, bhi, blo, srcOf, ↓reduceIte, Nat.reduceEqDiff, Nat.reduceAdd, Nat.reduceLeDiff, reduceCtorEq, Nat.reduceSub, Int.reduceEq, Int.reduceLT, Int.reduceLE, Int.reduceGT, Int.reduceGE, Int.reduceSub, Int.reduceAdd, Int.reduceMul, Int.reduceNe, Int.reduceNeg, Int.reduceToNat, Nat.reduceMul]; done) | (simp only [↓R0, R1, rdL, rdH, isCall, istep, ibin, vcells, fillI, setR, flat, okCell, isBase, List.set, List.drop, List.take, List.append, bnds, bhi, blo, srcOf, ↓reduceIte, Nat.reduceEqDiff, Nat.reduceAdd, Nat.reduceLeDiff, reduceCtorEq, Nat.reduceSub, Int.reduceEq, Int.reduceLT, Int.reduceLE, Int.reduceGT, Int.reduceGE, Int.reduceSub, Int.reduceAdd, Int.reduceMul, Int.reduceNe, Int.reduceNeg, Int.reduceToNat, Nat.reduceMul]; rfl) | rfl)
  · (first | (simp only [↓R0, R1, rdL, rdH, isCall, istep, ibin, vcells, fillI, setR, flat, okCell, isBase, List.set, List.drop, List.take, List.append, bnds, bhi, blo, srcOf, ↓reduceIte, Nat.reduceEqDiff, Nat.reduceAdd, Nat.reduceLeDiff, reduceCtorEq, Nat.reduceSub, Int.reduceEq, Int.reduceLT, Int.reduceLE, Int.reduceGT, Int.reduceGE, Int.reduceSub, Int.reduceAdd, Int.reduceMul, Int.reduceNe, Int.reduceNeg, Int.reduceToNat, Nat.reduceMul]; done) | (simp only [↓R0, R1, rdL, rdH, isCall, istep, ibin, vcells, fillI, setR, flat, okCell, isBase, List.set, List.drop, List.take, List.append, bnds, bhi, blo, srcOf, ↓reduceIte, Nat.reduceEqDiff, Nat.reduceAdd, Nat.reduceLeDiff, reduceCtorEq, Nat.reduceSub, Int.reduceEq, Int.reduceLT, Int.reduceLE, Int.reduceGT, Int.reduceGE, Int.reduceSub, Int.reduceAdd, Int.reduceMul, Int.reduceNe, Int.reduceNeg, Int.reduceToNat, Nat.reduceMul]; rfl) | rfl)
end Go.Eng
end
section
set_option linter.unusedVariables false
set_option linter.unusedSimpArgs false
set_option linter.unusedSectionVars false
namespace Go.Eng
theorem shows_tb {h : Heap} {v : Value} {cs : List Value} (e : shows h v = some cs) (hu : uok cs = true) : ∃ kb off K cap blk, v = .slice (some ⟨kb, off, none⟩) K cap ∧ hget h kb = some blk ∧ off + K ≤ blk.cells.length ∧
    (∀ i, i < K → blk.cells[off + i]? = some (.int .u32 (lm (ud cs) i : Nat))) ∧ ud cs < 4294967296 ^ K ∧ cs.length = K := by
  obtain ⟨kb, off, K, cap, blk, rfl, hb, hle, hcs', hlen⟩ := shows_inv e
  refine ⟨kb, off, K, cap, blk, rfl, hb, hle, fun i hi => ?_, ?_, hlen⟩
  · have h1 : cs[i]? = some (.int .u32 (lm (ud cs) i : Nat)) := by
      conv => lhs; rw [tb_ud hu, hlen]
      rw [tb_get' _ hi]
    rw [hcs', List.getElem?_take, if_pos hi, List.getElem?_drop] at h1
    rw [← hcs'] at h1
    exact h1
  · have := ud_lt hu; rw [hlen] at this; exact this
end Go.Eng
end
section
set_option linter.unusedVariables false
set_option linter.unusedSimpArgs false
set_option linter.unusedSectionVars false
set_option maxRecDepth 4000
namespace Go.Eng
open Go Go.Proofs Go.IntWalk
theorem lm_0 : lm 0 = fun _ => 0 := by funext j; unfold lm; simp
theorem shl32 {c s : Nat} (h : c * 2 ^ s < 4294967296) (hs : s ≤ 32) : IntKind.u32.wrap ((c : Int) * 2 ^ min s IntKind.u32.bits) = ((c * 2 ^ s : Nat) : Int) := by
  have : min s IntKind.u32.bits = s := Nat.min_eq_left hs
  rw [this, ← u32_nat h, Int.natCast_mul, Int.natCast_pow]; rfl
def spLimbs (args : List Value) (_ : Heap) : Option ((Nat → Value) × Blk) := match args with
  | [.string ⟨⟨l⟩⟩] => if l.length ≤ 1099511627776 then some (fun k => .slice (some ⟨k, 0, none⟩) (lk (nl l)) (lk (nl l)), ⟨80, 1, false, tb (lk (nl l)) (lm (nl l))⟩) else none
  | _ => none
def c65 : ICode :=
  (.seq (.reg [⟨(some 2), none, (.mv (.c (.slice none 0 0)))⟩])
  (.seq (.reg [⟨(some 5), none, (.mv (.t 0))⟩, ⟨(some 6), none, (.call 64 [(.t 5)])⟩, ⟨(some 0), none, (.mv (.t 6))⟩])
  (.seq (.reg [⟨(some 7), none, (.mv (.t 0))⟩, ⟨(some 8), none, (.lens (.t 7))⟩, ⟨(some 9), none, (.bin .add (.t 8) (.c (.int .i64 4)))⟩, ⟨(some 10), none, (.bin .sub (.t 9) (.c (.int .i64 1)))⟩, ⟨(some 11), none, (.bin .quo (.t 10) (.c (.int .i64 4)))⟩, ⟨(some 12), none, (.mkslice 80 1 4 [(.int .u32 0)] (.t 11) (.t 11))⟩, ⟨(some 3), none, (.mv (.t 12))⟩])
  (.seq (.seq (.reg [⟨(some 13), none, (.mv (.t 0))⟩, ⟨(some 14), none, (.lens (.t 13))⟩, ⟨(some 15), none, (.mv (.c (.int .i64 0)))⟩])
  (.block 0 (.loop (.seq (.reg [⟨(some 16), none, (.bin .lss (.t 15) (.t 14))⟩])
  (.seq (.cond (.t 16)
  .skip
  (.exit 0))
  (.seq (.block 1 (.seq (.reg [⟨(some 17), none, (.mv (.t 15))⟩, ⟨(some 4), none, (.mv (.t 17))⟩])
  (.dreg [⟨(some 18), none, [], (.mv (.t 3))⟩, ⟨(some 19), none, [], (.mv (.t 4))⟩, ⟨(some 20), none, [], (.bin .quo (.t 19) (.c (.int .i64 4)))⟩, ⟨(some 21), none, [], (.ixsl 1 (.t 18) (.t 20))⟩, ⟨(some 22), none, [], (.load false 1 (.t 21))⟩, ⟨(some 23), none, [], (.mv (.t 0))⟩, ⟨(some 24), none, [], (.mv (.t 4))⟩, ⟨(some 25), none, [], (.idstr (.t 23) (.t 24))⟩, ⟨(some 26), none, [], (.conv .u32 (.t 25))⟩, ⟨(some 27), none, [], (.mv (.t 4))⟩, ⟨(some 28), none, [], (.bin .rem (.t 27) (.c (.int .i64 4)))⟩, ⟨(some 29), none, [], (.bin .mul (.c (.int .i64 8)) (.t 28))⟩, ⟨(some 30), none, [], (.bin .shl (.t 26) (.t 29))⟩, ⟨(some 31), none, [], (.bin .or (.t 22) (.t 30))⟩, ⟨(some 32), none, [], (.ixsl 1 (.t 18) (.t 20))⟩, ⟨none, none, [], (.store 1 (.t 32) (.t 31))⟩])))
  (.reg [⟨(some 33), none, (.bin .add (.t 15) (.c (.int .i64 1)))⟩, ⟨(some 15), none, (.mv (.t 33))⟩])))))))
  (.seq (.reg [⟨(some 34), none, (.mv (.t 3))⟩, ⟨(some 2), none, (.mv (.t 34))⟩])
  .ret)))))
theorem tr65 : trFun Tryd.prog 65 = some ⟨35, [.t 2], c65⟩ := by kernel_rfl
theorem ok_nlimbs : SpecOK Tryd.prog 65 (nwS spLimbs) := by
  refine nw_run (env_cons ok_nNorm (env_nil _)) mixed tr65 ?_ ?_
  · intro args h h' v hl e; exact e
  intro args vf b h N hG hN
  unfold spLimbs at hG
  split at hG
  case h_2 => cases hG
  rename_i l
  split at hG
  case isFalse => cases hG
  rename_i hl
  cases hG
  refine ⟨rfl, tb_base _ _, vr1_sl _ _ _, by simp, ?_⟩
  have hL : (bl (nl l)).length ≤ 1099511627776 := Nat.le_trans (bl_length_nl l) hl
  generalize hn : nl l = n at *
  have hK : lk n = ((bl n).length + 3) / 4 := rfl
  have a1 : IntKind.i64.wrap (((bl n).length : Int) + 4) = (((bl n).length + 4 : Nat) : Int) := by rw [i64_in _ (by omega)]; omega
  have a2 : IntKind.i64.wrap ((((bl n).length + 4 : Nat) : Int) - 1) = (((bl n).length + 3 : Nat) : Int) := by rw [i64_in _ (by omega)]; omega
  have a3 : IntKind.i64.wrap ((((bl n).length + 3 : Nat) : Int).tdiv 4) = (lk n : Int) := by
    rw [i64_quo _ _ (by omega), hK]; omega
  have a4 : 4 * (lk n : Int) ≤ 281474976710656 := by omega
  have a5 : (lk n : Int) ≤ 9223372036854775807 := by omega
  simp only [c65, initT, List.zipIdx_cons, List.zipIdx_nil, List.map_cons, List.map_nil, Nat.reduceAdd]
  simp only [↓R0, R1, rdL, rdH, isCall, istep, ibin, vcells, fillI, setR, flat, okCell, isBase, List.set, List.drop, List.take, List.append, bnds, bhi, blo, srcOf, ↓reduceIte, Nat.reduceEqDiff, Nat.reduceAdd, Nat.reduceLeDiff, reduceCtorEq, Nat.reduceSub, Int.reduceEq, Int.reduceLT, Int.reduceLE, Int.reduceGT, Int.reduceGE, Int.reduceSub, Int.reduceAdd, Int.reduceMul, Int.reduceNe, Int.reduceNeg, Int.reduceToNat, Nat.reduceMul, spNNorm, hl, hn, a1, a2, a3, a4, a5, tb_rep]
  refine lp_parts (fun m tm hp nx => ∃ (i : Nat), m + i = (bl n).length ∧ tmget tm 0 = .string ⟨⟨bl n⟩⟩ ∧ tmget tm 3 = .slice (some ⟨N + 0, 0, none⟩) (lk n) (lk n) ∧ tmget tm 14 = .int .i64 (bl n).length ∧ tmget tm 15 = .int .i64 i ∧
      hget hp (N + 0) = some ⟨80, 1, false, tb (lk n) (lm (nl ((bl n).take i)))⟩ ∧ (∀ q, q < N → hget hp q = hget h q) ∧ nx = N + 1) ?_ (bl n).length
    ⟨0, by omega, ?_, ?_, ?_, ?_, ?_, ?_, rfl⟩
  · intro m tm hp nx ⟨i, hm, h0, h3, h14, h15, hb, hh, hnx⟩
    subst hnx
    by_cases c1 : i < (bl n).length
    · obtain ⟨b, hbb⟩ : ∃ b, (bl n)[i]? = some b := ⟨_, List.getElem?_eq_getElem c1⟩
      have hts := nl_take_succ (bl n) i
      rw [hbb, Option.getD_some] at hts
      obtain ⟨g1, g2, g3⟩ := limb_byte (v := nl ((bl n).take i)) (c := b.toNat) (i := i) (nl_take_lt _ _) b.toNat_lt
      have hi : i / 4 < lk n := by omega
      have e1 : IntKind.i64.wrap ((i : Int).tdiv 4) = ((i / 4 : Nat) : Int) := by rw [i64_quo _ _ (by omega)]; omega
      have e2 : (i : Int).tmod 4 = ((i % 4 : Nat) : Int) := by rw [Int.tmod_eq_emod_of_nonneg (by omega)]; omega
      have e3 : IntKind.i64.wrap (8 * ((i % 4 : Nat) : Int)) = ((8 * (i % 4) : Nat) : Int) := by rw [i64_in _ (by omega)]; omega
      have e4 : ¬ (((8 * (i % 4) : Nat) : Int) < 0) := by omega
      have e5 := shl32 (c := b.toNat) (s := 8 * (i % 4)) (by omega) (by omega)
      have e6 := or_u32 g2 g3
      have e7 : IntKind.i64.wrap ((i : Int) + 1) = ((i + 1 : Nat) : Int) := by rw [i64_in _ (by omega)]; omega
      have e8 := tb_get' (lm (nl ((bl n).take i))) hi
      have e9 : i / 4 + 1 ≤ lk n := hi
      have ew := u32_nat (n := b.toNat) (by have := b.toNat_lt; omega)
      simp only [↓R0, R1, rdL, rdH, isCall, istep, ibin, vcells, fillI, setR, flat, okCell, isBase, List.set, List.drop, List.take, List.append, bnds, bhi, blo, srcOf, ↓reduceIte, Nat.reduceEqDiff, Nat.reduceAdd, Nat.reduceLeDiff, reduceCtorEq, Nat.reduceSub, Int.reduceEq, Int.reduceLT, Int.reduceLE, Int.reduceGT, Int.reduceGE, Int.reduceSub, Int.reduceAdd, Int.reduceMul, Int.reduceNe, Int.reduceNeg, Int.reduceToNat, Nat.reduceMul, h0, h3, h14, h15, hb, c1, e1, e2, e3, e4, e5, e6, e7, e8, e9, ew, hi, hbb, tb_length]
      refine ⟨m - 1, by omega, i + 1, by omega, rfl, ?_, ?_⟩
      · rw [tb_set, hts]
        rw [show (fun j => if j = i / 4 then lm (nl ((bl n).take i)) (i / 4) + b.toNat * 2 ^ (8 * (i % 4)) else lm (nl ((bl n).take i)) j) = lm (nl ((bl n).take i) + 256 ^ i * b.toNat) from funext fun j => (g1 j).symm]
      · intro q hq
        simp only [if_neg (show ¬ N + 0 = q by omega)]
        exact hh q hq
    · have ei : i = (bl n).length := by omega
      subst ei
      rw [List.take_length, nl_bl] at hb
      simp only [↓R0, R1, rdL, rdH, isCall, istep, ibin, vcells, fillI, setR, flat, okCell, isBase, List.set, List.drop, List.take, List.append, bnds, bhi, blo, srcOf, ↓reduceIte, Nat.reduceEqDiff, Nat.reduceAdd, Nat.reduceLeDiff, reduceCtorEq, Nat.reduceSub, Int.reduceEq, Int.reduceLT, Int.reduceLE, Int.reduceGT, Int.reduceGE, Int.reduceSub, Int.reduceAdd, Int.reduceMul, Int.reduceNe, Int.reduceNeg, Int.reduceToNat, Nat.reduceMul, h0, h3, h14, h15, c1]
      refine ⟨trivial, _, N + 0, false, rfl, ?_, by omega, hb, hh⟩
      (first | (simp only [↓R0, R1, rdL, rdH, isCall, istep, ibin, vcells, fillI, setR, flat, okCell, isBase, List.set, List.drop, List.take, List.append, bnds, bhi, blo, srcOf, ↓reduceIte, Nat.reduceEqDiff, Nat.reduceAdd, Nat.reduceLeDiff, reduceCtorEq, Nat.reduceSub, Int.reduceEq, Int.reduceLT, Int.reduceLE, Int.reduceGT, Int.reduceGE, Int.reduceSub, Int.reduceAdd, Int.reduceMul, Int.reduceNe, Int.reduceNeg, Int.reduceToNat, Nat.reduceMul, one]; done) | (simp only [↓R0, R1, rdL, rdH, isCall, istep, ibin, vcells, fillI, setR, flat, okCell, isBase, List.set, List.drop, List.take, List.append, bnds, bhi, blo, srcOf, ↓reduceIte, Nat.reduceEqDiff, Nat.reduceAdd, Nat.reduceLeDiff, reduceCtorEq, Nat.reduceSub, Int.reduceEq, Int.reduceLT, Int.reduceLE, Int.reduceGT, Int.reduceGE, Int.reduceSub, Int.reduceAdd, Int.reduceMul, Int.reduceNe, Int.reduceNeg, Int.reduceToNat, Nat.reduceMul, one]; rfl) | rfl)
  · (first | (simp only [↓R0, R1, rdL, rdH, isCall, istep, ibin, vcells, fillI, setR, flat, okCell, isBase, List.set, List.drop, List.take, List.append, bnds, bhi, blo, srcOf, ↓reduceIte, Nat.reduceEqDiff, Nat.reduceAdd, Nat.reduceLeDiff, reduceCtorEq, Nat.reduceSub, Int.reduceEq, Int.reduceLT, Int.reduceLE, Int.reduceGT, Int.reduceGE, Int.reduceSub, Int.reduceAdd, Int.reduceMul, Int.reduceNe, Int.reduceNeg, Int.reduceToNat, Nat.reduceMul]; done) | (simp only [↓R0, R1, rdL, rdH, isCall, istep, ibin, vcells, fillI, setR, flat, okCell, isBase, List.set, List.drop, List.take, List.append, bnds, bhi, blo, srcOf, ↓reduceIte, Nat.reduceEqDiff, Nat.reduceAdd, Nat.reduceLeDiff, reduceCtorEq, Nat.reduceSub, Int.reduceEq, Int.reduceLT, Int.reduceLE, Int.reduceGT, Int.reduceGE, Int.reduceSub, Int.reduceAdd, Int.reduceMul, Int.reduceNe, Int.reduceNeg, Int.reduceToNat, Nat.reduceMul]; rfl) | rfl)
  · (first | (simp only [↓R0, R1, rdL, rdH, isCall, istep, ibin, vcells, fillI, setR, flat, okCell, isBase, List.set, List.drop, List.take, List.append, bnds, bhi, blo, srcOf, ↓reduceIte, Nat.reduceEqDiff, Nat.reduceAdd, Nat.reduceLeDiff, reduceCtorEq, Nat.reduceSub, Int.reduceEq, Int.reduceLT, Int.reduceLE, Int.reduceGT, Int.reduceGE, Int.reduceSub, Int.reduceAdd, Int.reduceMul, Int.reduceNe, Int.reduceNeg, Int.reduceToNat, Nat.reduceMul]; done) | (simp only [↓R0, R1, rdL, rdH, isCall, istep, ibin, vcells, fillI, setR, flat, okCell, isBase, List.set, List.drop, List.take, List.append, bnds, bhi, blo, srcOf, ↓reduceIte, Nat.reduceEqDiff, Nat.reduceAdd, Nat.reduceLeDiff, reduceCtorEq, Nat.reduceSub, Int.reduceEq, Int.reduceLT, Int.reduceLE, Int.reduceGT, Int.reduceGE, Int.reduceSub, Int.reduceAdd, Int.reduceMul, Int.reduceNe, Int.reduceNeg, Int.reduceToNat, Nat.reduceMul]; rfl) | rfl)
  · (first | (simp only [↓R0, R1, rdL, rdH, isCall, istep, ibin, vcells, fillI, setR, flat, okCell, isBase, List.set, List.drop, List.take, List.append, bnds, bhi, blo, srcOf, ↓reduceIte, Nat.reduceEqDiff, Nat.reduceAdd, Nat.reduceLeDiff, reduceCtorEq, Nat.reduceSub, Int.reduceEq, Int.reduceLT, Int.reduceLE, Int.reduceGT, Int.reduceGE, Int.reduceSub, Int.reduceAdd, Int.reduceMul, Int.reduceNe, Int.reduceNeg, Int.reduceToNat, Nat.reduceMul]; done) | (simp only [↓R0, R1, rdL, rdH, isCall, istep, ibin, vcells, fillI, setR, flat, okCell, isBase, List.set, List.drop, List.take, List.append, bnds, bhi, blo, srcOf, ↓reduceIte, Nat.reduceEqDiff, Nat.reduceAdd, Nat.reduceLeDiff, reduceCtorEq, Nat.reduceSub, Int.reduceEq, Int.reduceLT, Int.reduceLE, Int.reduceGT, Int.reduceGE, Int.reduceSub, Int.reduceAdd, Int.reduceMul, Int.reduceNe, Int.reduceNeg, Int.reduceToNat, Nat.reduceMul]; rfl) | rfl)
  · (first | (simp only [↓R0, R1, rdL, rdH, isCall, istep, ibin, vcells, fillI, setR, flat, okCell, isBase, List.set, List.drop, List.take, List.append, bnds, bhi, blo, srcOf, ↓reduceIte, Nat.reduceEqDiff, Nat.reduceAdd, Nat.reduceLeDiff, reduceCtorEq, Nat.reduceSub, Int.reduceEq, Int.reduceLT, Int.reduceLE, Int.reduceGT, Int.reduceGE, Int.reduceSub, Int.reduceAdd, Int.reduceMul, Int.reduceNe, Int.reduceNeg, Int.reduceToNat, Nat.reduceMul]; done) | (simp only [↓R0, R1, rdL, rdH, isCall, istep, ibin, vcells, fillI, setR, flat, okCell, isBase, List.set, List.drop, List.take, List.append, bnds, bhi, blo, srcOf, ↓reduceIte, Nat.reduceEqDiff, Nat.reduceAdd, Nat.reduceLeDiff, reduceCtorEq, Nat.reduceSub, Int.reduceEq, Int.reduceLT, Int.reduceLE, Int.reduceGT, Int.reduceGE, Int.reduceSub, Int.reduceAdd, Int.reduceMul, Int.reduceNe, Int.reduceNeg, Int.reduceToNat, Nat.reduceMul]; rfl) | rfl)
  · (first | (simp only [↓R0, R1, rdL, rdH, isCall, istep, ibin, vcells, fillI, setR, flat, okCell, isBase, List.set, List.drop, List.take, List.append, bnds, bhi, blo, srcOf, ↓reduceIte, Nat.reduceEqDiff, Nat.reduceAdd, Nat.reduceLeDiff, reduceCtorEq, Nat.reduceSub, Int.reduceEq, Int.reduceLT, Int.reduceLE, Int.reduceGT, Int.reduceGE, Int.reduceSub, Int.reduceAdd, Int.reduceMul, Int.reduceNe, Int.reduceNeg, Int.reduceToNat, Nat.reduceMul, List.take_zero, nl, lm_0]; done) | (simp only [↓R0, R1, rdL, rdH, isCall, istep, ibin, vcells, fillI, setR, flat, okCell, isBase, List.set, List.drop, List.take, List.append, bnds, bhi, blo, srcOf, ↓reduceIte, Nat.reduceEqDiff, Nat.reduceAdd, Nat.reduceLeDiff, reduceCtorEq, Nat.reduceSub, Int.reduceEq, Int.reduceLT, Int.reduceLE, Int.reduceGT, Int.reduceGE, Int.reduceSub, Int.reduceAdd, Int.reduceMul, Int.reduceNe, Int.reduceNeg, Int.reduceToNat, Nat.reduceMul, List.take_zero, nl, lm_0]; rfl) | rfl)
  · intro q hq
    simp only [↓R0, R1, rdL, rdH, isCall, istep, ibin, vcells, fillI, setR, flat, okCell, isBase, List.set, List.drop, List.take, List.append, bnds, bhi, blo, srcOf, ↓reduceIte, Nat.reduceEqDiff, Nat.reduceAdd, Nat.reduceLeDiff, reduceCtorEq, Nat.reduceSub, Int.reduceEq, Int.reduceLT, Int.reduceLE, Int.reduceGT, Int.reduceGE, Int.reduceSub, Int.reduceAdd, Int.reduceMul, Int.reduceNe, Int.reduceNeg, Int.reduceToNat, Nat.reduceMul, hget_new hq]
def spMag : List Value → Heap → Option Value
  | [v], h => match shows h v with
    | some cs => if uok cs = true ∧ cs.length ≤ 34359738368 then some (.string ⟨⟨bl (ud cs)⟩⟩) else none
    | none => none
  | _, _ => none
def c59 : ICode :=
  (.seq (.reg [⟨(some 2), none, (.mv (.c (.string ⟨⟨[]⟩⟩)))⟩])
  (.seq (.reg [⟨(some 7), none, (.mv (.t 0))⟩, ⟨(some 8), none, (.lensl (.t 7))⟩, ⟨(some 9), none, (.bin .mul (.c (.int .i64 4)) (.t 8))⟩, ⟨(some 10), none, (.mkslice 5 1 1 [(.int .u8 0)] (.c (.int .i64 0)) (.t 9))⟩, ⟨(some 3), none, (.mv (.t 10))⟩])
  (.seq (.seq (.reg [⟨(some 11), none, (.mv (.t 0))⟩, ⟨(some 12), none, (.lensl (.t 11))⟩, ⟨(some 13), none, (.mv (.c (.int .i64 0)))⟩])
  (.block 0 (.loop (.seq (.reg [⟨(some 14), none, (.bin .lss (.t 13) (.t 12))⟩])
  (.seq (.cond (.t 14)
  .skip
  (.exit 0))
  (.seq (.block 1 (.seq (.reg [⟨(some 15), none, (.ixsl 1 (.t 11) (.t 13))⟩, ⟨(some 16), none, (.load false 1 (.t 15))⟩, ⟨(some 5), none, (.mv (.t 16))⟩])
  (.seq (.reg [⟨(some 17), none, (.mv (.c (.int .i64 0)))⟩])
  (.block 2 (.loop (.seq (.reg [⟨(some 18), none, (.bin .lss (.t 17) (.c (.int .i64 4)))⟩])
  (.seq (.cond (.t 18)
  .skip
  (.exit 2))
  (.seq (.block 3 (.seq (.reg [⟨(some 19), none, (.mv (.t 17))⟩, ⟨(some 6), none, (.mv (.t 19))⟩])
  (.reg [⟨(some 20), none, (.mv (.t 3))⟩, ⟨(some 21), none, (.mv (.t 5))⟩, ⟨(some 22), none, (.mv (.t 6))⟩, ⟨(some 23), none, (.bin .mul (.c (.int .i64 8)) (.t 22))⟩, ⟨(some 24), none, (.bin .shr (.t 21) (.t 23))⟩, ⟨(some 25), none, (.conv .u8 (.t 24))⟩, ⟨(some 26), none, (.bslice 5 1 1 [(.int .u8 0)] [(0, 1, (.t 25))])⟩, ⟨(some 27), none, (.app 5 1 1 (.t 20) (.t 26))⟩, ⟨(some 3), none, (.mv (.t 27))⟩])))
  (.reg [⟨(some 28), none, (.bin .add (.t 17) (.c (.int .i64 1)))⟩, ⟨(some 17), none, (.mv (.t 28))⟩])))))))))
  (.reg [⟨(some 29), none, (.bin .add (.t 13) (.c (.int .i64 1)))⟩, ⟨(some 13), none, (.mv (.t 29))⟩])))))))
  (.seq (.reg [⟨(some 30), none, (.mv (.t 3))⟩, ⟨(some 31), none, (.b2s (.t 30))⟩, ⟨(some 32), none, (.call 64 [(.t 31)])⟩, ⟨(some 2), none, (.mv (.t 32))⟩])
  .ret))))
theorem tr59 : trFun Tryd.prog 59 = some ⟨33, [.t 2], c59⟩ := by kernel_rfl
set_option maxHeartbeats 1000000 in
theorem ok_nmag : SpecOK Tryd.prog 59 (rdS spMag) := by
  refine rd_run (env_cons ok_nNorm (env_nil _)) mixed tr59 ?_ ?_
  · intro args h h' v hle e
    unfold spMag at e ⊢
    split at e
    · split at e
      · rename_i cs hcs
        simp only [shows_mono hle hcs]; exact e
      · cases e
    · cases e
  intro args v h N hG hN
  unfold spMag at hG
  split at hG
  case h_2 => cases hG
  rename_i sv _
  split at hG
  case h_2 => cases hG
  rename_i cs hcs
  split at hG
  case isFalse => cases hG
  rename_i hl
  obtain ⟨hu, hl⟩ := hl
  cases hG
  refine ⟨rfl, by simp, ?_⟩
  obtain ⟨kb, off, K, cap, blk, rfl, hb, hle, hcell, hV, hlen⟩ := shows_tb hcs hu
  have hkb := hN _ _ hb
  have hne : ∀ a, ¬ (N + a = kb) := fun a => by omega
  rw [hlen] at hl
  generalize ud cs = V at *
  have a1 : IntKind.i64.wrap (4 * (K : Int)) = ((4 * K : Nat) : Int) := by rw [i64_in _ (by omega)]; omega
  have a2 : 1 * ((4 * K : Nat) : Int) ≤ 281474976710656 := by omega
  have a3 : ((4 * K : Nat) : Int) ≤ 9223372036854775807 := by omega
  simp only [c59, initT, List.zipIdx_cons, List.zipIdx_nil, List.map_cons, List.map_nil, Nat.reduceAdd]
  simp only [↓R0, R1, rdL, rdH, isCall, istep, ibin, vcells, fillI, setR, flat, okCell, isBase, List.set, List.drop, List.take, List.append, bnds, bhi, blo, srcOf, ↓reduceIte, Nat.reduceEqDiff, Nat.reduceAdd, Nat.reduceLeDiff, reduceCtorEq, Nat.reduceSub, Int.reduceEq, Int.reduceLT, Int.reduceLE, Int.reduceGT, Int.reduceGE, Int.reduceSub, Int.reduceAdd, Int.reduceMul, Int.reduceNe, Int.reduceNeg, Int.reduceToNat, Nat.reduceMul, a1, a2, a3]
  refine lp_parts (fun m tm hp nx => ∃ (i j kk : Nat) (out : List UInt8) (x : Bool), m + i = K ∧ tmget tm 11 = .slice (some ⟨kb, off, none⟩) K cap ∧ tmget tm 12 = .int .i64 K ∧ tmget tm 13 = .int .i64 i ∧
      tmget tm 3 = .slice (some ⟨N + kk, 0, none⟩) (4 * i) (4 * i) ∧ hget hp (N + kk) = some ⟨5, 1, x, bc out⟩ ∧ out.length = 4 * i ∧ nl out = V % 256 ^ (4 * i) ∧ (∀ q, q < N → hget hp q = hget h q) ∧ nx = N + j ∧ kk < j) ?_ K
    ⟨0, 1, 0, [], false, by omega, ?_, ?_, ?_, ?_, ?_, rfl, ?_, ?_, rfl, by omega⟩
  · intro m tm hp nx ⟨i, j, kk, out, x, hm, h11, h12, h13, h3, hk, ho, hv, hh, hnx, hkj⟩
    subst hnx
    by_cases c1 : i < K
    · have hbb : hget hp kb = some blk := by rw [hh kb hkb]; exact hb
      have e1 : IntKind.i64.wrap ((i : Int) + 1) = ((i + 1 : Nat) : Int) := by rw [i64_in _ (by omega)]; omega
      simp only [↓R0, R1, rdL, rdH, isCall, istep, ibin, vcells, fillI, setR, flat, okCell, isBase, List.set, List.drop, List.take, List.append, bnds, bhi, blo, srcOf, ↓reduceIte, Nat.reduceEqDiff, Nat.reduceAdd, Nat.reduceLeDiff, reduceCtorEq, Nat.reduceSub, Int.reduceEq, Int.reduceLT, Int.reduceLE, Int.reduceGT, Int.reduceGE, Int.reduceSub, Int.reduceAdd, Int.reduceMul, Int.reduceNe, Int.reduceNeg, Int.reduceToNat, Nat.reduceMul, h11, h12, h13, h3, c1, hbb, hcell i c1]
      refine lp_parts (fun m2 tm hp nx => ∃ (k j kk : Nat) (out : List UInt8) (x : Bool), m2 + k = 4 ∧ tmget tm 11 = .slice (some ⟨kb, off, none⟩) K cap ∧ tmget tm 12 = .int .i64 K ∧ tmget tm 13 = .int .i64 i ∧ tmget tm 5 = .int .u32 (lm V i : Nat) ∧ tmget tm 17 = .int .i64 k ∧
        tmget tm 3 = .slice (some ⟨N + kk, 0, none⟩) (4 * i + k) (4 * i + k) ∧ hget hp (N + kk) = some ⟨5, 1, x, bc out⟩ ∧ out.length = 4 * i + k ∧ nl out = V % 256 ^ (4 * i + k) ∧ (∀ q, q < N → hget hp q = hget h q) ∧ nx = N + j ∧ kk < j) ?_ 4
        ⟨0, j, kk, out, x, by omega, ?_, ?_, ?_, ?_, ?_, ?_, hk, ho, hv, hh, rfl, hkj⟩
      · clear hk ho hv hh h11 h12 h13 h3 hbb hkj
        clear tm hp out x j kk
        intro m2 tm hp nx ⟨k, j, kk, out, x, hm2, h11, h12, h13, h5, h17, h3, hk, ho, hv, hh, hnx, hkj⟩
        subst hnx
        by_cases c2 : k < 4
        · have c2' : (k : Int) < 4 := by omega
          have e2 : IntKind.i64.wrap (8 * (k : Int)) = ((8 * k : Nat) : Int) := by rw [i64_in _ (by omega)]; omega
          have e3 : ¬ (((8 * k : Nat) : Int) < 0) := by omega
          have e4 := shr32 (lm V i) (8 * k) (by omega)
          have e5 : IntKind.u8.wrap ((lm V i / 2 ^ (8 * k) : Nat) : Int) = ((UInt8.ofNat (V / 256 ^ (4 * i + k) % 256)).toNat : Int) := by
            rw [← byte_limb V i k c2]
            have : IntKind.u8.wrap ((lm V i / 2 ^ (8 * k) : Nat) : Int) = ((lm V i / 2 ^ (8 * k) : Nat) : Int) % 256 := rfl
            rw [this]; simp
          have e6 : IntKind.i64.wrap ((k : Int) + 1) = ((k + 1 : Nat) : Int) := by rw [i64_in _ (by omega)]; omega
          have f1 : ¬ (4 * i + k + 1 ≤ 4 * i + k) := by omega
          have f2 : 4 * i + k + 1 ≤ 140737488355328 := by omega
          have f3 : ¬ (j = kk) := by omega
          have f4 : 0 + 1 ≤ 1 := by omega
          simp only [↓R0, R1, rdL, rdH, isCall, istep, ibin, vcells, fillI, setR, flat, okCell, isBase, List.set, List.drop, List.take, List.append, bnds, bhi, blo, srcOf, ↓reduceIte, Nat.reduceEqDiff, Nat.reduceAdd, Nat.reduceLeDiff, reduceCtorEq, Nat.reduceSub, Int.reduceEq, Int.reduceLT, Int.reduceLE, Int.reduceGT, Int.reduceGE, Int.reduceSub, Int.reduceAdd, Int.reduceMul, Int.reduceNe, Int.reduceNeg, Int.reduceToNat, Nat.reduceMul, h11, h12, h13, h5, h17, h3, c2', e2, e3, e4, e5, e6, f1, f2, f3, f4, hk, ho]
          refine ⟨m2 - 1, by omega, k + 1, j + 2, j + 1, out ++ [UInt8.ofNat (V / 256 ^ (4 * i + k) % 256)], false, by omega, rfl, rfl, ?_, by simp [ho]; omega, ?_, ?_, rfl, Nat.lt_succ_self _⟩
          · rw [if_pos rfl, bc_append]; rfl
          · rw [nl_append, ho, hv]
            have : 4 * i + (k + 1) = (4 * i + k) + 1 := by omega
            rw [this, byte_step]
            simp [nl]
          · intro q hq
            simp only [if_neg (show ¬ N + (j + 1) = q by omega), if_neg (show ¬ N + kk = q by omega), if_neg (show ¬ N + j = q by omega)]
            exact hh q hq
        · have ek : k = 4 := by omega
          subst ek
          have c2' : ¬ (((4 : Nat) : Int) < 4) := by omega
          simp only [↓R0, R1, rdL, rdH, isCall, istep, ibin, vcells, fillI, setR, flat, okCell, isBase, List.set, List.drop, List.take, List.append, bnds, bhi, blo, srcOf, ↓reduceIte, Nat.reduceEqDiff, Nat.reduceAdd, Nat.reduceLeDiff, reduceCtorEq, Nat.reduceSub, Int.reduceEq, Int.reduceLT, Int.reduceLE, Int.reduceGT, Int.reduceGE, Int.reduceSub, Int.reduceAdd, Int.reduceMul, Int.reduceNe, Int.reduceNeg, Int.reduceToNat, Nat.reduceMul, h11, h12, h13, h3, h17, c2', e1]
          refine ⟨m - 1, by omega, i + 1, j, kk, out, x, by omega, rfl, ?_, hk, by omega, ?_, hh, rfl, hkj⟩
          · rw [show 4 * (i + 1) = 4 * i + 4 by omega]
          · rw [show 4 * (i + 1) = 4 * i + 4 by omega]; exact hv
      · (first | (simp only [↓R0, R1, rdL, rdH, isCall, istep, ibin, vcells, fillI, setR, flat, okCell, isBase, List.set, List.drop, List.take, List.append, bnds, bhi, blo, srcOf, ↓reduceIte, Nat.reduceEqDiff, Nat.reduceAdd, Nat.reduceLeDiff, reduceCtorEq, Nat.reduceSub, Int.reduceEq, Int.reduceLT, Int.reduceLE, Int.reduceGT, Int.reduceGE, Int.reduceSub, Int.reduceAdd, Int.reduceMul, Int.reduceNe, Int.reduceNeg, Int.reduceToNat, Nat.reduceMul, h11]; done) | (simp only [↓R0, R1, rdL, rdH, isCall, istep, ibin, vcells, fillI, setR, flat, okCell, isBase, List.set, List.drop, List.take, List.append, bnds, bhi, blo, srcOf, ↓reduceIte, Nat.reduceEqDiff, Nat.reduceAdd, Nat.reduceLeDiff, reduceCtorEq, Nat.reduceSub, Int.reduceEq, Int.reduceLT, Int.reduceLE, Int.reduceGT, Int.reduceGE, Int.reduceSub, Int.reduceAdd, Int.reduceMul, Int.reduceNe, Int.reduceNeg, Int.reduceToNat, Nat.reduceMul, h11]; rfl) | rfl)
      · (first | (simp only [↓R0, R1, rdL, rdH, isCall, istep, ibin, vcells, fillI, setR, flat, okCell, isBase, List.set, List.drop, List.take, List.append, bnds, bhi, blo, srcOf, ↓reduceIte, Nat.reduceEqDiff, Nat.reduceAdd, Nat.reduceLeDiff, reduceCtorEq, Nat.reduceSub, Int.reduceEq, Int.reduceLT, Int.reduceLE, Int.reduceGT, Int.reduceGE, Int.reduceSub, Int.reduceAdd, Int.reduceMul, Int.reduceNe, Int.reduceNeg, Int.reduceToNat, Nat.reduceMul, h12]; done) | (simp only [↓R0, R1, rdL, rdH, isCall, istep, ibin, vcells, fillI, setR, flat, okCell, isBase, List.set, List.drop, List.take, List.append, bnds, bhi, blo, srcOf, ↓reduceIte, Nat.reduceEqDiff, Nat.reduceAdd, Nat.reduceLeDiff, reduceCtorEq, Nat.reduceSub, Int.reduceEq, Int.reduceLT, Int.reduceLE, Int.reduceGT, Int.reduceGE, Int.reduceSub, Int.reduceAdd, Int.reduceMul, Int.reduceNe, Int.reduceNeg, Int.reduceToNat, Nat.reduceMul, h12]; rfl) | rfl)
      · (first | (simp only [↓R0, R1, rdL, rdH, isCall, istep, ibin, vcells, fillI, setR, flat, okCell, isBase, List.set, List.drop, List.take, List.append, bnds, bhi, blo, srcOf, ↓reduceIte, Nat.reduceEqDiff, Nat.reduceAdd, Nat.reduceLeDiff, reduceCtorEq, Nat.reduceSub, Int.reduceEq, Int.reduceLT, Int.reduceLE, Int.reduceGT, Int.reduceGE, Int.reduceSub, Int.reduceAdd, Int.reduceMul, Int.reduceNe, Int.reduceNeg, Int.reduceToNat, Nat.reduceMul, h13]; done) | (simp only [↓R0, R1, rdL, rdH, isCall, istep, ibin, vcells, fillI, setR, flat, okCell, isBase, List.set, List.drop, List.take, List.append, bnds, bhi, blo, srcOf, ↓reduceIte, Nat.reduceEqDiff, Nat.reduceAdd, Nat.reduceLeDiff, reduceCtorEq, Nat.reduceSub, Int.reduceEq, Int.reduceLT, Int.reduceLE, Int.reduceGT, Int.reduceGE, Int.reduceSub, Int.reduceAdd, Int.reduceMul, Int.reduceNe, Int.reduceNeg, Int.reduceToNat, Nat.reduceMul, h13]; rfl) | rfl)
      · (first | (simp only [↓R0, R1, rdL, rdH, isCall, istep, ibin, vcells, fillI, setR, flat, okCell, isBase, List.set, List.drop, List.take, List.append, bnds, bhi, blo, srcOf, ↓reduceIte, Nat.reduceEqDiff, Nat.reduceAdd, Nat.reduceLeDiff, reduceCtorEq, Nat.reduceSub, Int.reduceEq, Int.reduceLT, Int.reduceLE, Int.reduceGT, Int.reduceGE, Int.reduceSub, Int.reduceAdd, Int.reduceMul, Int.reduceNe, Int.reduceNeg, Int.reduceToNat, Nat.reduceMul]; done) | (simp only [↓R0, R1, rdL, rdH, isCall, istep, ibin, vcells, fillI, setR, flat, okCell, isBase, List.set, List.drop, List.take, List.append, bnds, bhi, blo, srcOf, ↓reduceIte, Nat.reduceEqDiff, Nat.reduceAdd, Nat.reduceLeDiff, reduceCtorEq, Nat.reduceSub, Int.reduceEq, Int.reduceLT, Int.reduceLE, Int.reduceGT, Int.reduceGE, Int.reduceSub, Int.reduceAdd, Int.reduceMul, Int.reduceNe, Int.reduceNeg, Int.reduceToNat, Nat.reduceMul]; rfl) | rfl)
      · (first | (simp only [↓R0, R1, rdL, rdH, isCall, istep, ibin, vcells, fillI, setR, flat, okCell, isBase, List.set, List.drop, List.take, List.append, bnds, bhi, blo, srcOf, ↓reduceIte, Nat.reduceEqDiff, Nat.reduceAdd, Nat.reduceLeDiff, reduceCtorEq, Nat.reduceSub, Int.reduceEq, Int.reduceLT, Int.reduceLE, Int.reduceGT, Int.reduceGE, Int.reduceSub, Int.reduceAdd, Int.reduceMul, Int.reduceNe, Int.reduceNeg, Int.reduceToNat, Nat.reduceMul]; done) | (simp only [↓R0, R1, rdL, rdH, isCall, istep, ibin, vcells, fillI, setR, flat, okCell, isBase, List.set, List.drop, List.take, List.append, bnds, bhi, blo, srcOf, ↓reduceIte, Nat.reduceEqDiff, Nat.reduceAdd, Nat.reduceLeDiff, reduceCtorEq, Nat.reduceSub, Int.reduceEq, Int.reduceLT, Int.reduceLE, Int.reduceGT, Int.reduceGE, Int.reduceSub, Int.reduceAdd, Int.reduceMul, Int.reduceNe, Int.reduceNeg, Int.reduceToNat, Nat.reduceMul]; rfl) | rfl)
      · (first | (simp only [↓R0, R1, rdL, rdH, isCall, istep, ibin, vcells, fillI, setR, flat, okCell, isBase, List.set, List.drop, List.take, List.append, bnds, bhi, blo, srcOf, ↓reduceIte, Nat.reduceEqDiff, Nat.reduceAdd, Nat.reduceLeDiff, reduceCtorEq, Nat.reduceSub, Int.reduceEq, Int.reduceLT, Int.reduceLE, Int.reduceGT, Int.reduceGE, Int.reduceSub, Int.reduceAdd, Int.reduceMul, Int.reduceNe, Int.reduceNeg, Int.reduceToNat, Nat.reduceMul, h3]; done) | (simp only [↓R0, R1, rdL, rdH, isCall, istep, ibin, vcells, fillI, setR, flat, okCell, isBase, List.set, List.drop, List.take, List.append, bnds, bhi, blo, srcOf, ↓reduceIte, Nat.reduceEqDiff, Nat.reduceAdd, Nat.reduceLeDiff, reduceCtorEq, Nat.reduceSub, Int.reduceEq, Int.reduceLT, Int.reduceLE, Int.reduceGT, Int.reduceGE, Int.reduceSub, Int.reduceAdd, Int.reduceMul, Int.reduceNe, Int.reduceNeg, Int.reduceToNat, Nat.reduceMul, h3]; rfl) | rfl)
    · have ei : i = K := by omega
      subst ei
      have f5 : 4 * i ≤ out.length := by omega
      have hout : out.length ≤ 1099511627776 := by omega
      have hval : nl out = V := by rw [hv, pow4, Nat.mod_eq_of_lt hV]
      have f6 : (bc out).take (4 * i) = bc out := by rw [← ho, bc_take_all]
      simp only [↓R0, R1, rdL, rdH, isCall, istep, ibin, vcells, fillI, setR, flat, okCell, isBase, List.set, List.drop, List.take, List.append, bnds, bhi, blo, srcOf, ↓reduceIte, Nat.reduceEqDiff, Nat.reduceAdd, Nat.reduceLeDiff, reduceCtorEq, Nat.reduceSub, Int.reduceEq, Int.reduceLT, Int.reduceLE, Int.reduceGT, Int.reduceGE, Int.reduceSub, Int.reduceAdd, Int.reduceMul, Int.reduceNe, Int.reduceNeg, Int.reduceToNat, Nat.reduceMul, h11, h12, h13, h3, c1, hk, f5, f6, byteList_bc, spNNorm, hout, hval, Fin, isEnd, resL, res1, iE, rE]
      exact ⟨_, rfl, rfl, hh⟩
  · (first | (simp only [↓R0, R1, rdL, rdH, isCall, istep, ibin, vcells, fillI, setR, flat, okCell, isBase, List.set, List.drop, List.take, List.append, bnds, bhi, blo, srcOf, ↓reduceIte, Nat.reduceEqDiff, Nat.reduceAdd, Nat.reduceLeDiff, reduceCtorEq, Nat.reduceSub, Int.reduceEq, Int.reduceLT, Int.reduceLE, Int.reduceGT, Int.reduceGE, Int.reduceSub, Int.reduceAdd, Int.reduceMul, Int.reduceNe, Int.reduceNeg, Int.reduceToNat, Nat.reduceMul]; done) | (simp only [↓R0, R1, rdL, rdH, isCall, istep, ibin, vcells, fillI, setR, flat, okCell, isBase, List.set, List.drop, List.take, List.append, bnds, bhi, blo, srcOf, ↓reduceIte, Nat.reduceEqDiff, Nat.reduceAdd, Nat.reduceLeDiff, reduceCtorEq, Nat.reduceSub, Int.reduceEq, Int.reduceLT, Int.reduceLE, Int.reduceGT, Int.reduceGE, Int.reduceSub, Int.reduceAdd, Int.reduceMul, Int.reduceNe, Int.reduceNeg, Int.reduceToNat, Nat.reduceMul]; rfl) | rfl)
  · (first | (simp only [↓R0, R1, rdL, rdH, isCall, istep, ibin, vcells, fillI, setR, flat, okCell, isBase, List.set, List.drop, List.take, List.append, bnds, bhi, blo, srcOf, ↓reduceIte, Nat.reduceEqDiff, Nat.reduceAdd, Nat.reduceLeDiff, reduceCtorEq, Nat.reduceSub, Int.reduceEq, Int.reduceLT, Int.reduceLE, Int.reduceGT, Int.reduceGE, Int.reduceSub, Int.reduceAdd, Int.reduceMul, Int.reduceNe, Int.reduceNeg, Int.reduceToNat, Nat.reduceMul]; done) | (simp only [↓R0, R1, rdL, rdH, isCall, istep, ibin, vcells, fillI, setR, flat, okCell, isBase, List.set, List.drop, List.take, List.append, bnds, bhi, blo, srcOf, ↓reduceIte, Nat.reduceEqDiff, Nat.reduceAdd, Nat.reduceLeDiff, reduceCtorEq, Nat.reduceSub, Int.reduceEq, Int.reduceLT, Int.reduceLE, Int.reduceGT, Int.reduceGE, Int.reduceSub, Int.reduceAdd, Int.reduceMul, Int.reduceNe, Int.reduceNeg, Int.reduceToNat, Nat.reduceMul]; rfl) | rfl)
  · (first | (simp only [↓R0, R1, rdL, rdH, isCall, istep, ibin, vcells, fillI, setR, flat, okCell, isBase, List.set, List.drop, List.take, List.append, bnds, bhi, blo, srcOf, ↓reduceIte, Nat.reduceEqDiff, Nat.reduceAdd, Nat.reduceLeDiff, reduceCtorEq, Nat.reduceSub, Int.reduceEq, Int.reduceLT, Int.reduceLE, Int.reduceGT, Int.reduceGE, Int.reduceSub, Int.reduceAdd, Int.reduceMul, Int.reduceNe, Int.reduceNeg, Int.reduceToNat, Nat.reduceMul]; done) | (simp only [↓R0, R1, rdL, rdH, isCall, istep, ibin, vcells, fillI, setR, flat, okCell, isBase, List.set, List.drop, List.take, List.append, bnds, bhi, blo, srcOf, ↓reduceIte, Nat.reduceEqDiff, Nat.reduceAdd, Nat.reduceLeDiff, reduceCtorEq, Nat.reduceSub, Int.reduceEq, Int.reduceLT, Int.reduceLE, Int.reduceGT, Int.reduceGE, Int.reduceSub, Int.reduceAdd, Int.reduceMul, Int.reduceNe, Int.reduceNeg, Int.reduceToNat, Nat.reduceMul]; rfl) | rfl)
  · (first | (simp only [↓R0, R1, rdL, rdH, isCall, istep, ibin, vcells, fillI, setR, flat, okCell, isBase, List.set, List.drop, List.take, List.append, bnds, bhi, blo, srcOf, ↓reduceIte, Nat.reduceEqDiff, Nat.reduceAdd, Nat.reduceLeDiff, reduceCtorEq, Nat.reduceSub, Int.reduceEq, Int.reduceLT, Int.reduceLE, Int.reduceGT, Int.reduceGE, Int.reduceSub, Int.reduceAdd, Int.reduceMul, Int.reduceNe, Int.reduceNeg, Int.reduceToNat, Nat.reduceMul]; done) | (simp only [↓R0, R1, rdL, rdH, isCall, istep, ibin, vcells, fillI, setR, flat, okCell, isBase, List.set, List.drop, List.take, List.append, bnds, bhi, blo, srcOf, ↓reduceIte, Nat.reduceEqDiff, Nat.reduceAdd, Nat.reduceLeDiff, reduceCtorEq, Nat.reduceSub, Int.reduceEq, Int.reduceLT, Int.reduceLE, Int.reduceGT, Int.reduceGE, Int.reduceSub, Int.reduceAdd, Int.reduceMul, Int.reduceNe, Int.reduceNeg, Int.reduceToNat, Nat.reduceMul]; rfl) | rfl)
  · (first | (simp only [↓R0, R1, rdL, rdH, isCall, istep, ibin, vcells, fillI, setR, flat, okCell, isBase, List.set, List.drop, List.take, List.append, bnds, bhi, blo, srcOf, ↓reduceIte, Nat.reduceEqDiff, Nat.reduceAdd, Nat.reduceLeDiff, reduceCtorEq, Nat.reduceSub, Int.reduceEq, Int.reduceLT, Int.reduceLE, Int.reduceGT, Int.reduceGE, Int.reduceSub, Int.reduceAdd, Int.reduceMul, Int.reduceNe, Int.reduceNeg, Int.reduceToNat, Nat.reduceMul]; done) | (simp only [↓R0, R1, rdL, rdH, isCall, istep, ibin, vcells, fillI, setR, flat, okCell, isBase, List.set, List.drop, List.take, List.append, bnds, bhi, blo, srcOf, ↓reduceIte, Nat.reduceEqDiff, Nat.reduceAdd, Nat.reduceLeDiff, reduceCtorEq, Nat.reduceSub, Int.reduceEq, Int.reduceLT, Int.reduceLE, Int.reduceGT, Int.reduceGE, Int.reduceSub, Int.reduceAdd, Int.reduceMul, Int.reduceNe, Int.reduceNeg, Int.reduceToNat, Nat.reduceMul]; rfl) | rfl)
  · simp [nl, Nat.mod_one]
  · intro q hq
    simp only [↓R0, R1, rdL, rdH, isCall, istep, ibin, vcells, fillI, setR, flat, okCell, isBase, List.set, List.drop, List.take, List.append, bnds, bhi, blo, srcOf, ↓reduceIte, Nat.reduceEqDiff, Nat.reduceAdd, Nat.reduceLeDiff, reduceCtorEq, Nat.reduceSub, Int.reduceEq, Int.reduceLT, Int.reduceLE, Int.reduceGT, Int.reduceGE, Int.reduceSub, Int.reduceAdd, Int.reduceMul, Int.reduceNe, Int.reduceNeg, Int.reduceToNat, Nat.reduceMul, hget_new hq]
end Go.Eng
end
section
set_option linter.unusedVariables false
set_option linter.unusedSimpArgs false
set_option linter.unusedSectionVars false
set_option maxRecDepth 4000
namespace Go.Eng
open Go Go.Proofs Go.IntWalk
def spFU64 : List Value → Option Value
  | [.int .u64 n] => if 0 ≤ n ∧ n < 18446744073709551616 then some (.string ⟨⟨bl n.toNat⟩⟩) else none
  | _ => none
def c42 : ICode :=
  (.seq (.reg [⟨(some 2), none, (.mv (.c (.string ⟨⟨[]⟩⟩)))⟩])
  (.seq (.reg [⟨(some 3), none, (.mv (.t 0))⟩, ⟨(some 4), none, (.conv .u32 (.t 3))⟩, ⟨(some 5), none, (.mv (.t 0))⟩, ⟨(some 6), none, (.bin .shr (.t 5) (.c (.int .u64 32)))⟩, ⟨(some 7), none, (.conv .u32 (.t 6))⟩, ⟨(some 8), none, (.bslice 80 1 2 [(.int .u32 0), (.int .u32 0)] [(0, 1, (.t 4)), (1, 1, (.t 7))])⟩, ⟨(some 9), none, (.call 59 [(.t 8)])⟩, ⟨(some 2), none, (.mv (.t 9))⟩])
  .ret))
theorem tr42 : trFun Tryd.prog 42 = some ⟨10, [.t 2], c42⟩ := by kernel_rfl
theorem ok_nFU64 : SpecOK Tryd.prog 42 (flat spFU64) := by
  refine flat_run (env_cons ok_nmag (env_nil _)) mixed tr42 ?_
  intro args v h N hG
  unfold spFU64 at hG
  split at hG
  case h_2 => cases hG
  rename_i n
  split at hG
  case isFalse => cases hG
  rename_i hl
  obtain ⟨h1, h2⟩ := hl
  cases hG
  refine ⟨rfl, by simp, ?_⟩
  obtain ⟨n, rfl⟩ := Int.eq_ofNat_of_zero_le h1
  have e1 := u32_mod n
  have e2 : (n : Int).fdiv (2 ^ min 32 IntKind.u64.bits) = ((n / 4294967296 : Nat) : Int) := by
    have : (2 : Int) ^ min 32 IntKind.u64.bits = 4294967296 := rfl
    rw [this, Int.fdiv_eq_ediv_of_nonneg _ (by omega)]; omega
  have e3 := u32_nat (n := n / 4294967296) (by omega)
  have f1 : ((n % 4294967296 : Nat) : Int) < 4294967296 := by omega
  have f2 : ((n / 4294967296 : Nat) : Int) < 4294967296 := by omega
  have f3 : n % 4294967296 + 4294967296 * (n / 4294967296 + 4294967296 * 0) = n := by omega
  simp only [c42, initT, List.zipIdx_cons, List.zipIdx_nil, List.map_cons, List.map_nil, Nat.reduceAdd]
  simp only [↓R0, R1, rdL, rdH, isCall, istep, ibin, vcells, fillI, setR, flat, okCell, isBase, List.set, List.drop, List.take, List.append, bnds, bhi, blo, srcOf, ↓reduceIte, Nat.reduceEqDiff, Nat.reduceAdd, Nat.reduceLeDiff, reduceCtorEq, Nat.reduceSub, Int.reduceEq, Int.reduceLT, Int.reduceLE, Int.reduceGT, Int.reduceGE, Int.reduceSub, Int.reduceAdd, Int.reduceMul, Int.reduceNe, Int.reduceNeg, Int.reduceToNat, Nat.reduceMul, e1, e2, e3, rdS, spMag, shows, uok, ud, f1, f2, f3, Fin, isEnd, resL, res1, iE, rE]
  exact ⟨_, rfl, rfl, fun k hk => by simp only [ne_nb hk, if_false]⟩
def spU64 : List Value → Option Value
  | [.string ⟨⟨l⟩⟩] => if l.length ≤ 1099511627776 then some (.tuple ⟨if nl l < 18446744073709551616 then [.int .u64 (nl l : Nat), .bool true] else [.int .u64 0, .bool false]⟩) else none
  | _ => none
def c80 : ICode :=
  (.seq (.reg [⟨(some 2), none, (.mv (.c (.int .u64 0)))⟩, ⟨(some 3), none, (.mv (.c (.bool false)))⟩])
  (.seq (.reg [⟨(some 6), none, (.mv (.t 0))⟩, ⟨(some 7), none, (.call 64 [(.t 6)])⟩, ⟨(some 0), none, (.mv (.t 7))⟩])
  (.seq (.seq (.reg [⟨(some 8), none, (.mv (.t 0))⟩, ⟨(some 9), none, (.lens (.t 8))⟩, ⟨(some 10), none, (.bin .gtr (.t 9) (.c (.int .i64 8)))⟩])
  (.cond (.t 10)
  (.seq (.reg [⟨(some 2), none, (.mv (.c (.int .u64 0)))⟩, ⟨(some 3), none, (.mv (.c (.bool false)))⟩])
  .ret)
  .skip))
  (.seq (.reg [⟨(some 4), none, (.mv (.c (.int .u64 0)))⟩])
  (.seq (.seq (.reg [⟨(some 11), none, (.mv (.t 0))⟩, ⟨(some 12), none, (.lens (.t 11))⟩, ⟨(some 13), none, (.mv (.c (.int .i64 0)))⟩])
  (.block 0 (.loop (.seq (.reg [⟨(some 14), none, (.bin .lss (.t 13) (.t 12))⟩])
  (.seq (.cond (.t 14)
  .skip
  (.exit 0))
  (.seq (.block 1 (.seq (.reg [⟨(some 15), none, (.mv (.t 13))⟩, ⟨(some 5), none, (.mv (.t 15))⟩])
  (.reg [⟨(some 16), none, (.mv (.t 4))⟩, ⟨(some 17), none, (.mv (.t 0))⟩, ⟨(some 18), none, (.mv (.t 5))⟩, ⟨(some 19), none, (.idstr (.t 17) (.t 18))⟩, ⟨(some 20), none, (.conv .u64 (.t 19))⟩, ⟨(some 21), none, (.mv (.t 5))⟩, ⟨(some 22), none, (.bin .mul (.c (.int .i64 8)) (.t 21))⟩, ⟨(some 23), none, (.bin .shl (.t 20) (.t 22))⟩, ⟨(some 24), none, (.bin .or (.t 16) (.t 23))⟩, ⟨(some 4), none, (.mv (.t 24))⟩])))
  (.reg [⟨(some 25), none, (.bin .add (.t 13) (.c (.int .i64 1)))⟩, ⟨(some 13), none, (.mv (.t 25))⟩])))))))
  (.seq (.reg [⟨(some 26), none, (.mv (.t 4))⟩, ⟨(some 2), none, (.mv (.t 26))⟩, ⟨(some 3), none, (.mv (.c (.bool true)))⟩])
  .ret))))))
theorem tr80 : trFun Tryd.prog 80 = some ⟨27, [.t 2, .t 3], c80⟩ := by kernel_rfl
theorem shl64 {c s : Nat} (h : c * 2 ^ s < 18446744073709551616) (hs : s ≤ 64) : IntKind.u64.wrap ((c : Int) * 2 ^ min s IntKind.u64.bits) = ((c * 2 ^ s : Nat) : Int) := by
  have : min s IntKind.u64.bits = s := Nat.min_eq_left hs
  rw [this, ← u64_nat h, Int.natCast_mul, Int.natCast_pow]; rfl
theorem ok_nU64 : SpecOK Tryd.prog 80 (flat spU64) := by
  refine flat_run (env_cons ok_nNorm (env_nil _)) mixed tr80 ?_
  intro args v h N hG
  unfold spU64 at hG
  split at hG
  case h_2 => cases hG
  rename_i l
  split at hG
  case isFalse => cases hG
  rename_i hl
  cases hG
  refine ⟨by split <;> rfl, by simp, ?_⟩
  have hL : (bl (nl l)).length ≤ 1099511627776 := Nat.le_trans (bl_length_nl l) hl
  generalize hn : nl l = n at *
  have h8 : (bl n).length ≤ 8 ↔ n < 18446744073709551616 := bl_length_le (k := 8)
  simp only [c80, initT, List.zipIdx_cons, List.zipIdx_nil, List.map_cons, List.map_nil, Nat.reduceAdd]
  by_cases c : n < 18446744073709551616
  · rw [if_pos c]
    have hle := h8.2 c
    have g : (((bl n).length : Int) > 8) = False := eq_false (by omega)
    simp only [↓R0, R1, rdL, rdH, isCall, istep, ibin, vcells, fillI, setR, flat, okCell, isBase, List.set, List.drop, List.take, List.append, bnds, bhi, blo, srcOf, ↓reduceIte, Nat.reduceEqDiff, Nat.reduceAdd, Nat.reduceLeDiff, reduceCtorEq, Nat.reduceSub, Int.reduceEq, Int.reduceLT, Int.reduceLE, Int.reduceGT, Int.reduceGE, Int.reduceSub, Int.reduceAdd, Int.reduceMul, Int.reduceNe, Int.reduceNeg, Int.reduceToNat, Nat.reduceMul, spNNorm, hl, hn, g]
    refine lp_parts (fun m tm hp nx => ∃ (i : Nat), m + i = (bl n).length ∧ tmget tm 0 = .string ⟨⟨bl n⟩⟩ ∧ tmget tm 4 = .int .u64 (nl ((bl n).take i) : Nat) ∧ tmget tm 12 = .int .i64 (bl n).length ∧ tmget tm 13 = .int .i64 i ∧
        hp = h ∧ nx = N + 0) ?_ (bl n).length ⟨0, by omega, ?_, ?_, ?_, ?_, rfl, rfl⟩
    · intro m tm hp nx ⟨i, hm, h0, h4, h12, h13, hh, hnx⟩
      subst hnx hh
      by_cases c1 : i < (bl n).length
      · obtain ⟨b, hbb⟩ : ∃ b, (bl n)[i]? = some b := ⟨_, List.getElem?_eq_getElem c1⟩
        have hts := nl_take_succ (bl n) i
        rw [hbb, Option.getD_some] at hts
        have hlt := nl_take_lt (bl n) i
        have hlt2 := nl_take_lt (bl n) (i + 1)
        have hp8 : 256 ^ i = 2 ^ (8 * i) := by rw [Nat.pow_mul]
        have hq8 : 256 ^ (i + 1) ≤ 256 ^ 8 := Nat.pow_le_pow_right (by omega) (by omega)
        rw [hts] at hlt2
        rw [hp8] at hlt hlt2 hts
        have hsum : nl ((bl n).take i) + b.toNat * 2 ^ (8 * i) < 18446744073709551616 := by
          rw [Nat.mul_comm (b.toNat)]
          exact Nat.lt_of_lt_of_le hlt2 hq8
        have e1 := u64_nat (n := b.toNat) (by have := b.toNat_lt; omega)
        have e3 : IntKind.i64.wrap (8 * (i : Int)) = ((8 * i : Nat) : Int) := by rw [i64_in _ (by omega)]; omega
        have e4 : ¬ (((8 * i : Nat) : Int) < 0) := by omega
        have e5 := shl64 (c := b.toNat) (s := 8 * i) (by omega) (by omega)
        have e6 := or_u64 hlt hsum
        have e7 : IntKind.i64.wrap ((i : Int) + 1) = ((i + 1 : Nat) : Int) := by rw [i64_in _ (by omega)]; omega
        simp only [↓R0, R1, rdL, rdH, isCall, istep, ibin, vcells, fillI, setR, flat, okCell, isBase, List.set, List.drop, List.take, List.append, bnds, bhi, blo, srcOf, ↓reduceIte, Nat.reduceEqDiff, Nat.reduceAdd, Nat.reduceLeDiff, reduceCtorEq, Nat.reduceSub, Int.reduceEq, Int.reduceLT, Int.reduceLE, Int.reduceGT, Int.reduceGE, Int.reduceSub, Int.reduceAdd, Int.reduceMul, Int.reduceNe, Int.reduceNeg, Int.reduceToNat, Nat.reduceMul, h0, h4, h12, h13, c1, hbb, e1, e3, e4, e5, e6, e7]
        refine ⟨m - 1, by omega, i + 1, by omega, ?_, rfl, rfl⟩
        rw [hts, Nat.mul_comm (b.toNat)]
      · have ei : i = (bl n).length := by omega
        subst ei
        rw [List.take_length, nl_bl] at h4
        simp only [↓R0, R1, rdL, rdH, isCall, istep, ibin, vcells, fillI, setR, flat, okCell, isBase, List.set, List.drop, List.take, List.append, bnds, bhi, blo, srcOf, ↓reduceIte, Nat.reduceEqDiff, Nat.reduceAdd, Nat.reduceLeDiff, reduceCtorEq, Nat.reduceSub, Int.reduceEq, Int.reduceLT, Int.reduceLE, Int.reduceGT, Int.reduceGE, Int.reduceSub, Int.reduceAdd, Int.reduceMul, Int.reduceNe, Int.reduceNeg, Int.reduceToNat, Nat.reduceMul, h0, h4, h12, h13, c1, Fin, isEnd, resL, res1, iE, rE]
        exact ⟨_, rfl, rfl, fun k hk => by simp only [ne_nb hk, if_false]⟩
    · (first | (simp only [↓R0, R1, rdL, rdH, isCall, istep, ibin, vcells, fillI, setR, flat, okCell, isBase, List.set, List.drop, List.take, List.append, bnds, bhi, blo, srcOf, ↓reduceIte, Nat.reduceEqDiff, Nat.reduceAdd, Nat.reduceLeDiff, reduceCtorEq, Nat.reduceSub, Int.reduceEq, Int.reduceLT, Int.reduceLE, Int.reduceGT, Int.reduceGE, Int.reduceSub, Int.reduceAdd, Int.reduceMul, Int.reduceNe, Int.reduceNeg, Int.reduceToNat, Nat.reduceMul]; done) | (simp only [↓R0, R1, rdL, rdH, isCall, istep, ibin, vcells, fillI, setR, flat, okCell, isBase, List.set, List.drop, List.take, List.append, bnds, bhi, blo, srcOf, ↓reduceIte, Nat.reduceEqDiff, Nat.reduceAdd, Nat.reduceLeDiff, reduceCtorEq, Nat.reduceSub, Int.reduceEq, Int.reduceLT, Int.reduceLE, Int.reduceGT, Int.reduceGE, Int.reduceSub, Int.reduceAdd, Int.reduceMul, Int.reduceNe, Int.reduceNeg, Int.reduceToNat, Nat.reduceMul]; rfl) | rfl)
    · (first | (simp only [↓R0, R1, rdL, rdH, isCall, istep, ibin, vcells, fillI, setR, flat, okCell, isBase, List.set, List.drop, List.take, List.append, bnds, bhi, blo, srcOf, ↓reduceIte, Nat.reduceEqDiff, Nat.reduceAdd, Nat.reduceLeDiff, reduceCtorEq, Nat.reduceSub, Int.reduceEq, Int.reduceLT, Int.reduceLE, Int.reduceGT, Int.reduceGE, Int.reduceSub, Int.reduceAdd, Int.reduceMul, Int.reduceNe, Int.reduceNeg, Int.reduceToNat, Nat.reduceMul, List.take_zero, nl]; done) | (simp only [↓R0, R1, rdL, rdH, isCall, istep, ibin, vcells, fillI, setR, flat, okCell, isBase, List.set, List.drop, List.take, List.append, bnds, bhi, blo, srcOf, ↓reduceIte, Nat.reduceEqDiff, Nat.reduceAdd, Nat.reduceLeDiff, reduceCtorEq, Nat.reduceSub, Int.reduceEq, Int.reduceLT, Int.reduceLE, Int.reduceGT, Int.reduceGE, Int.reduceSub, Int.reduceAdd, Int.reduceMul, Int.reduceNe, Int.reduceNeg, Int.reduceToNat, Nat.reduceMul, List.take_zero, nl]; rfl) | rfl)
    · (first | (simp only [↓R0, R1, rdL, rdH, isCall, istep, ibin, vcells, fillI, setR, flat, okCell, isBase, List.set, List.drop, List.take, List.append, bnds, bhi, blo, srcOf, ↓reduceIte, Nat.reduceEqDiff, Nat.reduceAdd, Nat.reduceLeDiff, reduceCtorEq, Nat.reduceSub, Int.reduceEq, Int.reduceLT, Int.reduceLE, Int.reduceGT, Int.reduceGE, Int.reduceSub, Int.reduceAdd, Int.reduceMul, Int.reduceNe, Int.reduceNeg, Int.reduceToNat, Nat.reduceMul]; done) | (simp only [↓R0, R1, rdL, rdH, isCall, istep, ibin, vcells, fillI, setR, flat, okCell, isBase, List.set, List.drop, List.take, List.append, bnds, bhi, blo, srcOf, ↓reduceIte, Nat.reduceEqDiff, Nat.reduceAdd, Nat.reduceLeDiff, reduceCtorEq, Nat.reduceSub, Int.reduceEq, Int.reduceLT, Int.reduceLE, Int.reduceGT, Int.reduceGE, Int.reduceSub, Int.reduceAdd, Int.reduceMul, Int.reduceNe, Int.reduceNeg, Int.reduceToNat, Nat.reduceMul]; rfl) | rfl)
    · (first | (simp only [↓R0, R1, rdL, rdH, isCall, istep, ibin, vcells, fillI, setR, flat, okCell, isBase, List.set, List.drop, List.take, List.append, bnds, bhi, blo, srcOf, ↓reduceIte, Nat.reduceEqDiff, Nat.reduceAdd, Nat.reduceLeDiff, reduceCtorEq, Nat.reduceSub, Int.reduceEq, Int.reduceLT, Int.reduceLE, Int.reduceGT, Int.reduceGE, Int.reduceSub, Int.reduceAdd, Int.reduceMul, Int.reduceNe, Int.reduceNeg, Int.reduceToNat, Nat.reduceMul]; done) | (simp only [↓R0, R1, rdL, rdH, isCall, istep, ibin, vcells, fillI, setR, flat, okCell, isBase, List.set, List.drop, List.take, List.append, bnds, bhi, blo, srcOf, ↓reduceIte, Nat.reduceEqDiff, Nat.reduceAdd, Nat.reduceLeDiff, reduceCtorEq, Nat.reduceSub, Int.reduceEq, Int.reduceLT, Int.reduceLE, Int.reduceGT, Int.reduceGE, Int.reduceSub, Int.reduceAdd, Int.reduceMul, Int.reduceNe, Int.reduceNeg, Int.reduceToNat, Nat.reduceMul]; rfl) | rfl)
  · rw [if_neg c]
    have g : (((bl n).length : Int) > 8) = True := eq_true (by omega)
    simp only [↓R0, R1, rdL, rdH, isCall, istep, ibin, vcells, fillI, setR, flat, okCell, isBase, List.set, List.drop, List.take, List.append, bnds, bhi, blo, srcOf, ↓reduceIte, Nat.reduceEqDiff, Nat.reduceAdd, Nat.reduceLeDiff, reduceCtorEq, Nat.reduceSub, Int.reduceEq, Int.reduceLT, Int.reduceLE, Int.reduceGT, Int.reduceGE, Int.reduceSub, Int.reduceAdd, Int.reduceMul, Int.reduceNe, Int.reduceNeg, Int.reduceToNat, Nat.reduceMul, spNNorm, hl, hn, g, Fin, isEnd, resL, res1, iE, rE]
    exact ⟨_, rfl, rfl, fun k hk => by simp only [ne_nb hk, if_false]⟩
def spNCmp : List Value → Option Value
  | [.string ⟨⟨l⟩⟩, .string ⟨⟨m⟩⟩] => if l.length ≤ 1099511627776 ∧ m.length ≤ 1099511627776 then some (.int .i64 (cmpN (nl l) (nl m))) else none
  | _ => none
def c67 : ICode :=
  (.seq (.reg [⟨(some 4), none, (.mv (.c (.int .i64 0)))⟩])
  (.seq (.reg [⟨(some 7), none, (.mv (.t 0))⟩, ⟨(some 8), none, (.call 64 [(.t 7)])⟩, ⟨(some 9), none, (.mv (.t 1))⟩, ⟨(some 10), none, (.call 64 [(.t 9)])⟩, ⟨(some 0), none, (.mv (.t 8))⟩, ⟨(some 1), none, (.mv (.t 10))⟩])
  (.seq (.seq (.reg [⟨(some 11), none, (.mv (.t 0))⟩, ⟨(some 12), none, (.lens (.t 11))⟩, ⟨(some 13), none, (.mv (.t 1))⟩, ⟨(some 14), none, (.lens (.t 13))⟩, ⟨(some 15), none, (.bin .neq (.t 12) (.t 14))⟩])
  (.cond (.t 15)
  (.seq (.seq (.reg [⟨(some 16), none, (.mv (.t 0))⟩, ⟨(some 17), none, (.lens (.t 16))⟩, ⟨(some 18), none, (.mv (.t 1))⟩, ⟨(some 19), none, (.lens (.t 18))⟩, ⟨(some 20), none, (.bin .lss (.t 17) (.t 19))⟩])
  (.cond (.t 20)
  (.seq (.reg [⟨(some 4), none, (.mv (.c (.int .i64 (-1))))⟩])
  .ret)
  .skip))
  (.seq (.reg [⟨(some 4), none, (.mv (.c (.int .i64 1)))⟩])
  .ret))
  .skip))
  (.seq (.seq (.reg [⟨(some 21), none, (.mv (.t 0))⟩, ⟨(some 22), none, (.lens (.t 21))⟩, ⟨(some 23), none, (.mv (.c (.int .i64 0)))⟩])
  (.block 0 (.loop (.seq (.reg [⟨(some 24), none, (.bin .lss (.t 23) (.t 22))⟩])
  (.seq (.cond (.t 24)
  .skip
  (.exit 0))
  (.seq (.block 1 (.seq (.reg [⟨(some 25), none, (.mv (.t 23))⟩, ⟨(some 5), none, (.mv (.t 25))⟩])
  (.seq (.reg [⟨(some 26), none, (.mv (.t 0))⟩, ⟨(some 27), none, (.lens (.t 26))⟩, ⟨(some 28), none, (.bin .sub (.t 27) (.c (.int .i64 1)))⟩, ⟨(some 29), none, (.mv (.t 5))⟩, ⟨(some 30), none, (.bin .sub (.t 28) (.t 29))⟩, ⟨(some 6), none, (.mv (.t 30))⟩])
  (.seq (.dreg [⟨(some 31), none, [], (.mv (.t 0))⟩, ⟨(some 32), none, [], (.mv (.t 6))⟩, ⟨(some 33), none, [], (.idstr (.t 31) (.t 32))⟩, ⟨(some 34), none, [], (.mv (.t 1))⟩, ⟨(some 35), none, [], (.mv (.t 6))⟩, ⟨(some 36), none, [], (.idstr (.t 34) (.t 35))⟩, ⟨(some 37), none, [], (.bin .neq (.t 33) (.t 36))⟩])
  (.cond (.t 37)
  (.seq (.seq (.dreg [⟨(some 38), none, [], (.mv (.t 0))⟩, ⟨(some 39), none, [], (.mv (.t 6))⟩, ⟨(some 40), none, [], (.idstr (.t 38) (.t 39))⟩, ⟨(some 41), none, [], (.mv (.t 1))⟩, ⟨(some 42), none, [], (.mv (.t 6))⟩, ⟨(some 43), none, [], (.idstr (.t 41) (.t 42))⟩, ⟨(some 44), none, [], (.bin .lss (.t 40) (.t 43))⟩])
  (.cond (.t 44)
  (.seq (.reg [⟨(some 4), none, (.mv (.c (.int .i64 (-1))))⟩])
  .ret)
  .skip))
  (.seq (.reg [⟨(some 4), none, (.mv (.c (.int .i64 1)))⟩])
  .ret))
  .skip)))))
  (.reg [⟨(some 45), none, (.bin .add (.t 23) (.c (.int .i64 1)))⟩, ⟨(some 23), none, (.mv (.t 45))⟩])))))))
  (.seq (.reg [⟨(some 4), none, (.mv (.c (.int .i64 0)))⟩])
  .ret)))))
theorem tr67 : trFun Tryd.prog 67 = some ⟨46, [.t 4], c67⟩ := by kernel_rfl
theorem ok_nCmp : SpecOK Tryd.prog 67 (flat spNCmp) := by
  refine flat_run (env_cons ok_nNorm (env_nil _)) mixed tr67 ?_
  intro args v h N hG
  unfold spNCmp at hG
  split at hG
  case h_2 => cases hG
  rename_i l m
  split at hG
  case isFalse => cases hG
  rename_i hl
  obtain ⟨hl, hm⟩ := hl
  cases hG
  refine ⟨rfl, by simp, ?_⟩
  have hL : (bl (nl l)).length ≤ 1099511627776 := Nat.le_trans (bl_length_nl l) hl
  have hM : (bl (nl m)).length ≤ 1099511627776 := Nat.le_trans (bl_length_nl m) hm
  generalize ha : nl l = a at *
  generalize hb : nl m = b at *
  simp only [c67, initT, List.zipIdx_cons, List.zipIdx_nil, List.map_cons, List.map_nil, Nat.reduceAdd]
  by_cases c0 : (bl a).length = (bl b).length
  · simp only [↓R0, R1, rdL, rdH, isCall, istep, ibin, vcells, fillI, setR, flat, okCell, isBase, List.set, List.drop, List.take, List.append, bnds, bhi, blo, srcOf, ↓reduceIte, Nat.reduceEqDiff, Nat.reduceAdd, Nat.reduceLeDiff, reduceCtorEq, Nat.reduceSub, Int.reduceEq, Int.reduceLT, Int.reduceLE, Int.reduceGT, Int.reduceGE, Int.reduceSub, Int.reduceAdd, Int.reduceMul, Int.reduceNe, Int.reduceNeg, Int.reduceToNat, Nat.reduceMul, spNNorm, hl, hm, ha, hb, c0, decide_not, Bool.not_true]
    refine lp_parts (fun n tm hp nx => ∃ (i : Nat), n + i = (bl b).length ∧ tmget tm 0 = .string ⟨⟨bl a⟩⟩ ∧ tmget tm 1 = .string ⟨⟨bl b⟩⟩ ∧ tmget tm 22 = .int .i64 (bl b).length ∧ tmget tm 23 = .int .i64 i ∧
        (bl a).drop n = (bl b).drop n ∧ hp = h ∧ nx = N + 0) ?_ (bl b).length ⟨0, by omega, ?_, ?_, ?_, ?_, ?_, rfl, rfl⟩
    · intro n tm hp nx ⟨i, hn, h0, h1, h22, h23, hd, hh, hnx⟩
      subst hnx hh
      by_cases c1 : i < (bl b).length
      · obtain ⟨n, rfl⟩ : ∃ n', n = n' + 1 := ⟨n - 1, by omega⟩
        obtain ⟨p, hp⟩ : ∃ p, (bl a)[n]? = some p := ⟨_, List.getElem?_eq_getElem (by omega)⟩
        obtain ⟨q, hq⟩ : ∃ q, (bl b)[n]? = some q := ⟨_, List.getElem?_eq_getElem (by omega)⟩
        have e1 : IntKind.i64.wrap (((bl b).length : Int) - 1) = (((bl b).length - 1 : Nat) : Int) := by rw [i64_in _ (by omega)]; omega
        have e2 : IntKind.i64.wrap ((((bl b).length - 1 : Nat) : Int) - (i : Int)) = (n : Int) := by rw [i64_in _ (by omega)]; omega
        have e7 : IntKind.i64.wrap ((i : Int) + 1) = ((i + 1 : Nat) : Int) := by rw [i64_in _ (by omega)]; omega
        by_cases c2 : p = q
        · subst c2
          simp only [↓R0, R1, rdL, rdH, isCall, istep, ibin, vcells, fillI, setR, flat, okCell, isBase, List.set, List.drop, List.take, List.append, bnds, bhi, blo, srcOf, ↓reduceIte, Nat.reduceEqDiff, Nat.reduceAdd, Nat.reduceLeDiff, reduceCtorEq, Nat.reduceSub, Int.reduceEq, Int.reduceLT, Int.reduceLE, Int.reduceGT, Int.reduceGE, Int.reduceSub, Int.reduceAdd, Int.reduceMul, Int.reduceNe, Int.reduceNeg, Int.reduceToNat, Nat.reduceMul, h0, h1, h22, h23, c1, c0, e1, e2, e7, hp, hq, decide_not, Bool.not_true]
          refine ⟨n, by omega, i + 1, by omega, rfl, ?_⟩
          rw [List.drop_eq_getElem_cons (by omega : n < (bl a).length), List.drop_eq_getElem_cons (by omega : n < (bl b).length), hd]
          rw [List.getElem?_eq_getElem (by omega)] at hp hq
          rw [Option.some.inj hp, Option.some.inj hq]
          exact ⟨rfl, rfl⟩
        · have c3 : ¬ ((p.toNat : Int) = (q.toNat : Int)) := fun e => c2 (UInt8.toNat_inj.1 (by omega))
          by_cases c4 : p.toNat < q.toNat
          · have hlt := nl_lt_of hp hq hd c4
            rw [nl_bl, nl_bl] at hlt
            rw [cmpN_lt hlt]
            have c3' : ¬ (p.toNat = q.toNat) := by omega
            simp only [↓R0, R1, rdL, rdH, isCall, istep, ibin, vcells, fillI, setR, flat, okCell, isBase, List.set, List.drop, List.take, List.append, bnds, bhi, blo, srcOf, ↓reduceIte, Nat.reduceEqDiff, Nat.reduceAdd, Nat.reduceLeDiff, reduceCtorEq, Nat.reduceSub, Int.reduceEq, Int.reduceLT, Int.reduceLE, Int.reduceGT, Int.reduceGE, Int.reduceSub, Int.reduceAdd, Int.reduceMul, Int.reduceNe, Int.reduceNeg, Int.reduceToNat, Nat.reduceMul, h0, h1, h22, h23, c1, c0, e1, e2, e7, hp, hq, c3, c3', c4, decide_not, Bool.not_false, Fin, isEnd, resL, res1, iE, rE]
            exact ⟨_, rfl, rfl, fun k hk => by simp only [ne_nb hk, if_false]⟩
          · have hlt := nl_lt_of hq hp hd.symm (by omega)
            rw [nl_bl, nl_bl] at hlt
            rw [cmpN_gt hlt]
            have c3' : ¬ (p.toNat = q.toNat) := by omega
            simp only [↓R0, R1, rdL, rdH, isCall, istep, ibin, vcells, fillI, setR, flat, okCell, isBase, List.set, List.drop, List.take, List.append, bnds, bhi, blo, srcOf, ↓reduceIte, Nat.reduceEqDiff, Nat.reduceAdd, Nat.reduceLeDiff, reduceCtorEq, Nat.reduceSub, Int.reduceEq, Int.reduceLT, Int.reduceLE, Int.reduceGT, Int.reduceGE, Int.reduceSub, Int.reduceAdd, Int.reduceMul, Int.reduceNe, Int.reduceNeg, Int.reduceToNat, Nat.reduceMul, h0, h1, h22, h23, c1, c0, e1, e2, e7, hp, hq, c3, c3', c4, decide_not, Bool.not_false, Fin, isEnd, resL, res1, iE, rE]
            exact ⟨_, rfl, rfl, fun k hk => by simp only [ne_nb hk, if_false]⟩
      · have en : n = 0 := by omega
        subst en
        rw [List.drop_zero, List.drop_zero] at hd
        have := bl_inj hd
        subst this
        rw [cmpN_eq]
        simp only [↓R0, R1, rdL, rdH, isCall, istep, ibin, vcells, fillI, setR, flat, okCell, isBase, List.set, List.drop, List.take, List.append, bnds, bhi, blo, srcOf, ↓reduceIte, Nat.reduceEqDiff, Nat.reduceAdd, Nat.reduceLeDiff, reduceCtorEq, Nat.reduceSub, Int.reduceEq, Int.reduceLT, Int.reduceLE, Int.reduceGT, Int.reduceGE, Int.reduceSub, Int.reduceAdd, Int.reduceMul, Int.reduceNe, Int.reduceNeg, Int.reduceToNat, Nat.reduceMul, h0, h1, h22, h23, c1, Fin, isEnd, resL, res1, iE, rE]
        exact ⟨_, rfl, rfl, fun k hk => by simp only [ne_nb hk, if_false]⟩
    · (first | (simp only [↓R0, R1, rdL, rdH, isCall, istep, ibin, vcells, fillI, setR, flat, okCell, isBase, List.set, List.drop, List.take, List.append, bnds, bhi, blo, srcOf, ↓reduceIte, Nat.reduceEqDiff, Nat.reduceAdd, Nat.reduceLeDiff, reduceCtorEq, Nat.reduceSub, Int.reduceEq, Int.reduceLT, Int.reduceLE, Int.reduceGT, Int.reduceGE, Int.reduceSub, Int.reduceAdd, Int.reduceMul, Int.reduceNe, Int.reduceNeg, Int.reduceToNat, Nat.reduceMul]; done) | (simp only [↓R0, R1, rdL, rdH, isCall, istep, ibin, vcells, fillI, setR, flat, okCell, isBase, List.set, List.drop, List.take, List.append, bnds, bhi, blo, srcOf, ↓reduceIte, Nat.reduceEqDiff, Nat.reduceAdd, Nat.reduceLeDiff, reduceCtorEq, Nat.reduceSub, Int.reduceEq, Int.reduceLT, Int.reduceLE, Int.reduceGT, Int.reduceGE, Int.reduceSub, Int.reduceAdd, Int.reduceMul, Int.reduceNe, Int.reduceNeg, Int.reduceToNat, Nat.reduceMul]; rfl) | rfl)
    · (first | (simp only [↓R0, R1, rdL, rdH, isCall, istep, ibin, vcells, fillI, setR, flat, okCell, isBase, List.set, List.drop, List.take, List.append, bnds, bhi, blo, srcOf, ↓reduceIte, Nat.reduceEqDiff, Nat.reduceAdd, Nat.reduceLeDiff, reduceCtorEq, Nat.reduceSub, Int.reduceEq, Int.reduceLT, Int.reduceLE, Int.reduceGT, Int.reduceGE, Int.reduceSub, Int.reduceAdd, Int.reduceMul, Int.reduceNe, Int.reduceNeg, Int.reduceToNat, Nat.reduceMul]; done) | (simp only [↓R0, R1, rdL, rdH, isCall, istep, ibin, vcells, fillI, setR, flat, okCell, isBase, List.set, List.drop, List.take, List.append, bnds, bhi, blo, srcOf, ↓reduceIte, Nat.reduceEqDiff, Nat.reduceAdd, Nat.reduceLeDiff, reduceCtorEq, Nat.reduceSub, Int.reduceEq, Int.reduceLT, Int.reduceLE, Int.reduceGT, Int.reduceGE, Int.reduceSub, Int.reduceAdd, Int.reduceMul, Int.reduceNe, Int.reduceNeg, Int.reduceToNat, Nat.reduceMul]; rfl) | rfl)
    · (first | (simp only [↓R0, R1, rdL, rdH, isCall, istep, ibin, vcells, fillI, setR, flat, okCell, isBase, List.set, List.drop, List.take, List.append, bnds, bhi, blo, srcOf, ↓reduceIte, Nat.reduceEqDiff, Nat.reduceAdd, Nat.reduceLeDiff, reduceCtorEq, Nat.reduceSub, Int.reduceEq, Int.reduceLT, Int.reduceLE, Int.reduceGT, Int.reduceGE, Int.reduceSub, Int.reduceAdd, Int.reduceMul, Int.reduceNe, Int.reduceNeg, Int.reduceToNat, Nat.reduceMul]; done) | (simp only [↓R0, R1, rdL, rdH, isCall, istep, ibin, vcells, fillI, setR, flat, okCell, isBase, List.set, List.drop, List.take, List.append, bnds, bhi, blo, srcOf, ↓reduceIte, Nat.reduceEqDiff, Nat.reduceAdd, Nat.reduceLeDiff, reduceCtorEq, Nat.reduceSub, Int.reduceEq, Int.reduceLT, Int.reduceLE, Int.reduceGT, Int.reduceGE, Int.reduceSub, Int.reduceAdd, Int.reduceMul, Int.reduceNe, Int.reduceNeg, Int.reduceToNat, Nat.reduceMul]; rfl) | rfl)
    · (first | (simp only [↓R0, R1, rdL, rdH, isCall, istep, ibin, vcells, fillI, setR, flat, okCell, isBase, List.set, List.drop, List.take, List.append, bnds, bhi, blo, srcOf, ↓reduceIte, Nat.reduceEqDiff, Nat.reduceAdd, Nat.reduceLeDiff, reduceCtorEq, Nat.reduceSub, Int.reduceEq, Int.reduceLT, Int.reduceLE, Int.reduceGT, Int.reduceGE, Int.reduceSub, Int.reduceAdd, Int.reduceMul, Int.reduceNe, Int.reduceNeg, Int.reduceToNat, Nat.reduceMul]; done) | (simp only [↓R0, R1, rdL, rdH, isCall, istep, ibin, vcells, fillI, setR, flat, okCell, isBase, List.set, List.drop, List.take, List.append, bnds, bhi, blo, srcOf, ↓reduceIte, Nat.reduceEqDiff, Nat.reduceAdd, Nat.reduceLeDiff, reduceCtorEq, Nat.reduceSub, Int.reduceEq, Int.reduceLT, Int.reduceLE, Int.reduceGT, Int.reduceGE, Int.reduceSub, Int.reduceAdd, Int.reduceMul, Int.reduceNe, Int.reduceNeg, Int.reduceToNat, Nat.reduceMul]; rfl) | rfl)
    · rw [← c0, List.drop_length, c0, List.drop_length]
  · by_cases c1 : (bl a).length < (bl b).length
    · rw [cmpN_lt (bl_length_lt c1)]
      simp only [↓R0, R1, rdL, rdH, isCall, istep, ibin, vcells, fillI, setR, flat, okCell, isBase, List.set, List.drop, List.take, List.append, bnds, bhi, blo, srcOf, ↓reduceIte, Nat.reduceEqDiff, Nat.reduceAdd, Nat.reduceLeDiff, reduceCtorEq, Nat.reduceSub, Int.reduceEq, Int.reduceLT, Int.reduceLE, Int.reduceGT, Int.reduceGE, Int.reduceSub, Int.reduceAdd, Int.reduceMul, Int.reduceNe, Int.reduceNeg, Int.reduceToNat, Nat.reduceMul, spNNorm, hl, hm, ha, hb, c0, c1, decide_not, Bool.not_false, Fin, isEnd, resL, res1, iE, rE]
      exact ⟨_, rfl, rfl, fun k hk => by simp only [ne_nb hk, if_false]⟩
    · rw [cmpN_gt (bl_length_lt (by omega))]
      simp only [↓R0, R1, rdL, rdH, isCall, istep, ibin, vcells, fillI, setR, flat, okCell, isBase, List.set, List.drop, List.take, List.append, bnds, bhi, blo, srcOf, ↓reduceIte, Nat.reduceEqDiff, Nat.reduceAdd, Nat.reduceLeDiff, reduceCtorEq, Nat.reduceSub, Int.reduceEq, Int.reduceLT, Int.reduceLE, Int.reduceGT, Int.reduceGE, Int.reduceSub, Int.reduceAdd, Int.reduceMul, Int.reduceNe, Int.reduceNeg, Int.reduceToNat, Nat.reduceMul, spNNorm, hl, hm, ha, hb, c0, c1, decide_not, Bool.not_false, Fin, isEnd, resL, res1, iE, rE]
      exact ⟨_, rfl, rfl, fun k hk => by simp only [ne_nb hk, if_false]⟩
def spNAdd : List Value → Option Value
  | [.string ⟨⟨l⟩⟩, .string ⟨⟨m⟩⟩] => if l.length ≤ 68719476736 ∧ m.length ≤ 68719476736 then some (.string ⟨⟨bl (nl l + nl m)⟩⟩) else none
  | _ => none
def c51 : ICode :=
  (.seq (.reg [⟨(some 4), none, (.mv (.c (.string ⟨⟨[]⟩⟩)))⟩])
  (.seq (.reg [⟨(some 11), none, (.mv (.t 0))⟩, ⟨(some 12), none, (.call 65 [(.t 11)])⟩, ⟨(some 13), none, (.mv (.t 1))⟩, ⟨(some 14), none, (.call 65 [(.t 13)])⟩, ⟨(some 5), none, (.mv (.t 12))⟩, ⟨(some 6), none, (.mv (.t 14))⟩])
  (.seq (.seq (.reg [⟨(some 15), none, (.mv (.t 5))⟩, ⟨(some 16), none, (.lensl (.t 15))⟩, ⟨(some 17), none, (.mv (.t 6))⟩, ⟨(some 18), none, (.lensl (.t 17))⟩, ⟨(some 19), none, (.bin .lss (.t 16) (.t 18))⟩])
  (.cond (.t 19)
  (.reg [⟨(some 20), none, (.mv (.t 6))⟩, ⟨(some 21), none, (.mv (.t 5))⟩, ⟨(some 5), none, (.mv (.t 20))⟩, ⟨(some 6), none, (.mv (.t 21))⟩])
  .skip))
  (.seq (.reg [⟨(some 22), none, (.mv (.t 5))⟩, ⟨(some 23), none, (.lensl (.t 22))⟩, ⟨(some 24), none, (.bin .add (.t 23) (.c (.int .i64 1)))⟩, ⟨(some 25), none, (.mkslice 80 1 4 [(.int .u32 0)] (.t 24) (.t 24))⟩, ⟨(some 7), none, (.mv (.t 25))⟩])
  (.seq (.reg [⟨(some 8), none, (.mv (.c (.int .u32 0)))⟩])
  (.seq (.seq (.reg [⟨(some 26), none, (.mv (.t 5))⟩, ⟨(some 27), none, (.lensl (.t 26))⟩, ⟨(some 28), none, (.mv (.c (.int .i64 0)))⟩])
  (.block 0 (.loop (.seq (.reg [⟨(some 29), none, (.bin .lss (.t 28) (.t 27))⟩])
  (.seq (.cond (.t 29)
  .skip
  (.exit 0))
  (.seq (.block 1 (.seq (.reg [⟨(some 30), none, (.mv (.t 28))⟩, ⟨(some 9), none, (.mv (.t 30))⟩])
  (.seq (.reg [⟨(some 10), none, (.mv (.c (.int .u32 0)))⟩])
  (.seq (.seq (.reg [⟨(some 31), none, (.mv (.t 9))⟩, ⟨(some 32), none, (.mv (.t 6))⟩, ⟨(some 33), none, (.lensl (.t 32))⟩, ⟨(some 34), none, (.bin .lss (.t 31) (.t 33))⟩])
  (.cond (.t 34)
  (.reg [⟨(some 35), none, (.mv (.t 6))⟩, ⟨(some 36), none, (.mv (.t 9))⟩, ⟨(some 37), none, (.ixsl 1 (.t 35) (.t 36))⟩, ⟨(some 38), none, (.load false 1 (.t 37))⟩, ⟨(some 10), none, (.mv (.t 38))⟩])
  .skip))
  (.reg [⟨(some 40), none, (.mv (.t 7))⟩, ⟨(some 41), none, (.mv (.t 9))⟩, ⟨(some 42), none, (.mv (.t 5))⟩, ⟨(some 43), none, (.mv (.t 9))⟩, ⟨(some 44), none, (.ixsl 1 (.t 42) (.t 43))⟩, ⟨(some 45), none, (.load false 1 (.t 44))⟩, ⟨(some 46), none, (.mv (.t 10))⟩, ⟨(some 47), none, (.mv (.t 8))⟩, ⟨(some 48), none, (.call 66 [(.t 45), (.t 46), (.t 47)])⟩, ⟨(some 39), none, (.mv (.t 48))⟩, ⟨(some 49), none, (.ext (.t 39) 0)⟩, ⟨(some 50), none, (.ext (.t 39) 1)⟩, ⟨(some 51), none, (.ixsl 1 (.t 40) (.t 41))⟩, ⟨none, none, (.store 1 (.t 51) (.t 49))⟩, ⟨(some 8), none, (.mv (.t 50))⟩])))))
  (.reg [⟨(some 52), none, (.bin .add (.t 28) (.c (.int .i64 1)))⟩, ⟨(some 28), none, (.mv (.t 52))⟩])))))))
  (.seq (.reg [⟨(some 53), none, (.mv (.t 7))⟩, ⟨(some 54), none, (.mv (.t 5))⟩, ⟨(some 55), none, (.lensl (.t 54))⟩, ⟨(some 56), none, (.mv (.t 8))⟩, ⟨(some 57), none, (.ixsl 1 (.t 53) (.t 55))⟩, ⟨none, none, (.store 1 (.t 57) (.t 56))⟩])
  (.seq (.reg [⟨(some 58), none, (.mv (.t 7))⟩, ⟨(some 59), none, (.call 59 [(.t 58)])⟩, ⟨(some 4), none, (.mv (.t 59))⟩])
  .ret))))))))
theorem tr51 : trFun Tryd.prog 51 = some ⟨60, [.t 4], c51⟩ := by kernel_rfl
theorem lk_len {n k : Nat} (h : (bl n).length ≤ 4 * k) : lk n ≤ k := by unfold lk; omega
theorem lm_out {n i : Nat} (h : ¬ i < lk n) : lm n i = 0 := lm_of_lt' (lk_lt n) (by omega)
set_option maxHeartbeats 1000000 in
theorem ok_nAdd : SpecOK Tryd.prog 51 (flat spNAdd) := by
  refine flat_run (env_cons ok_nlimbs (env_cons ok_nmag (env_cons ok_add32 (env_nil _)))) mixed tr51 ?_
  intro args v h N hG
  unfold spNAdd at hG
  split at hG
  case h_2 => cases hG
  rename_i l m
  split at hG
  case isFalse => cases hG
  rename_i hl
  obtain ⟨hl, hm⟩ := hl
  cases hG
  refine ⟨rfl, by simp, ?_⟩
  have hL : lk (nl l) ≤ 17179869184 := lk_len (Nat.le_trans (bl_length_nl l) (by omega))
  have hM : lk (nl m) ≤ 17179869184 := lk_len (Nat.le_trans (bl_length_nl m) (by omega))
  have hl' : l.length ≤ 1099511627776 := by omega
  have hm' : m.length ≤ 1099511627776 := by omega
  simp only [c51, initT, List.zipIdx_cons, List.zipIdx_nil, List.map_cons, List.map_nil, Nat.reduceAdd]
  simp only [↓R0, R1, rdL, rdH, isCall, istep, ibin, vcells, fillI, setR, flat, okCell, isBase, List.set, List.drop, List.take, List.append, bnds, bhi, blo, srcOf, ↓reduceIte, Nat.reduceEqDiff, Nat.reduceAdd, Nat.reduceLeDiff, reduceCtorEq, Nat.reduceSub, Int.reduceEq, Int.reduceLT, Int.reduceLE, Int.reduceGT, Int.reduceGE, Int.reduceSub, Int.reduceAdd, Int.reduceMul, Int.reduceNe, Int.reduceNeg, Int.reduceToNat, Nat.reduceMul, nwS, spLimbs, hl', hm']
  by_cases c0 : lk (nl l) < lk (nl m)
  · have hab : lk (nl l) ≤ lk (nl m) := by omega
    rw [Nat.add_comm (nl l)]
    generalize nl l = bb at *
    generalize nl m = aa at *
    simp only [↓R0, R1, rdL, rdH, isCall, istep, ibin, vcells, fillI, setR, flat, okCell, isBase, List.set, List.drop, List.take, List.append, bnds, bhi, blo, srcOf, ↓reduceIte, Nat.reduceEqDiff, Nat.reduceAdd, Nat.reduceLeDiff, reduceCtorEq, Nat.reduceSub, Int.reduceEq, Int.reduceLT, Int.reduceLE, Int.reduceGT, Int.reduceGE, Int.reduceSub, Int.reduceAdd, Int.reduceMul, Int.reduceNe, Int.reduceNeg, Int.reduceToNat, Nat.reduceMul, c0]
    have g1 : IntKind.i64.wrap ((lk aa : Int) + 1) = ((lk aa + 1 : Nat) : Int) := by rw [i64_in _ (by omega)]; omega
    have g2 : 4 * ((lk aa + 1 : Nat) : Int) ≤ 281474976710656 := by omega
    have g3 : ((lk aa + 1 : Nat) : Int) ≤ 9223372036854775807 := by omega
    simp only [↓R0, R1, rdL, rdH, isCall, istep, ibin, vcells, fillI, setR, flat, okCell, isBase, List.set, List.drop, List.take, List.append, bnds, bhi, blo, srcOf, ↓reduceIte, Nat.reduceEqDiff, Nat.reduceAdd, Nat.reduceLeDiff, reduceCtorEq, Nat.reduceSub, Int.reduceEq, Int.reduceLT, Int.reduceLE, Int.reduceGT, Int.reduceGE, Int.reduceSub, Int.reduceAdd, Int.reduceMul, Int.reduceNe, Int.reduceNeg, Int.reduceToNat, Nat.reduceMul, g1, g2, g3, tb_rep]
    clear g1 g2 g3
    refine lp_parts (fun m tm hp nx => ∃ (i : Nat) (f : Nat → Nat), m + i = lk aa ∧ tmget tm 5 = .slice (some ⟨N + 1, 0, none⟩) (lk aa) (lk aa) ∧ tmget tm 6 = .slice (some ⟨N + 0, 0, none⟩) (lk bb) (lk bb) ∧
        tmget tm 7 = .slice (some ⟨N + 2, 0, none⟩) (lk aa + 1) (lk aa + 1) ∧ tmget tm 8 = .int .u32 (cyA aa bb i : Nat) ∧ tmget tm 27 = .int .i64 (lk aa) ∧ tmget tm 28 = .int .i64 i ∧
        hget hp (N + 1) = some ⟨80, 1, false, tb (lk aa) (lm aa)⟩ ∧ hget hp (N + 0) = some ⟨80, 1, false, tb (lk bb) (lm bb)⟩ ∧
        hget hp (N + 2) = some ⟨80, 1, false, tb (lk aa + 1) f⟩ ∧ (∀ j, j < i → f j = lm (aa + bb) j) ∧ (∀ q, q < N → hget hp q = hget h q) ∧ nx = N + 3) ?_ (lk aa)
      ⟨0, fun _ => 0, by omega, ?_, ?_, ?_, ?_, ?_, ?_, ?_, ?_, ?_, fun j hj => by omega, ?_, rfl⟩
    · intro m tm hp nx ⟨i, f, hm, h5, h6, h7, h8, h27, h28, hb1, hb2, hb3, hf, hh, hnx⟩
      subst hnx
      have b1 := lm_lt aa i
      have b2 := lm_lt bb i
      have b3 := cyA_le aa bb i
      have v1 : ((lm aa i : Nat) : Int) < 4294967296 := by omega
      have v2 : ((lm bb i : Nat) : Int) < 4294967296 := by omega
      have v3 : ((cyA aa bb i : Nat) : Int) ≤ 1 := by omega
      have v4 : ((lm aa i : Int) + lm bb i + cyA aa bb i) % 4294967296 = (lm (aa + bb) i : Int) := by rw [add_limb]; omega
      have v5 : ((lm aa i : Int) + lm bb i + cyA aa bb i) / 4294967296 = (cyA aa bb (i + 1) : Int) := by rw [cyA_succ]; omega
      have e7 : IntKind.i64.wrap ((i : Int) + 1) = ((i + 1 : Nat) : Int) := by rw [i64_in _ (by omega)]; omega
      by_cases c1 : i < lk aa
      · have c1' : i < lk aa + 1 := by omega
        have c1'' : i ≤ lk aa := by omega
        have k1 := tb_get' (lm aa) c1
        have hset : ∀ j, j < i + 1 → (fun j => if j = i then lm (aa + bb) i else f j) j = lm (aa + bb) j := by
          intro j hj
          simp only
          by_cases e : j = i
          · rw [if_pos e, e]
          · rw [if_neg e]; exact hf j (by omega)
        by_cases c2 : i < lk bb
        · have k2 := tb_get' (lm bb) c2
          simp only [↓R0, R1, rdL, rdH, isCall, istep, ibin, vcells, fillI, setR, flat, okCell, isBase, List.set, List.drop, List.take, List.append, bnds, bhi, blo, srcOf, ↓reduceIte, Nat.reduceEqDiff, Nat.reduceAdd, Nat.reduceLeDiff, reduceCtorEq, Nat.reduceSub, Int.reduceEq, Int.reduceLT, Int.reduceLE, Int.reduceGT, Int.reduceGE, Int.reduceSub, Int.reduceAdd, Int.reduceMul, Int.reduceNe, Int.reduceNeg, Int.reduceToNat, Nat.reduceMul, h5, h6, h7, h8, h27, h28, hb1, hb2, hb3, c1, c1', c1'', c2, k1, k2, e7, spAdd32, v1, v2, v3, v4, v5, tb_length, tb_set]
          refine ⟨m - 1, by omega, i + 1, _, by omega, rfl, rfl, rfl, hset, ?_⟩
          intro q hq
          simp only [if_neg (show ¬ N + 2 = q by omega)]
          exact hh q hq
        · have z2 := lm_out c2
          rw [z2] at v4 v5
          have z0 : ((0 : Nat) : Int) = 0 := rfl
          rw [z0] at v4 v5
          simp only [↓R0, R1, rdL, rdH, isCall, istep, ibin, vcells, fillI, setR, flat, okCell, isBase, List.set, List.drop, List.take, List.append, bnds, bhi, blo, srcOf, ↓reduceIte, Nat.reduceEqDiff, Nat.reduceAdd, Nat.reduceLeDiff, reduceCtorEq, Nat.reduceSub, Int.reduceEq, Int.reduceLT, Int.reduceLE, Int.reduceGT, Int.reduceGE, Int.reduceSub, Int.reduceAdd, Int.reduceMul, Int.reduceNe, Int.reduceNeg, Int.reduceToNat, Nat.reduceMul, h5, h6, h7, h8, h27, h28, hb1, hb2, hb3, c1, c1', c1'', c2, k1, e7, spAdd32, v1, v3, v4, v5, tb_length, tb_set]
          refine ⟨m - 1, by omega, i + 1, _, by omega, rfl, rfl, rfl, hset, ?_⟩
          intro q hq
          simp only [if_neg (show ¬ N + 2 = q by omega)]
          exact hh q hq
      · have ei : i = lk aa := by omega
        subst ei
        have c3 : lk aa < lk aa + 1 := by omega
        have c4 : ((lk aa : Nat) : Int) < ((lk aa + 1 : Nat) : Int) := by omega
        have c5 : lk aa + 1 ≤ 34359738368 := by omega
        have hA := lk_lt aa
        have hB : bb < 4294967296 ^ lk aa := Nat.lt_of_lt_of_le (lk_lt bb) (Nat.pow_le_pow_right (by omega) hab)
        have hS : aa + bb < 4294967296 ^ (lk aa + 1) := by rw [Nat.pow_succ]; omega
        have hcy : cyA aa bb (lk aa) = lm (aa + bb) (lk aa) := by
          rw [lm_top hS]; unfold cyA; rw [Nat.mod_eq_of_lt hA, Nat.mod_eq_of_lt hB]
        have htb : (tb (lk aa + 1) fun j => if j = lk aa then cyA aa bb (lk aa) else f j) = tb (lk aa + 1) (lm (aa + bb)) := by
          apply tb_congr
          intro j hj
          by_cases e : j = lk aa
          · rw [if_pos e, e, hcy]
          · rw [if_neg e]; exact hf j (by omega)
        have hud : ud (tb (lk aa + 1) (lm (aa + bb))) = aa + bb := by rw [ud_tb, Nat.mod_eq_of_lt hS]
        simp only [↓R0, R1, rdL, rdH, isCall, istep, ibin, vcells, fillI, setR, flat, okCell, isBase, List.set, List.drop, List.take, List.append, bnds, bhi, blo, srcOf, ↓reduceIte, Nat.reduceEqDiff, Nat.reduceAdd, Nat.reduceLeDiff, reduceCtorEq, Nat.reduceSub, Int.reduceEq, Int.reduceLT, Int.reduceLE, Int.reduceGT, Int.reduceGE, Int.reduceSub, Int.reduceAdd, Int.reduceMul, Int.reduceNe, Int.reduceNeg, Int.reduceToNat, Nat.reduceMul, h5, h6, h7, h8, h27, h28, hb1, hb2, hb3, c1, c3, c4, tb_length, tb_set, htb, rdS, spMag, shows, tb_all, uok_lm, c5, hud, Fin, isEnd, resL, res1, iE, rE]
        first | exact ⟨_, rfl, rfl, hh⟩ | exact ⟨_, rfl, rfl, fun k hk => by simp only [ne_nb hk, if_false]; exact hh k hk⟩
    · (first | (simp only [↓R0, R1, rdL, rdH, isCall, istep, ibin, vcells, fillI, setR, flat, okCell, isBase, List.set, List.drop, List.take, List.append, bnds, bhi, blo, srcOf, ↓reduceIte, Nat.reduceEqDiff, Nat.reduceAdd, Nat.reduceLeDiff, reduceCtorEq, Nat.reduceSub, Int.reduceEq, Int.reduceLT, Int.reduceLE, Int.reduceGT, Int.reduceGE, Int.reduceSub, Int.reduceAdd, Int.reduceMul, Int.reduceNe, Int.reduceNeg, Int.reduceToNat, Nat.reduceMul]; done) | (simp only [↓R0, R1, rdL, rdH, isCall, istep, ibin, vcells, fillI, setR, flat, okCell, isBase, List.set, List.drop, List.take, List.append, bnds, bhi, blo, srcOf, ↓reduceIte, Nat.reduceEqDiff, Nat.reduceAdd, Nat.reduceLeDiff, reduceCtorEq, Nat.reduceSub, Int.reduceEq, Int.reduceLT, Int.reduceLE, Int.reduceGT, Int.reduceGE, Int.reduceSub, Int.reduceAdd, Int.reduceMul, Int.reduceNe, Int.reduceNeg, Int.reduceToNat, Nat.reduceMul]; rfl) | rfl)
    · (first | (simp only [↓R0, R1, rdL, rdH, isCall, istep, ibin, vcells, fillI, setR, flat, okCell, isBase, List.set, List.drop, List.take, List.append, bnds, bhi, blo, srcOf, ↓reduceIte, Nat.reduceEqDiff, Nat.reduceAdd, Nat.reduceLeDiff, reduceCtorEq, Nat.reduceSub, Int.reduceEq, Int.reduceLT, Int.reduceLE, Int.reduceGT, Int.reduceGE, Int.reduceSub, Int.reduceAdd, Int.reduceMul, Int.reduceNe, Int.reduceNeg, Int.reduceToNat, Nat.reduceMul]; done) | (simp only [↓R0, R1, rdL, rdH, isCall, istep, ibin, vcells, fillI, setR, flat, okCell, isBase, List.set, List.drop, List.take, List.append, bnds, bhi, blo, srcOf, ↓reduceIte, Nat.reduceEqDiff, Nat.reduceAdd, Nat.reduceLeDiff, reduceCtorEq, Nat.reduceSub, Int.reduceEq, Int.reduceLT, Int.reduceLE, Int.reduceGT, Int.reduceGE, Int.reduceSub, Int.reduceAdd, Int.reduceMul, Int.reduceNe, Int.reduceNeg, Int.reduceToNat, Nat.reduceMul]; rfl) | rfl)
    · (first | (simp only [↓R0, R1, rdL, rdH, isCall, istep, ibin, vcells, fillI, setR, flat, okCell, isBase, List.set, List.drop, List.take, List.append, bnds, bhi, blo, srcOf, ↓reduceIte, Nat.reduceEqDiff, Nat.reduceAdd, Nat.reduceLeDiff, reduceCtorEq, Nat.reduceSub, Int.reduceEq, Int.reduceLT, Int.reduceLE, Int.reduceGT, Int.reduceGE, Int.reduceSub, Int.reduceAdd, Int.reduceMul, Int.reduceNe, Int.reduceNeg, Int.reduceToNat, Nat.reduceMul]; done) | (simp only [↓R0, R1, rdL, rdH, isCall, istep, ibin, vcells, fillI, setR, flat, okCell, isBase, List.set, List.drop, List.take, List.append, bnds, bhi, blo, srcOf, ↓reduceIte, Nat.reduceEqDiff, Nat.reduceAdd, Nat.reduceLeDiff, reduceCtorEq, Nat.reduceSub, Int.reduceEq, Int.reduceLT, Int.reduceLE, Int.reduceGT, Int.reduceGE, Int.reduceSub, Int.reduceAdd, Int.reduceMul, Int.reduceNe, Int.reduceNeg, Int.reduceToNat, Nat.reduceMul]; rfl) | rfl)
    · (first | (simp only [↓R0, R1, rdL, rdH, isCall, istep, ibin, vcells, fillI, setR, flat, okCell, isBase, List.set, List.drop, List.take, List.append, bnds, bhi, blo, srcOf, ↓reduceIte, Nat.reduceEqDiff, Nat.reduceAdd, Nat.reduceLeDiff, reduceCtorEq, Nat.reduceSub, Int.reduceEq, Int.reduceLT, Int.reduceLE, Int.reduceGT, Int.reduceGE, Int.reduceSub, Int.reduceAdd, Int.reduceMul, Int.reduceNe, Int.reduceNeg, Int.reduceToNat, Nat.reduceMul, cyA_zero]; done) | (simp only [↓R0, R1, rdL, rdH, isCall, istep, ibin, vcells, fillI, setR, flat, okCell, isBase, List.set, List.drop, List.take, List.append, bnds, bhi, blo, srcOf, ↓reduceIte, Nat.reduceEqDiff, Nat.reduceAdd, Nat.reduceLeDiff, reduceCtorEq, Nat.reduceSub, Int.reduceEq, Int.reduceLT, Int.reduceLE, Int.reduceGT, Int.reduceGE, Int.reduceSub, Int.reduceAdd, Int.reduceMul, Int.reduceNe, Int.reduceNeg, Int.reduceToNat, Nat.reduceMul, cyA_zero]; rfl) | rfl)
    · (first | (simp only [↓R0, R1, rdL, rdH, isCall, istep, ibin, vcells, fillI, setR, flat, okCell, isBase, List.set, List.drop, List.take, List.append, bnds, bhi, blo, srcOf, ↓reduceIte, Nat.reduceEqDiff, Nat.reduceAdd, Nat.reduceLeDiff, reduceCtorEq, Nat.reduceSub, Int.reduceEq, Int.reduceLT, Int.reduceLE, Int.reduceGT, Int.reduceGE, Int.reduceSub, Int.reduceAdd, Int.reduceMul, Int.reduceNe, Int.reduceNeg, Int.reduceToNat, Nat.reduceMul]; done) | (simp only [↓R0, R1, rdL, rdH, isCall, istep, ibin, vcells, fillI, setR, flat, okCell, isBase, List.set, List.drop, List.take, List.append, bnds, bhi, blo, srcOf, ↓reduceIte, Nat.reduceEqDiff, Nat.reduceAdd, Nat.reduceLeDiff, reduceCtorEq, Nat.reduceSub, Int.reduceEq, Int.reduceLT, Int.reduceLE, Int.reduceGT, Int.reduceGE, Int.reduceSub, Int.reduceAdd, Int.reduceMul, Int.reduceNe, Int.reduceNeg, Int.reduceToNat, Nat.reduceMul]; rfl) | rfl)
    · (first | (simp only [↓R0, R1, rdL, rdH, isCall, istep, ibin, vcells, fillI, setR, flat, okCell, isBase, List.set, List.drop, List.take, List.append, bnds, bhi, blo, srcOf, ↓reduceIte, Nat.reduceEqDiff, Nat.reduceAdd, Nat.reduceLeDiff, reduceCtorEq, Nat.reduceSub, Int.reduceEq, Int.reduceLT, Int.reduceLE, Int.reduceGT, Int.reduceGE, Int.reduceSub, Int.reduceAdd, Int.reduceMul, Int.reduceNe, Int.reduceNeg, Int.reduceToNat, Nat.reduceMul]; done) | (simp only [↓R0, R1, rdL, rdH, isCall, istep, ibin, vcells, fillI, setR, flat, okCell, isBase, List.set, List.drop, List.take, List.append, bnds, bhi, blo, srcOf, ↓reduceIte, Nat.reduceEqDiff, Nat.reduceAdd, Nat.reduceLeDiff, reduceCtorEq, Nat.reduceSub, Int.reduceEq, Int.reduceLT, Int.reduceLE, Int.reduceGT, Int.reduceGE, Int.reduceSub, Int.reduceAdd, Int.reduceMul, Int.reduceNe, Int.reduceNeg, Int.reduceToNat, Nat.reduceMul]; rfl) | rfl)
    · (first | (simp only [↓R0, R1, rdL, rdH, isCall, istep, ibin, vcells, fillI, setR, flat, okCell, isBase, List.set, List.drop, List.take, List.append, bnds, bhi, blo, srcOf, ↓reduceIte, Nat.reduceEqDiff, Nat.reduceAdd, Nat.reduceLeDiff, reduceCtorEq, Nat.reduceSub, Int.reduceEq, Int.reduceLT, Int.reduceLE, Int.reduceGT, Int.reduceGE, Int.reduceSub, Int.reduceAdd, Int.reduceMul, Int.reduceNe, Int.reduceNeg, Int.reduceToNat, Nat.reduceMul]; done) | (simp only [↓R0, R1, rdL, rdH, isCall, istep, ibin, vcells, fillI, setR, flat, okCell, isBase, List.set, List.drop, List.take, List.append, bnds, bhi, blo, srcOf, ↓reduceIte, Nat.reduceEqDiff, Nat.reduceAdd, Nat.reduceLeDiff, reduceCtorEq, Nat.reduceSub, Int.reduceEq, Int.reduceLT, Int.reduceLE, Int.reduceGT, Int.reduceGE, Int.reduceSub, Int.reduceAdd, Int.reduceMul, Int.reduceNe, Int.reduceNeg, Int.reduceToNat, Nat.reduceMul]; rfl) | rfl)
    · (first | (simp only [↓R0, R1, rdL, rdH, isCall, istep, ibin, vcells, fillI, setR, flat, okCell, isBase, List.set, List.drop, List.take, List.append, bnds, bhi, blo, srcOf, ↓reduceIte, Nat.reduceEqDiff, Nat.reduceAdd, Nat.reduceLeDiff, reduceCtorEq, Nat.reduceSub, Int.reduceEq, Int.reduceLT, Int.reduceLE, Int.reduceGT, Int.reduceGE, Int.reduceSub, Int.reduceAdd, Int.reduceMul, Int.reduceNe, Int.reduceNeg, Int.reduceToNat, Nat.reduceMul]; done) | (simp only [↓R0, R1, rdL, rdH, isCall, istep, ibin, vcells, fillI, setR, flat, okCell, isBase, List.set, List.drop, List.take, List.append, bnds, bhi, blo, srcOf, ↓reduceIte, Nat.reduceEqDiff, Nat.reduceAdd, Nat.reduceLeDiff, reduceCtorEq, Nat.reduceSub, Int.reduceEq, Int.reduceLT, Int.reduceLE, Int.reduceGT, Int.reduceGE, Int.reduceSub, Int.reduceAdd, Int.reduceMul, Int.reduceNe, Int.reduceNeg, Int.reduceToNat, Nat.reduceMul]; rfl) | rfl)
    · (first | (simp only [↓R0, R1, rdL, rdH, isCall, istep, ibin, vcells, fillI, setR, flat, okCell, isBase, List.set, List.drop, List.take, List.append, bnds, bhi, blo, srcOf, ↓reduceIte, Nat.reduceEqDiff, Nat.reduceAdd, Nat.reduceLeDiff, reduceCtorEq, Nat.reduceSub, Int.reduceEq, Int.reduceLT, Int.reduceLE, Int.reduceGT, Int.reduceGE, Int.reduceSub, Int.reduceAdd, Int.reduceMul, Int.reduceNe, Int.reduceNeg, Int.reduceToNat, Nat.reduceMul]; done) | (simp only [↓R0, R1, rdL, rdH, isCall, istep, ibin, vcells, fillI, setR, flat, okCell, isBase, List.set, List.drop, List.take, List.append, bnds, bhi, blo, srcOf, ↓reduceIte, Nat.reduceEqDiff, Nat.reduceAdd, Nat.reduceLeDiff, reduceCtorEq, Nat.reduceSub, Int.reduceEq, Int.reduceLT, Int.reduceLE, Int.reduceGT, Int.reduceGE, Int.reduceSub, Int.reduceAdd, Int.reduceMul, Int.reduceNe, Int.reduceNeg, Int.reduceToNat, Nat.reduceMul]; rfl) | rfl)
    · intro q hq
      simp only [↓R0, R1, rdL, rdH, isCall, istep, ibin, vcells, fillI, setR, flat, okCell, isBase, List.set, List.drop, List.take, List.append, bnds, bhi, blo, srcOf, ↓reduceIte, Nat.reduceEqDiff, Nat.reduceAdd, Nat.reduceLeDiff, reduceCtorEq, Nat.reduceSub, Int.reduceEq, Int.reduceLT, Int.reduceLE, Int.reduceGT, Int.reduceGE, Int.reduceSub, Int.reduceAdd, Int.reduceMul, Int.reduceNe, Int.reduceNeg, Int.reduceToNat, Nat.reduceMul, hget_new hq]
  · have hab : lk (nl m) ≤ lk (nl l) := by omega
    generalize nl l = aa at *
    generalize nl m = bb at *
    simp only [↓R0, R1, rdL, rdH, isCall, istep, ibin, vcells, fillI, setR, flat, okCell, isBase, List.set, List.drop, List.take, List.append, bnds, bhi, blo, srcOf, ↓reduceIte, Nat.reduceEqDiff, Nat.reduceAdd, Nat.reduceLeDiff, reduceCtorEq, Nat.reduceSub, Int.reduceEq, Int.reduceLT, Int.reduceLE, Int.reduceGT, Int.reduceGE, Int.reduceSub, Int.reduceAdd, Int.reduceMul, Int.reduceNe, Int.reduceNeg, Int.reduceToNat, Nat.reduceMul, c0]
    have g1 : IntKind.i64.wrap ((lk aa : Int) + 1) = ((lk aa + 1 : Nat) : Int) := by rw [i64_in _ (by omega)]; omega
    have g2 : 4 * ((lk aa + 1 : Nat) : Int) ≤ 281474976710656 := by omega
    have g3 : ((lk aa + 1 : Nat) : Int) ≤ 9223372036854775807 := by omega
    simp only [↓R0, R1, rdL, rdH, isCall, istep, ibin, vcells, fillI, setR, flat, okCell, isBase, List.set, List.drop, List.take, List.append, bnds, bhi, blo, srcOf, ↓reduceIte, Nat.reduceEqDiff, Nat.reduceAdd, Nat.reduceLeDiff, reduceCtorEq, Nat.reduceSub, Int.reduceEq, Int.reduceLT, Int.reduceLE, Int.reduceGT, Int.reduceGE, Int.reduceSub, Int.reduceAdd, Int.reduceMul, Int.reduceNe, Int.reduceNeg, Int.reduceToNat, Nat.reduceMul, g1, g2, g3, tb_rep]
    clear g1 g2 g3
    refine lp_parts (fun m tm hp nx => ∃ (i : Nat) (f : Nat → Nat), m + i = lk aa ∧ tmget tm 5 = .slice (some ⟨N + 0, 0, none⟩) (lk aa) (lk aa) ∧ tmget tm 6 = .slice (some ⟨N + 1, 0, none⟩) (lk bb) (lk bb) ∧
        tmget tm 7 = .slice (some ⟨N + 2, 0, none⟩) (lk aa + 1) (lk aa + 1) ∧ tmget tm 8 = .int .u32 (cyA aa bb i : Nat) ∧ tmget tm 27 = .int .i64 (lk aa) ∧ tmget tm 28 = .int .i64 i ∧
        hget hp (N + 0) = some ⟨80, 1, false, tb (lk aa) (lm aa)⟩ ∧ hget hp (N + 1) = some ⟨80, 1, false, tb (lk bb) (lm bb)⟩ ∧
        hget hp (N + 2) = some ⟨80, 1, false, tb (lk aa + 1) f⟩ ∧ (∀ j, j < i → f j = lm (aa + bb) j) ∧ (∀ q, q < N → hget hp q = hget h q) ∧ nx = N + 3) ?_ (lk aa)
      ⟨0, fun _ => 0, by omega, ?_, ?_, ?_, ?_, ?_, ?_, ?_, ?_, ?_, fun j hj => by omega, ?_, rfl⟩
    · intro m tm hp nx ⟨i, f, hm, h5, h6, h7, h8, h27, h28, hb1, hb2, hb3, hf, hh, hnx⟩
      subst hnx
      have b1 := lm_lt aa i
      have b2 := lm_lt bb i
      have b3 := cyA_le aa bb i
      have v1 : ((lm aa i : Nat) : Int) < 4294967296 := by omega
      have v2 : ((lm bb i : Nat) : Int) < 4294967296 := by omega
      have v3 : ((cyA aa bb i : Nat) : Int) ≤ 1 := by omega
      have v4 : ((lm aa i : Int) + lm bb i + cyA aa bb i) % 4294967296 = (lm (aa + bb) i : Int) := by rw [add_limb]; omega
      have v5 : ((lm aa i : Int) + lm bb i + cyA aa bb i) / 4294967296 = (cyA aa bb (i + 1) : Int) := by rw [cyA_succ]; omega
      have e7 : IntKind.i64.wrap ((i : Int) + 1) = ((i + 1 : Nat) : Int) := by rw [i64_in _ (by omega)]; omega
      by_cases c1 : i < lk aa
      · have c1' : i < lk aa + 1 := by omega
        have c1'' : i ≤ lk aa := by omega
        have k1 := tb_get' (lm aa) c1
        have hset : ∀ j, j < i + 1 → (fun j => if j = i then lm (aa + bb) i else f j) j = lm (aa + bb) j := by
          intro j hj
          simp only
          by_cases e : j = i
          · rw [if_pos e, e]
          · rw [if_neg e]; exact hf j (by omega)
        by_cases c2 : i < lk bb
        · have k2 := tb_get' (lm bb) c2
          simp only [↓R0, R1, rdL, rdH, isCall, istep, ibin, vcells, fillI, setR, flat, okCell, isBase, List.set, List.drop, List.take, List.append, bnds, bhi, blo, srcOf, ↓reduceIte, Nat.reduceEqDiff, Nat.reduceAdd, Nat.reduceLeDiff, reduceCtorEq, Nat.reduceSub, Int.reduceEq, Int.reduceLT, Int.reduceLE, Int.reduceGT, Int.reduceGE, Int.reduceSub, Int.reduceAdd, Int.reduceMul, Int.reduceNe, Int.reduceNeg, Int.reduceToNat, Nat.reduceMul, h5, h6, h7, h8, h27, h28, hb1, hb2, hb3, c1, c1', c1'', c2, k1, k2, e7, spAdd32, v1, v2, v3, v4, v5, tb_length, tb_set]
          refine ⟨m - 1, by omega, i + 1, _, by omega, rfl, rfl, rfl, hset, ?_⟩
          intro q hq
          simp only [if_neg (show ¬ N + 2 = q by omega)]
          exact hh q hq
        · have z2 := lm_out c2
          rw [z2] at v4 v5
          have z0 : ((0 : Nat) : Int) = 0 := rfl
          rw [z0] at v4 v5
          simp only [↓R0, R1, rdL, rdH, isCall, istep, ibin, vcells, fillI, setR, flat, okCell, isBase, List.set, List.drop, List.take, List.append, bnds, bhi, blo, srcOf, ↓reduceIte, Nat.reduceEqDiff, Nat.reduceAdd, Nat.reduceLeDiff, reduceCtorEq, Nat.reduceSub, Int.reduceEq, Int.reduceLT, Int.reduceLE, Int.reduceGT, Int.reduceGE, Int.reduceSub, Int.reduceAdd, Int.reduceMul, Int.reduceNe, Int.reduceNeg, Int.reduceToNat, Nat.reduceMul, h5, h6, h7, h8, h27, h28, hb1, hb2, hb3, c1, c1', c1'', c2, k1, e7, spAdd32, v1, v3, v4, v5, tb_length, tb_set]
          refine ⟨m - 1, by omega, i + 1, _, by omega, rfl, rfl, rfl, hset, ?_⟩
          intro q hq
          simp only [if_neg (show ¬ N + 2 = q by omega)]
          exact hh q hq
      · have ei : i = lk aa := by omega
        subst ei
        have c3 : lk aa < lk aa + 1 := by omega
        have c4 : ((lk aa : Nat) : Int) < ((lk aa + 1 : Nat) : Int) := by omega
        have c5 : lk aa + 1 ≤ 34359738368 := by omega
        have hA := lk_lt aa
        have hB : bb < 4294967296 ^ lk aa := Nat.lt_of_lt_of_le (lk_lt bb) (Nat.pow_le_pow_right (by omega) hab)
        have hS : aa + bb < 4294967296 ^ (lk aa + 1) := by rw [Nat.pow_succ]; omega
        have hcy : cyA aa bb (lk aa) = lm (aa + bb) (lk aa) := by
          rw [lm_top hS]; unfold cyA; rw [Nat.mod_eq_of_lt hA, Nat.mod_eq_of_lt hB]
        have htb : (tb (lk aa + 1) fun j => if j = lk aa then cyA aa bb (lk aa) else f j) = tb (lk aa + 1) (lm (aa + bb)) := by
          apply tb_congr
          intro j hj
          by_cases e : j = lk aa
          · rw [if_pos e, e, hcy]
          · rw [if_neg e]; exact hf j (by omega)
        have hud : ud (tb (lk aa + 1) (lm (aa + bb))) = aa + bb := by rw [ud_tb, Nat.mod_eq_of_lt hS]
        simp only [↓R0, R1, rdL, rdH, isCall, istep, ibin, vcells, fillI, setR, flat, okCell, isBase, List.set, List.drop, List.take, List.append, bnds, bhi, blo, srcOf, ↓reduceIte, Nat.reduceEqDiff, Nat.reduceAdd, Nat.reduceLeDiff, reduceCtorEq, Nat.reduceSub, Int.reduceEq, Int.reduceLT, Int.reduceLE, Int.reduceGT, Int.reduceGE, Int.reduceSub, Int.reduceAdd, Int.reduceMul, Int.reduceNe, Int.reduceNeg, Int.reduceToNat, Nat.reduceMul, h5, h6, h7, h8, h27, h28, hb1, hb2, hb3, c1, c3, c4, tb_length, tb_set, htb, rdS, spMag, shows, tb_all, uok_lm, c5, hud, Fin, isEnd, resL, res1, iE, rE]
        first | exact ⟨_, rfl, rfl, hh⟩ | exact ⟨_, rfl, rfl, fun k hk => by simp only [ne_nb hk, if_false]; exact hh k hk⟩
    · (first | (simp only [↓R0, R1, rdL, rdH, isCall, istep, ibin, vcells, fillI, setR, flat, okCell, isBase, List.set, List.drop, List.take, List.append, bnds, bhi, blo, srcOf, ↓reduceIte, Nat.reduceEqDiff, Nat.reduceAdd, Nat.reduceLeDiff, reduceCtorEq, Nat.reduceSub, Int.reduceEq, Int.reduceLT, Int.reduceLE, Int.reduceGT, Int.reduceGE, Int.reduceSub, Int.reduceAdd, Int.reduceMul, Int.reduceNe, Int.reduceNeg, Int.reduceToNat, Nat.reduceMul]; done) | (simp only [↓R0, R1, rdL, rdH, isCall, istep, ibin, vcells, fillI, setR, flat, okCell, isBase, List.set, List.drop, List.take, List.append, bnds, bhi, blo, srcOf, ↓reduceIte, Nat.reduceEqDiff, Nat.reduceAdd, Nat.reduceLeDiff, reduceCtorEq, Nat.reduceSub, Int.reduceEq, Int.reduceLT, Int.reduceLE, Int.reduceGT, Int.reduceGE, Int.reduceSub, Int.reduceAdd, Int.reduceMul, Int.reduceNe, Int.reduceNeg, Int.reduceToNat, Nat.reduceMul]; rfl) | rfl)
    · (first | (simp only [↓R0, R1, rdL, rdH, isCall, istep, ibin, vcells, fillI, setR, flat, okCell, isBase, List.set, List.drop, List.take, List.append, bnds, bhi, blo, srcOf, ↓reduceIte, Nat.reduceEqDiff, Nat.reduceAdd, Nat.reduceLeDiff, reduceCtorEq, Nat.reduceSub, Int.reduceEq, Int.reduceLT, Int.reduceLE, Int.reduceGT, Int.reduceGE, Int.reduceSub, Int.reduceAdd, Int.reduceMul, Int.reduceNe, Int.reduceNeg, Int.reduceToNat, Nat.reduceMul]; done) | (simp only [↓R0, R1, rdL, rdH, isCall, istep, ibin, vcells, fillI, setR, flat, okCell, isBase, List.set, List.drop, List.take, List.append, bnds, bhi, blo, srcOf, ↓reduceIte, Nat.reduceEqDiff, Nat.reduceAdd, Nat.reduceLeDiff, reduceCtorEq, Nat.reduceSub, Int.reduceEq, Int.reduceLT, Int.reduceLE, Int.reduceGT, Int.reduceGE, Int.reduceSub, Int.reduceAdd, Int.reduceMul, Int.reduceNe, Int.reduceNeg, Int.reduceToNat, Nat.reduceMul]; rfl) | rfl)
    · (first | (simp only [↓R0, R1, rdL, rdH, isCall, istep, ibin, vcells, fillI, setR, flat, okCell, isBase, List.set, List.drop, List.take, List.append, bnds, bhi, blo, srcOf, ↓reduceIte, Nat.reduceEqDiff, Nat.reduceAdd, Nat.reduceLeDiff, reduceCtorEq, Nat.reduceSub, Int.reduceEq, Int.reduceLT, Int.reduceLE, Int.reduceGT, Int.reduceGE, Int.reduceSub, Int.reduceAdd, Int.reduceMul, Int.reduceNe, Int.reduceNeg, Int.reduceToNat, Nat.reduceMul]; done) | (simp only [↓R0, R1, rdL, rdH, isCall, istep, ibin, vcells, fillI, setR, flat, okCell, isBase, List.set, List.drop, List.take, List.append, bnds, bhi, blo, srcOf, ↓reduceIte, Nat.reduceEqDiff, Nat.reduceAdd, Nat.reduceLeDiff, reduceCtorEq, Nat.reduceSub, Int.reduceEq, Int.reduceLT, Int.reduceLE, Int.reduceGT, Int.reduceGE, Int.reduceSub, Int.reduceAdd, Int.reduceMul, Int.reduceNe, Int.reduceNeg, Int.reduceToNat, Nat.reduceMul]; rfl) | rfl)
    · (first | (simp only [↓R0, R1, rdL, rdH, isCall, istep, ibin, vcells, fillI, setR, flat, okCell, isBase, List.set, List.drop, List.take, List.append, bnds, bhi, blo, srcOf, ↓reduceIte, Nat.reduceEqDiff, Nat.reduceAdd, Nat.reduceLeDiff, reduceCtorEq, Nat.reduceSub, Int.reduceEq, Int.reduceLT, Int.reduceLE, Int.reduceGT, Int.reduceGE, Int.reduceSub, Int.reduceAdd, Int.reduceMul, Int.reduceNe, Int.reduceNeg, Int.reduceToNat, Nat.reduceMul, cyA_zero]; done) | (simp only [↓R0, R1, rdL, rdH, isCall, istep, ibin, vcells, fillI, setR, flat, okCell, isBase, List.set, List.drop, List.take, List.append, bnds, bhi, blo, srcOf, ↓reduceIte, Nat.reduceEqDiff, Nat.reduceAdd, Nat.reduceLeDiff, reduceCtorEq, Nat.reduceSub, Int.reduceEq, Int.reduceLT, Int.reduceLE, Int.reduceGT, Int.reduceGE, Int.reduceSub, Int.reduceAdd, Int.reduceMul, Int.reduceNe, Int.reduceNeg, Int.reduceToNat, Nat.reduceMul, cyA_zero]; rfl) | rfl)
    · (first | (simp only [↓R0, R1, rdL, rdH, isCall, istep, ibin, vcells, fillI, setR, flat, okCell, isBase, List.set, List.drop, List.take, List.append, bnds, bhi, blo, srcOf, ↓reduceIte, Nat.reduceEqDiff, Nat.reduceAdd, Nat.reduceLeDiff, reduceCtorEq, Nat.reduceSub, Int.reduceEq, Int.reduceLT, Int.reduceLE, Int.reduceGT, Int.reduceGE, Int.reduceSub, Int.reduceAdd, Int.reduceMul, Int.reduceNe, Int.reduceNeg, Int.reduceToNat, Nat.reduceMul]; done) | (simp only [↓R0, R1, rdL, rdH, isCall, istep, ibin, vcells, fillI, setR, flat, okCell, isBase, List.set, List.drop, List.take, List.append, bnds, bhi, blo, srcOf, ↓reduceIte, Nat.reduceEqDiff, Nat.reduceAdd, Nat.reduceLeDiff, reduceCtorEq, Nat.reduceSub, Int.reduceEq, Int.reduceLT, Int.reduceLE, Int.reduceGT, Int.reduceGE, Int.reduceSub, Int.reduceAdd, Int.reduceMul, Int.reduceNe, Int.reduceNeg, Int.reduceToNat, Nat.reduceMul]; rfl) | rfl)
    · (first | (simp only [↓R0, R1, rdL, rdH, isCall, istep, ibin, vcells, fillI, setR, flat, okCell, isBase, List.set, List.drop, List.take, List.append, bnds, bhi, blo, srcOf, ↓reduceIte, Nat.reduceEqDiff, Nat.reduceAdd, Nat.reduceLeDiff, reduceCtorEq, Nat.reduceSub, Int.reduceEq, Int.reduceLT, Int.reduceLE, Int.reduceGT, Int.reduceGE, Int.reduceSub, Int.reduceAdd, Int.reduceMul, Int.reduceNe, Int.reduceNeg, Int.reduceToNat, Nat.reduceMul]; done) | (simp only [↓R0, R1, rdL, rdH, isCall, istep, ibin, vcells, fillI, setR, flat, okCell, isBase, List.set, List.drop, List.take, List.append, bnds, bhi, blo, srcOf, ↓reduceIte, Nat.reduceEqDiff, Nat.reduceAdd, Nat.reduceLeDiff, reduceCtorEq, Nat.reduceSub, Int.reduceEq, Int.reduceLT, Int.reduceLE, Int.reduceGT, Int.reduceGE, Int.reduceSub, Int.reduceAdd, Int.reduceMul, Int.reduceNe, Int.reduceNeg, Int.reduceToNat, Nat.reduceMul]; rfl) | rfl)
    · (first | (simp only [↓R0, R1, rdL, rdH, isCall, istep, ibin, vcells, fillI, setR, flat, okCell, isBase, List.set, List.drop, List.take, List.append, bnds, bhi, blo, srcOf, ↓reduceIte, Nat.reduceEqDiff, Nat.reduceAdd, Nat.reduceLeDiff, reduceCtorEq, Nat.reduceSub, Int.reduceEq, Int.reduceLT, Int.reduceLE, Int.reduceGT, Int.reduceGE, Int.reduceSub, Int.reduceAdd, Int.reduceMul, Int.reduceNe, Int.reduceNeg, Int.reduceToNat, Nat.reduceMul]; done) | (simp only [↓R0, R1, rdL, rdH, isCall, istep, ibin, vcells, fillI, setR, flat, okCell, isBase, List.set, List.drop, List.take, List.append, bnds, bhi, blo, srcOf, ↓reduceIte, Nat.reduceEqDiff, Nat.reduceAdd, Nat.reduceLeDiff, reduceCtorEq, Nat.reduceSub, Int.reduceEq, Int.reduceLT, Int.reduceLE, Int.reduceGT, Int.reduceGE, Int.reduceSub, Int.reduceAdd, Int.reduceMul, Int.reduceNe, Int.reduceNeg, Int.reduceToNat, Nat.reduceMul]; rfl) | rfl)
    · (first | (simp only [↓R0, R1, rdL, rdH, isCall, istep, ibin, vcells, fillI, setR, flat, okCell, isBase, List.set, List.drop, List.take, List.append, bnds, bhi, blo, srcOf, ↓reduceIte, Nat.reduceEqDiff, Nat.reduceAdd, Nat.reduceLeDiff, reduceCtorEq, Nat.reduceSub, Int.reduceEq, Int.reduceLT, Int.reduceLE, Int.reduceGT, Int.reduceGE, Int.reduceSub, Int.reduceAdd, Int.reduceMul, Int.reduceNe, Int.reduceNeg, Int.reduceToNat, Nat.reduceMul]; done) | (simp only [↓R0, R1, rdL, rdH, isCall, istep, ibin, vcells, fillI, setR, flat, okCell, isBase, List.set, List.drop, List.take, List.append, bnds, bhi, blo, srcOf, ↓reduceIte, Nat.reduceEqDiff, Nat.reduceAdd, Nat.reduceLeDiff, reduceCtorEq, Nat.reduceSub, Int.reduceEq, Int.reduceLT, Int.reduceLE, Int.reduceGT, Int.reduceGE, Int.reduceSub, Int.reduceAdd, Int.reduceMul, Int.reduceNe, Int.reduceNeg, Int.reduceToNat, Nat.reduceMul]; rfl) | rfl)
    · (first | (simp only [↓R0, R1, rdL, rdH, isCall, istep, ibin, vcells, fillI, setR, flat, okCell, isBase, List.set, List.drop, List.take, List.append, bnds, bhi, blo, srcOf, ↓reduceIte, Nat.reduceEqDiff, Nat.reduceAdd, Nat.reduceLeDiff, reduceCtorEq, Nat.reduceSub, Int.reduceEq, Int.reduceLT, Int.reduceLE, Int.reduceGT, Int.reduceGE, Int.reduceSub, Int.reduceAdd, Int.reduceMul, Int.reduceNe, Int.reduceNeg, Int.reduceToNat, Nat.reduceMul]; done) | (simp only [↓R0, R1, rdL, rdH, isCall, istep, ibin, vcells, fillI, setR, flat, okCell, isBase, List.set, List.drop, List.take, List.append, bnds, bhi, blo, srcOf, ↓reduceIte, Nat.reduceEqDiff, Nat.reduceAdd, Nat.reduceLeDiff, reduceCtorEq, Nat.reduceSub, Int.reduceEq, Int.reduceLT, Int.reduceLE, Int.reduceGT, Int.reduceGE, Int.reduceSub, Int.reduceAdd, Int.reduceMul, Int.reduceNe, Int.reduceNeg, Int.reduceToNat, Nat.reduceMul]; rfl) | rfl)
    · intro q hq
      simp only [↓R0, R1, rdL, rdH, isCall, istep, ibin, vcells, fillI, setR, flat, okCell, isBase, List.set, List.drop, List.take, List.append, bnds, bhi, blo, srcOf, ↓reduceIte, Nat.reduceEqDiff, Nat.reduceAdd, Nat.reduceLeDiff, reduceCtorEq, Nat.reduceSub, Int.reduceEq, Int.reduceLT, Int.reduceLE, Int.reduceGT, Int.reduceGE, Int.reduceSub, Int.reduceAdd, Int.reduceMul, Int.reduceNe, Int.reduceNeg, Int.reduceToNat, Nat.reduceMul, hget_new hq]
def spNSub : List Value → Option Value
  | [.string ⟨⟨l⟩⟩, .string ⟨⟨m⟩⟩] => if l.length ≤ 68719476736 ∧ m.length ≤ 68719476736 then
      (if nl l < nl m then some (.tuple ⟨[.string ⟨⟨[]⟩⟩, .bool false]⟩) else some (.tuple ⟨[.string ⟨⟨bl (nl l - nl m)⟩⟩, .bool true]⟩)) else none
  | _ => none
def c52 : ICode :=
  (.seq (.reg [⟨(some 4), none, (.mv (.c (.string ⟨⟨[]⟩⟩)))⟩, ⟨(some 5), none, (.mv (.c (.bool false)))⟩])
  (.seq (.seq (.reg [⟨(some 12), none, (.mv (.t 0))⟩, ⟨(some 13), none, (.mv (.t 1))⟩, ⟨(some 14), none, (.call 67 [(.t 12), (.t 13)])⟩, ⟨(some 15), none, (.bin .lss (.t 14) (.c (.int .i64 0)))⟩])
  (.cond (.t 15)
  (.seq (.reg [⟨(some 4), none, (.mv (.c (.string ⟨⟨[]⟩⟩)))⟩, ⟨(some 5), none, (.mv (.c (.bool false)))⟩])
  .ret)
  .skip))
  (.seq (.reg [⟨(some 16), none, (.mv (.t 0))⟩, ⟨(some 17), none, (.call 65 [(.t 16)])⟩, ⟨(some 18), none, (.mv (.t 1))⟩, ⟨(some 19), none, (.call 65 [(.t 18)])⟩, ⟨(some 6), none, (.mv (.t 17))⟩, ⟨(some 7), none, (.mv (.t 19))⟩])
  (.seq (.reg [⟨(some 20), none, (.mv (.t 6))⟩, ⟨(some 21), none, (.lensl (.t 20))⟩, ⟨(some 22), none, (.mkslice 80 1 4 [(.int .u32 0)] (.t 21) (.t 21))⟩, ⟨(some 8), none, (.mv (.t 22))⟩])
  (.seq (.reg [⟨(some 9), none, (.mv (.c (.int .u32 0)))⟩])
  (.seq (.seq (.reg [⟨(some 23), none, (.mv (.t 6))⟩, ⟨(some 24), none, (.lensl (.t 23))⟩, ⟨(some 25), none, (.mv (.c (.int .i64 0)))⟩])
  (.block 0 (.loop (.seq (.reg [⟨(some 26), none, (.bin .lss (.t 25) (.t 24))⟩])
  (.seq (.cond (.t 26)
  .skip
  (.exit 0))
  (.seq (.block 1 (.seq (.reg [⟨(some 27), none, (.mv (.t 25))⟩, ⟨(some 10), none, (.mv (.t 27))⟩])
  (.seq (.reg [⟨(some 11), none, (.mv (.c (.int .u32 0)))⟩])
  (.seq (.seq (.reg [⟨(some 28), none, (.mv (.t 10))⟩, ⟨(some 29), none, (.mv (.t 7))⟩, ⟨(some 30), none, (.lensl (.t 29))⟩, ⟨(some 31), none, (.bin .lss (.t 28) (.t 30))⟩])
  (.cond (.t 31)
  (.reg [⟨(some 32), none, (.mv (.t 7))⟩, ⟨(some 33), none, (.mv (.t 10))⟩, ⟨(some 34), none, (.ixsl 1 (.t 32) (.t 33))⟩, ⟨(some 35), none, (.load false 1 (.t 34))⟩, ⟨(some 11), none, (.mv (.t 35))⟩])
  .skip))
  (.reg [⟨(some 37), none, (.mv (.t 8))⟩, ⟨(some 38), none, (.mv (.t 10))⟩, ⟨(some 39), none, (.mv (.t 6))⟩, ⟨(some 40), none, (.mv (.t 10))⟩, ⟨(some 41), none, (.ixsl 1 (.t 39) (.t 40))⟩, ⟨(some 42), none, (.load false 1 (.t 41))⟩, ⟨(some 43), none, (.mv (.t 11))⟩, ⟨(some 44), none, (.mv (.t 9))⟩, ⟨(some 45), none, (.call 68 [(.t 42), (.t 43), (.t 44)])⟩, ⟨(some 36), none, (.mv (.t 45))⟩, ⟨(some 46), none, (.ext (.t 36) 0)⟩, ⟨(some 47), none, (.ext (.t 36) 1)⟩, ⟨(some 48), none, (.ixsl 1 (.t 37) (.t 38))⟩, ⟨none, none, (.store 1 (.t 48) (.t 46))⟩, ⟨(some 9), none, (.mv (.t 47))⟩])))))
  (.reg [⟨(some 49), none, (.bin .add (.t 25) (.c (.int .i64 1)))⟩, ⟨(some 25), none, (.mv (.t 49))⟩])))))))
  (.seq (.reg [⟨(some 50), none, (.mv (.t 8))⟩, ⟨(some 51), none, (.call 59 [(.t 50)])⟩, ⟨(some 4), none, (.mv (.t 51))⟩, ⟨(some 5), none, (.mv (.c (.bool true)))⟩])
  .ret)))))))
theorem tr52 : trFun Tryd.prog 52 = some ⟨52, [.t 4, .t 5], c52⟩ := by kernel_rfl
theorem cmpN_neg {a b : Nat} : (cmpN a b < 0) = (a < b) := by
  unfold cmpN
  by_cases h : a < b
  · simp [h]
  · by_cases h2 : a = b
    · simp [h2]
    · simp [h, h2]
set_option maxHeartbeats 1000000 in
theorem ok_nSub : SpecOK Tryd.prog 52 (flat spNSub) := by
  refine flat_run (env_cons ok_nCmp (env_cons ok_nlimbs (env_cons ok_nmag (env_cons ok_sub32 (env_nil _))))) mixed tr52 ?_
  intro args v h N hG
  unfold spNSub at hG
  split at hG
  case h_2 => cases hG
  rename_i l m
  split at hG
  case isFalse => cases hG
  rename_i hl
  obtain ⟨hl, hm⟩ := hl
  have hl' : l.length ≤ 1099511627776 := by omega
  have hm' : m.length ≤ 1099511627776 := by omega
  split at hG
  · rename_i hlt
    cases hG
    refine ⟨rfl, by simp, ?_⟩
    simp only [c52, initT, List.zipIdx_cons, List.zipIdx_nil, List.map_cons, List.map_nil, Nat.reduceAdd]
    simp only [↓R0, R1, rdL, rdH, isCall, istep, ibin, vcells, fillI, setR, flat, okCell, isBase, List.set, List.drop, List.take, List.append, bnds, bhi, blo, srcOf, ↓reduceIte, Nat.reduceEqDiff, Nat.reduceAdd, Nat.reduceLeDiff, reduceCtorEq, Nat.reduceSub, Int.reduceEq, Int.reduceLT, Int.reduceLE, Int.reduceGT, Int.reduceGE, Int.reduceSub, Int.reduceAdd, Int.reduceMul, Int.reduceNe, Int.reduceNeg, Int.reduceToNat, Nat.reduceMul, spNCmp, hl', hm', cmpN_lt hlt, Fin, isEnd, resL, res1, iE, rE]
    exact ⟨_, rfl, rfl, fun k hk => by simp only [ne_nb hk, if_false]⟩
  rename_i hlt
  cases hG
  refine ⟨rfl, by simp, ?_⟩
  have hL : lk (nl l) ≤ 17179869184 := lk_len (Nat.le_trans (bl_length_nl l) (by omega))
  simp only [c52, initT, List.zipIdx_cons, List.zipIdx_nil, List.map_cons, List.map_nil, Nat.reduceAdd]
  generalize ha : nl l = aa at *
  generalize hb : nl m = bb at *
  have g2 : 4 * (lk aa : Int) ≤ 281474976710656 := by omega
  have g3 : (lk aa : Int) ≤ 9223372036854775807 := by omega
  simp only [↓R0, R1, rdL, rdH, isCall, istep, ibin, vcells, fillI, setR, flat, okCell, isBase, List.set, List.drop, List.take, List.append, bnds, bhi, blo, srcOf, ↓reduceIte, Nat.reduceEqDiff, Nat.reduceAdd, Nat.reduceLeDiff, reduceCtorEq, Nat.reduceSub, Int.reduceEq, Int.reduceLT, Int.reduceLE, Int.reduceGT, Int.reduceGE, Int.reduceSub, Int.reduceAdd, Int.reduceMul, Int.reduceNe, Int.reduceNeg, Int.reduceToNat, Nat.reduceMul, spNCmp, nwS, spLimbs, hl', hm', ha, hb, cmpN_neg, hlt, g2, g3, tb_rep]
  clear g2 g3
  refine lp_parts (fun m tm hp nx => ∃ (i : Nat) (f : Nat → Nat), m + i = lk aa ∧ tmget tm 6 = .slice (some ⟨N + 0, 0, none⟩) (lk aa) (lk aa) ∧ tmget tm 7 = .slice (some ⟨N + 1, 0, none⟩) (lk bb) (lk bb) ∧
      tmget tm 8 = .slice (some ⟨N + 2, 0, none⟩) (lk aa) (lk aa) ∧ tmget tm 9 = .int .u32 (cyS aa bb i : Nat) ∧ tmget tm 24 = .int .i64 (lk aa) ∧ tmget tm 25 = .int .i64 i ∧
      hget hp (N + 0) = some ⟨80, 1, false, tb (lk aa) (lm aa)⟩ ∧ hget hp (N + 1) = some ⟨80, 1, false, tb (lk bb) (lm bb)⟩ ∧
      hget hp (N + 2) = some ⟨80, 1, false, tb (lk aa) f⟩ ∧ (∀ j, j < i → f j = lm (aa - bb) j) ∧ (∀ q, q < N → hget hp q = hget h q) ∧ nx = N + 3) ?_ (lk aa)
    ⟨0, fun _ => 0, by omega, ?_, ?_, ?_, ?_, ?_, ?_, ?_, ?_, ?_, fun j hj => by omega, ?_, rfl⟩
  · intro m tm hp nx ⟨i, f, hm, h6, h7, h8, h9, h24, h25, hb1, hb2, hb3, hf, hh, hnx⟩
    subst hnx
    have b1 := lm_lt aa i
    have b2 := lm_lt bb i
    have b3 := cyS_le aa bb i
    have v1 : ((lm aa i : Nat) : Int) < 4294967296 := by omega
    have v2 : ((lm bb i : Nat) : Int) < 4294967296 := by omega
    have v3 : ((cyS aa bb i : Nat) : Int) ≤ 1 := by omega
    have hmod := sub_mods (show bb ≤ aa by omega) i
    have v4 : ((lm aa i : Int) - lm bb i - cyS aa bb i) % 4294967296 = (lm (aa - bb) i : Int) := (sub_limb hmod).symm
    have v5 : (if (lm aa i : Int) < lm bb i + cyS aa bb i then (1 : Int) else 0) = (cyS aa bb (i + 1) : Int) := by
      rw [cyS_succ]
      by_cases g : lm aa i < lm bb i + cyS aa bb i
      · rw [if_pos g, if_pos (by omega)]; rfl
      · rw [if_neg g, if_neg (by omega)]; rfl
    have e7 : IntKind.i64.wrap ((i : Int) + 1) = ((i + 1 : Nat) : Int) := by rw [i64_in _ (by omega)]; omega
    by_cases c1 : i < lk aa
    · have c1' : i + 1 ≤ lk aa := c1
      have k1 := tb_get' (lm aa) c1
      have hset : ∀ j, j < i + 1 → (fun j => if j = i then lm (aa - bb) i else f j) j = lm (aa - bb) j := by
        intro j hj
        simp only
        by_cases e : j = i
        · rw [if_pos e, e]
        · rw [if_neg e]; exact hf j (by omega)
      by_cases c2 : i < lk bb
      · have k2 := tb_get' (lm bb) c2
        simp only [↓R0, R1, rdL, rdH, isCall, istep, ibin, vcells, fillI, setR, flat, okCell, isBase, List.set, List.drop, List.take, List.append, bnds, bhi, blo, srcOf, ↓reduceIte, Nat.reduceEqDiff, Nat.reduceAdd, Nat.reduceLeDiff, reduceCtorEq, Nat.reduceSub, Int.reduceEq, Int.reduceLT, Int.reduceLE, Int.reduceGT, Int.reduceGE, Int.reduceSub, Int.reduceAdd, Int.reduceMul, Int.reduceNe, Int.reduceNeg, Int.reduceToNat, Nat.reduceMul, h6, h7, h8, h9, h24, h25, hb1, hb2, hb3, c1, c1', c2, k1, k2, e7, spSub32, v1, v2, v3, v4, v5, tb_length, tb_set]
        refine ⟨m - 1, by omega, i + 1, _, by omega, rfl, rfl, rfl, hset, ?_⟩
        intro q hq
        simp only [if_neg (show ¬ N + 2 = q by omega)]
        exact hh q hq
      · have z2 := lm_out c2
        rw [z2] at v4 v5
        have z0 : ((0 : Nat) : Int) = 0 := rfl
        rw [z0] at v4 v5
        simp only [↓R0, R1, rdL, rdH, isCall, istep, ibin, vcells, fillI, setR, flat, okCell, isBase, List.set, List.drop, List.take, List.append, bnds, bhi, blo, srcOf, ↓reduceIte, Nat.reduceEqDiff, Nat.reduceAdd, Nat.reduceLeDiff, reduceCtorEq, Nat.reduceSub, Int.reduceEq, Int.reduceLT, Int.reduceLE, Int.reduceGT, Int.reduceGE, Int.reduceSub, Int.reduceAdd, Int.reduceMul, Int.reduceNe, Int.reduceNeg, Int.reduceToNat, Nat.reduceMul, h6, h7, h8, h9, h24, h25, hb1, hb2, hb3, c1, c1', c2, k1, e7, spSub32, v1, v3, v4, v5, tb_length, tb_set]
        refine ⟨m - 1, by omega, i + 1, _, by omega, rfl, rfl, rfl, hset, ?_⟩
        intro q hq
        simp only [if_neg (show ¬ N + 2 = q by omega)]
        exact hh q hq
    · have ei : i = lk aa := by omega
      subst ei
      have c5 : lk aa ≤ 34359738368 := by omega
      have htb : tb (lk aa) f = tb (lk aa) (lm (aa - bb)) := tb_congr hf
      have hud : ud (tb (lk aa) (lm (aa - bb))) = aa - bb := by rw [ud_tb, Nat.mod_eq_of_lt (Nat.lt_of_le_of_lt (Nat.sub_le _ _) (lk_lt aa))]
      simp only [↓R0, R1, rdL, rdH, isCall, istep, ibin, vcells, fillI, setR, flat, okCell, isBase, List.set, List.drop, List.take, List.append, bnds, bhi, blo, srcOf, ↓reduceIte, Nat.reduceEqDiff, Nat.reduceAdd, Nat.reduceLeDiff, reduceCtorEq, Nat.reduceSub, Int.reduceEq, Int.reduceLT, Int.reduceLE, Int.reduceGT, Int.reduceGE, Int.reduceSub, Int.reduceAdd, Int.reduceMul, Int.reduceNe, Int.reduceNeg, Int.reduceToNat, Nat.reduceMul, h6, h7, h8, h9, h24, h25, hb1, hb2, hb3, c1, tb_length, htb, rdS, spMag, shows, tb_all, uok_lm, c5, hud, Fin, isEnd, resL, res1, iE, rE]
      first | exact ⟨_, rfl, rfl, hh⟩ | exact ⟨_, rfl, rfl, fun k hk => by simp only [ne_nb hk, if_false]; exact hh k hk⟩
  · (first | (simp only [↓R0, R1, rdL, rdH, isCall, istep, ibin, vcells, fillI, setR, flat, okCell, isBase, List.set, List.drop, List.take, List.append, bnds, bhi, blo, srcOf, ↓reduceIte, Nat.reduceEqDiff, Nat.reduceAdd, Nat.reduceLeDiff, reduceCtorEq, Nat.reduceSub, Int.reduceEq, Int.reduceLT, Int.reduceLE, Int.reduceGT, Int.reduceGE, Int.reduceSub, Int.reduceAdd, Int.reduceMul, Int.reduceNe, Int.reduceNeg, Int.reduceToNat, Nat.reduceMul]; done) | (simp only [↓R0, R1, rdL, rdH, isCall, istep, ibin, vcells, fillI, setR, flat, okCell, isBase, List.set, List.drop, List.take, List.append, bnds, bhi, blo, srcOf, ↓reduceIte, Nat.reduceEqDiff, Nat.reduceAdd, Nat.reduceLeDiff, reduceCtorEq, Nat.reduceSub, Int.reduceEq, Int.reduceLT, Int.reduceLE, Int.reduceGT, Int.reduceGE, Int.reduceSub, Int.reduceAdd, Int.reduceMul, Int.reduceNe, Int.reduceNeg, Int.reduceToNat, Nat.reduceMul]; rfl) | rfl)
  · (first | (simp only [↓R0, R1, rdL, rdH, isCall, istep, ibin, vcells, fillI, setR, flat, okCell, isBase, List.set, List.drop, List.take, List.append, bnds, bhi, blo, srcOf, ↓reduceIte, Nat.reduceEqDiff, Nat.reduceAdd, Nat.reduceLeDiff, reduceCtorEq, Nat.reduceSub, Int.reduceEq, Int.reduceLT, Int.reduceLE, Int.reduceGT, Int.reduceGE, Int.reduceSub, Int.reduceAdd, Int.reduceMul, Int.reduceNe, Int.reduceNeg, Int.reduceToNat, Nat.reduceMul]; done) | (simp only [↓R0, R1, rdL, rdH, isCall, istep, ibin, vcells, fillI, setR, flat, okCell, isBase, List.set, List.drop, List.take, List.append, bnds, bhi, blo, srcOf, ↓reduceIte, Nat.reduceEqDiff, Nat.reduceAdd, Nat.reduceLeDiff, reduceCtorEq, Nat.reduceSub, Int.reduceEq, Int.reduceLT, Int.reduceLE, Int.reduceGT, Int.reduceGE, Int.reduceSub, Int.reduceAdd, Int.reduceMul, Int.reduceNe, Int.reduceNeg, Int.reduceToNat, Nat.reduceMul]; rfl) | rfl)
  · (first | (simp only [↓R0, R1, rdL, rdH, isCall, istep, ibin, vcells, fillI, setR, flat, okCell, isBase, List.set, List.drop, List.take, List.append, bnds, bhi, blo, srcOf, ↓reduceIte, Nat.reduceEqDiff, Nat.reduceAdd, Nat.reduceLeDiff, reduceCtorEq, Nat.reduceSub, Int.reduceEq, Int.reduceLT, Int.reduceLE, Int.reduceGT, Int.reduceGE, Int.reduceSub, Int.reduceAdd, Int.reduceMul, Int.reduceNe, Int.reduceNeg, Int.reduceToNat, Nat.reduceMul]; done) | (simp only [↓R0, R1, rdL, rdH, isCall, istep, ibin, vcells, fillI, setR, flat, okCell, isBase, List.set, List.drop, List.take, List.append, bnds, bhi, blo, srcOf, ↓reduceIte, Nat.reduceEqDiff, Nat.reduceAdd, Nat.reduceLeDiff, reduceCtorEq, Nat.reduceSub, Int.reduceEq, Int.reduceLT, Int.reduceLE, Int.reduceGT, Int.reduceGE, Int.reduceSub, Int.reduceAdd, Int.reduceMul, Int.reduceNe, Int.reduceNeg, Int.reduceToNat, Nat.reduceMul]; rfl) | rfl)
  · (first | (simp only [↓R0, R1, rdL, rdH, isCall, istep, ibin, vcells, fillI, setR, flat, okCell, isBase, List.set, List.drop, List.take, List.append, bnds, bhi, blo, srcOf, ↓reduceIte, Nat.reduceEqDiff, Nat.reduceAdd, Nat.reduceLeDiff, reduceCtorEq, Nat.reduceSub, Int.reduceEq, Int.reduceLT, Int.reduceLE, Int.reduceGT, Int.reduceGE, Int.reduceSub, Int.reduceAdd, Int.reduceMul, Int.reduceNe, Int.reduceNeg, Int.reduceToNat, Nat.reduceMul, cyS_zero]; done) | (simp only [↓R0, R1, rdL, rdH, isCall, istep, ibin, vcells, fillI, setR, flat, okCell, isBase, List.set, List.drop, List.take, List.append, bnds, bhi, blo, srcOf, ↓reduceIte, Nat.reduceEqDiff, Nat.reduceAdd, Nat.reduceLeDiff, reduceCtorEq, Nat.reduceSub, Int.reduceEq, Int.reduceLT, Int.reduceLE, Int.reduceGT, Int.reduceGE, Int.reduceSub, Int.reduceAdd, Int.reduceMul, Int.reduceNe, Int.reduceNeg, Int.reduceToNat, Nat.reduceMul, cyS_zero]; rfl) | rfl)
  · (first | (simp only [↓R0, R1, rdL, rdH, isCall, istep, ibin, vcells, fillI, setR, flat, okCell, isBase, List.set, List.drop, List.take, List.append, bnds, bhi, blo, srcOf, ↓reduceIte, Nat.reduceEqDiff, Nat.reduceAdd, Nat.reduceLeDiff, reduceCtorEq, Nat.reduceSub, Int.reduceEq, Int.reduceLT, Int.reduceLE, Int.reduceGT, Int.reduceGE, Int.reduceSub, Int.reduceAdd, Int.reduceMul, Int.reduceNe, Int.reduceNeg, Int.reduceToNat, Nat.reduceMul]; done) | (simp only [↓R0, R1, rdL, rdH, isCall, istep, ibin, vcells, fillI, setR, flat, okCell, isBase, List.set, List.drop, List.take, List.append, bnds, bhi, blo, srcOf, ↓reduceIte, Nat.reduceEqDiff, Nat.reduceAdd, Nat.reduceLeDiff, reduceCtorEq, Nat.reduceSub, Int.reduceEq, Int.reduceLT, Int.reduceLE, Int.reduceGT, Int.reduceGE, Int.reduceSub, Int.reduceAdd, Int.reduceMul, Int.reduceNe, Int.reduceNeg, Int.reduceToNat, Nat.reduceMul]; rfl) | rfl)
  · (first | (simp only [↓R0, R1, rdL, rdH, isCall, istep, ibin, vcells, fillI, setR, flat, okCell, isBase, List.set, List.drop, List.take, List.append, bnds, bhi, blo, srcOf, ↓reduceIte, Nat.reduceEqDiff, Nat.reduceAdd, Nat.reduceLeDiff, reduceCtorEq, Nat.reduceSub, Int.reduceEq, Int.reduceLT, Int.reduceLE, Int.reduceGT, Int.reduceGE, Int.reduceSub, Int.reduceAdd, Int.reduceMul, Int.reduceNe, Int.reduceNeg, Int.reduceToNat, Nat.reduceMul]; done) | (simp only [↓R0, R1, rdL, rdH, isCall, istep, ibin, vcells, fillI, setR, flat, okCell, isBase, List.set, List.drop, List.take, List.append, bnds, bhi, blo, srcOf, ↓reduceIte, Nat.reduceEqDiff, Nat.reduceAdd, Nat.reduceLeDiff, reduceCtorEq, Nat.reduceSub, Int.reduceEq, Int.reduceLT, Int.reduceLE, Int.reduceGT, Int.reduceGE, Int.reduceSub, Int.reduceAdd, Int.reduceMul, Int.reduceNe, Int.reduceNeg, Int.reduceToNat, Nat.reduceMul]; rfl) | rfl)
  · (first | (simp only [↓R0, R1, rdL, rdH, isCall, istep, ibin, vcells, fillI, setR, flat, okCell, isBase, List.set, List.drop, List.take, List.append, bnds, bhi, blo, srcOf, ↓reduceIte, Nat.reduceEqDiff, Nat.reduceAdd, Nat.reduceLeDiff, reduceCtorEq, Nat.reduceSub, Int.reduceEq, Int.reduceLT, Int.reduceLE, Int.reduceGT, Int.reduceGE, Int.reduceSub, Int.reduceAdd, Int.reduceMul, Int.reduceNe, Int.reduceNeg, Int.reduceToNat, Nat.reduceMul]; done) | (simp only [↓R0, R1, rdL, rdH, isCall, istep, ibin, vcells, fillI, setR, flat, okCell, isBase, List.set, List.drop, List.take, List.append, bnds, bhi, blo, srcOf, ↓reduceIte, Nat.reduceEqDiff, Nat.reduceAdd, Nat.reduceLeDiff, reduceCtorEq, Nat.reduceSub, Int.reduceEq, Int.reduceLT, Int.reduceLE, Int.reduceGT, Int.reduceGE, Int.reduceSub, Int.reduceAdd, Int.reduceMul, Int.reduceNe, Int.reduceNeg, Int.reduceToNat, Nat.reduceMul]; rfl) | rfl)
  · (first | (simp only [↓R0, R1, rdL, rdH, isCall, istep, ibin, vcells, fillI, setR, flat, okCell, isBase, List.set, List.drop, List.take, List.append, bnds, bhi, blo, srcOf, ↓reduceIte, Nat.reduceEqDiff, Nat.reduceAdd, Nat.reduceLeDiff, reduceCtorEq, Nat.reduceSub, Int.reduceEq, Int.reduceLT, Int.reduceLE, Int.reduceGT, Int.reduceGE, Int.reduceSub, Int.reduceAdd, Int.reduceMul, Int.reduceNe, Int.reduceNeg, Int.reduceToNat, Nat.reduceMul]; done) | (simp only [↓R0, R1, rdL, rdH, isCall, istep, ibin, vcells, fillI, setR, flat, okCell, isBase, List.set, List.drop, List.take, List.append, bnds, bhi, blo, srcOf, ↓reduceIte, Nat.reduceEqDiff, Nat.reduceAdd, Nat.reduceLeDiff, reduceCtorEq, Nat.reduceSub, Int.reduceEq, Int.reduceLT, Int.reduceLE, Int.reduceGT, Int.reduceGE, Int.reduceSub, Int.reduceAdd, Int.reduceMul, Int.reduceNe, Int.reduceNeg, Int.reduceToNat, Nat.reduceMul]; rfl) | rfl)
  · (first | (simp only [↓R0, R1, rdL, rdH, isCall, istep, ibin, vcells, fillI, setR, flat, okCell, isBase, List.set, List.drop, List.take, List.append, bnds, bhi, blo, srcOf, ↓reduceIte, Nat.reduceEqDiff, Nat.reduceAdd, Nat.reduceLeDiff, reduceCtorEq, Nat.reduceSub, Int.reduceEq, Int.reduceLT, Int.reduceLE, Int.reduceGT, Int.reduceGE, Int.reduceSub, Int.reduceAdd, Int.reduceMul, Int.reduceNe, Int.reduceNeg, Int.reduceToNat, Nat.reduceMul]; done) | (simp only [↓R0, R1, rdL, rdH, isCall, istep, ibin, vcells, fillI, setR, flat, okCell, isBase, List.set, List.drop, List.take, List.append, bnds, bhi, blo, srcOf, ↓reduceIte, Nat.reduceEqDiff, Nat.reduceAdd, Nat.reduceLeDiff, reduceCtorEq, Nat.reduceSub, Int.reduceEq, Int.reduceLT, Int.reduceLE, Int.reduceGT, Int.reduceGE, Int.reduceSub, Int.reduceAdd, Int.reduceMul, Int.reduceNe, Int.reduceNeg, Int.reduceToNat, Nat.reduceMul]; rfl) | rfl)
  · intro q hq
    simp only [↓R0, R1, rdL, rdH, isCall, istep, ibin, vcells, fillI, setR, flat, okCell, isBase, List.set, List.drop, List.take, List.append, bnds, bhi, blo, srcOf, ↓reduceIte, Nat.reduceEqDiff, Nat.reduceAdd, Nat.reduceLeDiff, reduceCtorEq, Nat.reduceSub, Int.reduceEq, Int.reduceLT, Int.reduceLE, Int.reduceGT, Int.reduceGE, Int.reduceSub, Int.reduceAdd, Int.reduceMul, Int.reduceNe, Int.reduceNeg, Int.reduceToNat, Nat.reduceMul, hget_new hq]
end Go.Eng
end
section
set_option linter.unusedVariables false
set_option linter.unusedSimpArgs false
set_option linter.unusedSectionVars false
namespace Go.Eng
def mvV (v0 xi y i k : Nat) : Nat := v0 + xi * (y % 4294967296 ^ k) * 4294967296 ^ i
def mvC (v0 xi y i k : Nat) : Nat := mvV v0 xi y i k / 4294967296 ^ (i + k) - v0 / 4294967296 ^ (i + k)
def mvN (v0 xi y i k : Nat) : Nat := xi * lm y k + lm v0 (i + k) + mvC v0 xi y i k
theorem mvV_zero (v0 xi y i : Nat) : mvV v0 xi y i 0 = v0 := by simp [mvV, Nat.mod_one]
theorem mvC_zero (v0 xi y i : Nat) : mvC v0 xi y i 0 = 0 := by simp [mvC, mvV_zero]
theorem mvV_succ (v0 xi y i k : Nat) : mvV v0 xi y i (k + 1) = mvV v0 xi y i k + xi * lm y k * 4294967296 ^ (i + k) := by
  unfold mvV
  rw [mod_step, Nat.pow_add, Nat.mul_add, Nat.add_mul, ← Nat.add_assoc]
  congr 1
  rw [Nat.mul_comm (4294967296 ^ k), ← Nat.mul_assoc, Nat.mul_assoc, Nat.mul_comm (4294967296 ^ k)]
theorem mv_div (v0 xi y i k : Nat) : mvV v0 xi y i (k + 1) / 4294967296 ^ (i + k) = mvN v0 xi y i k + 4294967296 * (v0 / 4294967296 ^ (i + k + 1)) := by
  have h1 : v0 / 4294967296 ^ (i + k) ≤ mvV v0 xi y i k / 4294967296 ^ (i + k) := Nat.div_le_div_right (by unfold mvV; omega)
  rw [mvV_succ, Nat.add_mul_div_right _ _ (pB _)]
  unfold mvN mvC
  have h2 := div_step v0 (i + k)
  omega
theorem mv_limb (v0 xi y i k : Nat) : lm (mvV v0 xi y i (k + 1)) (i + k) = mvN v0 xi y i k % 4294967296 := by
  unfold lm; rw [mv_div]; omega
theorem mv_carry (v0 xi y i k : Nat) : mvC v0 xi y i (k + 1) = mvN v0 xi y i k / 4294967296 := by
  have e : i + (k + 1) = i + k + 1 := by omega
  unfold mvC
  rw [e, Nat.pow_succ, ← Nat.div_div_eq_div_mul, mv_div, ← Nat.div_div_eq_div_mul, Nat.pow_succ, ← Nat.div_div_eq_div_mul]
  omega
theorem mv_low {v0 xi y i k j : Nat} (h : j < i + k) : lm (mvV v0 xi y i (k + 1)) j = lm (mvV v0 xi y i k) j := by
  rw [mvV_succ, lm_add_mul h]
theorem mv_bound {v0 xi y i k : Nat} (hx : xi < 4294967296) (hc : mvC v0 xi y i k < 4294967296) : mvN v0 xi y i k < 18446744073709551616 ∧ mvC v0 xi y i (k + 1) < 4294967296 := by
  have h1 := lm_lt y k
  have h2 := lm_lt v0 (i + k)
  have h3 : xi * lm y k ≤ 4294967295 * 4294967295 := Nat.mul_le_mul (by omega) (by omega)
  rw [mv_carry]
  have hN : mvN v0 xi y i k < 18446744073709551616 := by unfold mvN; omega
  exact ⟨hN, by omega⟩
theorem mv_row {x y i ky : Nat} (hy : y < 4294967296 ^ ky) : mvV (x % 4294967296 ^ i * y) (lm x i) y i ky = x % 4294967296 ^ (i + 1) * y := by
  unfold mvV
  rw [Nat.mod_eq_of_lt hy, mod_step, Nat.add_mul]
  congr 1
  rw [Nat.mul_comm, Nat.mul_assoc]
theorem mv_rowlt {x y i ky : Nat} (hy : y < 4294967296 ^ ky) : x % 4294967296 ^ i * y < 4294967296 ^ (i + ky) := by
  rw [Nat.pow_add]
  exact Nat.mul_lt_mul'' (Nat.mod_lt _ (pB _)) hy
theorem mv_top {x y i ky : Nat} (hy : y < 4294967296 ^ ky) : mvC (x % 4294967296 ^ i * y) (lm x i) y i ky = lm (x % 4294967296 ^ (i + 1) * y) (i + ky) := by
  unfold mvC
  rw [mv_row hy, Nat.div_eq_of_lt (mv_rowlt hy), Nat.sub_zero, lm_top]
  have := mv_rowlt (x := x) (i := i + 1) hy
  rw [show i + ky + 1 = i + 1 + ky by omega]; exact this
theorem sh_rest (n d i : Nat) : n / 4294967296 ^ i % d = (n / 4294967296 ^ (i + 1) % d * 4294967296 + lm n i) % d := by
  rw [div_step n i]
  generalize n / 4294967296 ^ (i + 1) = Q
  have : (Q * 4294967296) % d = (Q % d * 4294967296) % d := by rw [Nat.mul_mod, Nat.mul_mod (Q % d) 4294967296, Nat.mod_mod]
  rw [Nat.mul_comm 4294967296, Nat.add_mod, this, ← Nat.add_mod]
theorem sh_quo {n d i : Nat} (hd : 0 < d) : lm (n / d) i = (n / 4294967296 ^ (i + 1) % d * 4294967296 + lm n i) / d ∧ (n / 4294967296 ^ (i + 1) % d * 4294967296 + lm n i) / d < 4294967296 := by
  have hr := Nat.mod_lt (n / 4294967296 ^ (i + 1)) hd
  have hl := lm_lt n i
  have e0 : lm (n / d) i = n / 4294967296 ^ i / d % 4294967296 := by
    unfold lm; rw [Nat.div_div_eq_div_mul, Nat.mul_comm d, ← Nat.div_div_eq_div_mul]
  rw [e0, div_step n i]
  generalize lm n i = l at *
  have hd1 := Nat.div_add_mod (n / 4294967296 ^ (i + 1)) d
  generalize n / 4294967296 ^ (i + 1) = Q at *
  have hz : (Q % d * 4294967296 + l) / d < 4294967296 := by
    rw [Nat.div_lt_iff_lt_mul hd]
    have : (Q % d + 1) * 4294967296 ≤ d * 4294967296 := Nat.mul_le_mul_right _ hr
    rw [Nat.add_mul] at this
    rw [Nat.mul_comm _ d]
    omega
  have e : 4294967296 * Q + l = d * (4294967296 * (Q / d)) + (Q % d * 4294967296 + l) := by
    conv => lhs; rw [← hd1]
    rw [Nat.mul_add, ← Nat.mul_assoc, ← Nat.mul_assoc, Nat.mul_comm d 4294967296]; omega
  refine ⟨?_, hz⟩
  rw [e, Nat.mul_add_div hd, Nat.mul_add_mod, Nat.mod_eq_of_lt hz]
theorem shl_limb {n s i : Nat} (hs : s < 32) :
    (∀ j, lm (n % 4294967296 ^ (i + 1) * 2 ^ s) j = if j = i + 1 then lm n i * 2 ^ s / 4294967296 else if j = i then lm (n % 4294967296 ^ i * 2 ^ s) i + lm n i * 2 ^ s % 4294967296 else lm (n % 4294967296 ^ i * 2 ^ s) j) ∧
    lm (n % 4294967296 ^ i * 2 ^ s) i < 2 ^ s ∧ lm n i * 2 ^ s % 4294967296 = (lm n i * 2 ^ s % 4294967296) / 2 ^ s * 2 ^ s ∧ lm (n % 4294967296 ^ i * 2 ^ s) i + lm n i * 2 ^ s % 4294967296 < 4294967296 := by
  have hS : 4294967296 = 2 ^ (32 - s) * 2 ^ s := by rw [← Nat.pow_add, show 32 - s + s = 32 by omega]
  have hS0 : 0 < 2 ^ s := Nat.pow_pos (by omega)
  have hm := Nat.mod_lt n (pB i)
  have hx := lm_lt n i
  have e0 : lm n i * 2 ^ s % 4294967296 = lm n i % 2 ^ (32 - s) * 2 ^ s := by
    conv => lhs; rw [hS]
    rw [Nat.mul_mod_mul_right]
  have hT : 2 ^ s ≤ 4294967296 := by conv => rhs; rw [hS]
                                     exact Nat.le_mul_of_pos_left _ (Nat.pow_pos (by omega))
  have hlo : n % 4294967296 ^ i * 2 ^ s < 4294967296 ^ i * 2 ^ s := Nat.mul_lt_mul_of_pos_right hm hS0
  have hlo1 : n % 4294967296 ^ i * 2 ^ s < 4294967296 ^ (i + 1) := by rw [Nat.pow_succ]; exact Nat.lt_of_lt_of_le hlo (Nat.mul_le_mul_left _ hT)
  have h1 : lm (n % 4294967296 ^ i * 2 ^ s) i < 2 ^ s := by
    rw [lm_top hlo1]; exact Nat.div_lt_of_lt_mul hlo
  have h2 : lm n i % 2 ^ (32 - s) * 2 ^ s + 2 ^ s ≤ 4294967296 := by
    have := Nat.mul_le_mul_right (2 ^ s) (Nat.mod_lt (lm n i) (Nat.pow_pos (n := 32 - s) (show 0 < 2 by omega)))
    rw [Nat.succ_mul, ← hS] at this
    exact this
  refine ⟨fun j => ?_, h1, ?_, ?_⟩
  · have e : n % 4294967296 ^ (i + 1) * 2 ^ s = n % 4294967296 ^ i * 2 ^ s + lm n i * 2 ^ s * 4294967296 ^ i := by
      rw [mod_step, Nat.add_mul, Nat.mul_assoc, Nat.mul_comm (4294967296 ^ i)]
    have ediv : (n % 4294967296 ^ i * 2 ^ s + lm n i * 2 ^ s * 4294967296 ^ i) / 4294967296 ^ i = lm (n % 4294967296 ^ i * 2 ^ s) i + lm n i * 2 ^ s := by
      rw [Nat.add_mul_div_right _ _ (pB i), lm_top hlo1]
    rw [e]
    rcases Nat.lt_trichotomy j i with g | g | g
    · rw [if_neg (by omega), if_neg (by omega), lm_add_mul g]
    · subst g
      rw [if_neg (by omega), if_pos rfl]
      have e9 : ∀ W, lm W j = W / 4294967296 ^ j % 4294967296 := fun W => rfl
      rw [e9, ediv]
      have : lm (n % 4294967296 ^ j * 2 ^ s) j + lm n j * 2 ^ s % 4294967296 < 4294967296 := by rw [e0]; omega
      omega
    · by_cases g2 : j = i + 1
      · rw [if_pos g2, g2]
        have e9 : ∀ W, lm W (i + 1) = W / 4294967296 ^ i / 4294967296 % 4294967296 := fun W => by unfold lm; rw [Nat.pow_succ, ← Nat.div_div_eq_div_mul]
        rw [e9, ediv]
        have q1 : lm n i * 2 ^ s < 4294967296 * 4294967296 := Nat.mul_lt_mul_of_lt_of_le hx hT (by omega)
        have q2 : lm n i * 2 ^ s % 4294967296 + 2 ^ s ≤ 4294967296 := by rw [e0]; exact h2
        omega
      · rw [if_neg g2, if_neg (by omega)]
        have hhi : n % 4294967296 ^ i * 2 ^ s + lm n i * 2 ^ s * 4294967296 ^ i < 4294967296 ^ (i + 2) := by
          have e8 : 4294967296 ^ (i + 2) = 4294967296 ^ (i + 1) * 4294967296 := Nat.pow_succ _ _
          rw [← e, e8]
          exact Nat.mul_lt_mul_of_lt_of_le (Nat.mod_lt _ (pB _)) hT (by omega)
        rw [lm_of_lt' hhi (by omega), lm_of_lt' hlo1 (by omega)]
  · rw [e0, Nat.mul_div_cancel _ hS0]
  · rw [e0]; omega
theorem shr_limb {n s i : Nat} (hs : s < 32) : lm (n / 2 ^ s) i = (lm n i + lm n (i + 1) * 4294967296) / 2 ^ s % 4294967296 := by
  have e : n / 4294967296 ^ i = 4294967296 * 4294967296 * (n / 4294967296 ^ (i + 2)) + (lm n i + lm n (i + 1) * 4294967296) := by
    have h1 := div_step n i
    have h2 := div_step n (i + 1)
    rw [show i + 2 = i + 1 + 1 from rfl]
    omega
  have hS : 4294967296 = 2 ^ s * 2 ^ (32 - s) := by rw [← Nat.pow_add, show s + (32 - s) = 32 by omega]
  have hS0 : 0 < 2 ^ s := Nat.pow_pos (by omega)
  have e0 : lm (n / 2 ^ s) i = n / 4294967296 ^ i / 2 ^ s % 4294967296 := by
    unfold lm; rw [Nat.div_div_eq_div_mul, Nat.mul_comm, ← Nat.div_div_eq_div_mul]
  rw [e0, e]
  have e2 : 4294967296 * 4294967296 * (n / 4294967296 ^ (i + 2)) = 2 ^ s * (4294967296 * (2 ^ (32 - s) * (n / 4294967296 ^ (i + 2)))) := by
    rw [← Nat.mul_assoc, ← Nat.mul_assoc, Nat.mul_comm (2 ^ s), Nat.mul_assoc 4294967296 (2 ^ s), ← hS]
  rw [e2, Nat.mul_add_div hS0, Nat.mul_add_mod]
end Go.Eng
end
section
set_option linter.unusedVariables false
set_option linter.unusedSimpArgs false
set_option linter.unusedSectionVars false
set_option maxRecDepth 4000
namespace Go.Eng
open Go Go.Proofs Go.IntWalk
def spNMul : List Value → Option Value
  | [.string ⟨⟨l⟩⟩, .string ⟨⟨m⟩⟩] => if l.length ≤ 34359738368 ∧ m.length ≤ 34359738368 then some (.string ⟨⟨bl (nl l * nl m)⟩⟩) else none
  | _ => none
def c53 : ICode :=
  (.seq (.reg [⟨(some 4), none, (.mv (.c (.string ⟨⟨[]⟩⟩)))⟩])
  (.seq (.reg [⟨(some 12), none, (.mv (.t 0))⟩, ⟨(some 13), none, (.call 65 [(.t 12)])⟩, ⟨(some 14), none, (.mv (.t 1))⟩, ⟨(some 15), none, (.call 65 [(.t 14)])⟩, ⟨(some 5), none, (.mv (.t 13))⟩, ⟨(some 6), none, (.mv (.t 15))⟩])
  (.seq (.reg [⟨(some 16), none, (.mv (.t 5))⟩, ⟨(some 17), none, (.lensl (.t 16))⟩, ⟨(some 18), none, (.mv (.t 6))⟩, ⟨(some 19), none, (.lensl (.t 18))⟩, ⟨(some 20), none, (.bin .add (.t 17) (.t 19))⟩, ⟨(some 21), none, (.mkslice 80 1 4 [(.int .u32 0)] (.t 20) (.t 20))⟩, ⟨(some 7), none, (.mv (.t 21))⟩])
  (.seq (.seq (.reg [⟨(some 22), none, (.mv (.t 5))⟩, ⟨(some 23), none, (.lensl (.t 22))⟩, ⟨(some 24), none, (.mv (.c (.int .i64 0)))⟩])
  (.block 0 (.loop (.seq (.reg [⟨(some 25), none, (.bin .lss (.t 24) (.t 23))⟩])
  (.seq (.cond (.t 25)
  .skip
  (.exit 0))
  (.seq (.block 1 (.seq (.reg [⟨(some 26), none, (.mv (.t 24))⟩, ⟨(some 8), none, (.mv (.t 26))⟩])
  (.seq (.reg [⟨(some 9), none, (.mv (.c (.int .u64 0)))⟩])
  (.seq (.seq (.reg [⟨(some 27), none, (.mv (.t 6))⟩, ⟨(some 28), none, (.lensl (.t 27))⟩, ⟨(some 29), none, (.mv (.c (.int .i64 0)))⟩])
  (.block 2 (.loop (.seq (.reg [⟨(some 30), none, (.bin .lss (.t 29) (.t 28))⟩])
  (.seq (.cond (.t 30)
  .skip
  (.exit 2))
  (.seq (.block 3 (.seq (.reg [⟨(some 31), none, (.mv (.t 29))⟩, ⟨(some 10), none, (.mv (.t 31))⟩])
  (.seq (.dreg [⟨(some 32), none, [], (.mv (.t 5))⟩, ⟨(some 33), none, [], (.mv (.t 8))⟩, ⟨(some 34), none, [], (.ixsl 1 (.t 32) (.t 33))⟩, ⟨(some 35), none, [], (.load false 1 (.t 34))⟩, ⟨(some 36), none, [], (.conv .u64 (.t 35))⟩, ⟨(some 37), none, [], (.mv (.t 6))⟩, ⟨(some 38), none, [], (.mv (.t 10))⟩, ⟨(some 39), none, [], (.ixsl 1 (.t 37) (.t 38))⟩, ⟨(some 40), none, [], (.load false 1 (.t 39))⟩, ⟨(some 41), none, [], (.conv .u64 (.t 40))⟩, ⟨(some 42), none, [], (.bin .mul (.t 36) (.t 41))⟩, ⟨(some 43), none, [], (.mv (.t 7))⟩, ⟨(some 44), none, [], (.mv (.t 8))⟩, ⟨(some 45), none, [], (.mv (.t 10))⟩, ⟨(some 46), none, [], (.bin .add (.t 44) (.t 45))⟩, ⟨(some 47), none, [], (.ixsl 1 (.t 43) (.t 46))⟩, ⟨(some 48), none, [], (.load false 1 (.t 47))⟩, ⟨(some 49), none, [], (.conv .u64 (.t 48))⟩, ⟨(some 50), none, [], (.bin .add (.t 42) (.t 49))⟩, ⟨(some 51), none, [], (.mv (.t 9))⟩, ⟨(some 52), none, [], (.bin .add (.t 50) (.t 51))⟩, ⟨(some 11), none, [], (.mv (.t 52))⟩])
  (.reg [⟨(some 53), none, (.mv (.t 7))⟩, ⟨(some 54), none, (.mv (.t 8))⟩, ⟨(some 55), none, (.mv (.t 10))⟩, ⟨(some 56), none, (.bin .add (.t 54) (.t 55))⟩, ⟨(some 57), none, (.mv (.t 11))⟩, ⟨(some 58), none, (.conv .u32 (.t 57))⟩, ⟨(some 59), none, (.mv (.t 11))⟩, ⟨(some 60), none, (.bin .shr (.t 59) (.c (.int .u64 32)))⟩, ⟨(some 61), none, (.ixsl 1 (.t 53) (.t 56))⟩, ⟨none, none, (.store 1 (.t 61) (.t 58))⟩, ⟨(some 9), none, (.mv (.t 60))⟩]))))
  (.reg [⟨(some 62), none, (.bin .add (.t 29) (.c (.int .i64 1)))⟩, ⟨(some 29), none, (.mv (.t 62))⟩])))))))
  (.reg [⟨(some 63), none, (.mv (.t 7))⟩, ⟨(some 64), none, (.mv (.t 8))⟩, ⟨(some 65), none, (.mv (.t 6))⟩, ⟨(some 66), none, (.lensl (.t 65))⟩, ⟨(some 67), none, (.bin .add (.t 64) (.t 66))⟩, ⟨(some 68), none, (.mv (.t 9))⟩, ⟨(some 69), none, (.conv .u32 (.t 68))⟩, ⟨(some 70), none, (.ixsl 1 (.t 63) (.t 67))⟩, ⟨none, none, (.store 1 (.t 70) (.t 69))⟩])))))
  (.reg [⟨(some 71), none, (.bin .add (.t 24) (.c (.int .i64 1)))⟩, ⟨(some 24), none, (.mv (.t 71))⟩])))))))
  (.seq (.reg [⟨(some 72), none, (.mv (.t 7))⟩, ⟨(some 73), none, (.call 59 [(.t 72)])⟩, ⟨(some 4), none, (.mv (.t 73))⟩])
  .ret)))))
theorem tr53 : trFun Tryd.prog 53 = some ⟨74, [.t 4], c53⟩ := by kernel_rfl
set_option maxHeartbeats 1000000 in
theorem ok_nMul : SpecOK Tryd.prog 53 (flat spNMul) := by
  refine flat_run (env_cons ok_nlimbs (env_cons ok_nmag (env_nil _))) mixed tr53 ?_
  intro args v h N hG
  unfold spNMul at hG
  split at hG
  case h_2 => cases hG
  rename_i l m
  split at hG
  case isFalse => cases hG
  rename_i hl
  obtain ⟨hl, hm⟩ := hl
  cases hG
  refine ⟨rfl, by simp, ?_⟩
  have hL : lk (nl l) ≤ 8589934592 := lk_len (Nat.le_trans (bl_length_nl l) (by omega))
  have hM : lk (nl m) ≤ 8589934592 := lk_len (Nat.le_trans (bl_length_nl m) (by omega))
  have hl' : l.length ≤ 1099511627776 := by omega
  have hm' : m.length ≤ 1099511627776 := by omega
  have hx := lk_lt (nl l)
  have hy := lk_lt (nl m)
  generalize ha : nl l = x at *
  generalize hb : nl m = y at *
  have g1 : IntKind.i64.wrap ((lk x : Int) + (lk y : Int)) = ((lk x + lk y : Nat) : Int) := by rw [i64_in _ (by omega)]; omega
  have g2 : 4 * ((lk x + lk y : Nat) : Int) ≤ 281474976710656 := by omega
  have g3 : ((lk x + lk y : Nat) : Int) ≤ 9223372036854775807 := by omega
  simp only [c53, initT, List.zipIdx_cons, List.zipIdx_nil, List.map_cons, List.map_nil, Nat.reduceAdd]
  simp only [↓R0, R1, rdL, rdH, isCall, istep, ibin, vcells, fillI, setR, flat, okCell, isBase, List.set, List.drop, List.take, List.append, bnds, bhi, blo, srcOf, ↓reduceIte, Nat.reduceEqDiff, Nat.reduceAdd, Nat.reduceLeDiff, reduceCtorEq, Nat.reduceSub, Int.reduceEq, Int.reduceLT, Int.reduceLE, Int.reduceGT, Int.reduceGE, Int.reduceSub, Int.reduceAdd, Int.reduceMul, Int.reduceNe, Int.reduceNeg, Int.reduceToNat, Nat.reduceMul, nwS, spLimbs, hl', hm', ha, hb, g1, g2, g3, tb_rep]
  clear g1 g2 g3
  generalize hkx : lk x = kx at *
  generalize hky : lk y = ky at *
  refine lp_parts (fun m tm hp nx => ∃ (i : Nat), m + i = kx ∧ tmget tm 5 = .slice (some ⟨N + 0, 0, none⟩) kx kx ∧ tmget tm 6 = .slice (some ⟨N + 1, 0, none⟩) ky ky ∧
      tmget tm 7 = .slice (some ⟨N + 2, 0, none⟩) (kx + ky) (kx + ky) ∧ tmget tm 23 = .int .i64 kx ∧ tmget tm 24 = .int .i64 i ∧
      hget hp (N + 0) = some ⟨80, 1, false, tb kx (lm x)⟩ ∧ hget hp (N + 1) = some ⟨80, 1, false, tb ky (lm y)⟩ ∧
      hget hp (N + 2) = some ⟨80, 1, false, tb (kx + ky) (lm (x % 4294967296 ^ i * y))⟩ ∧ (∀ q, q < N → hget hp q = hget h q) ∧ nx = N + 3) ?_ kx
    ⟨0, by omega, ?_, ?_, ?_, ?_, ?_, ?_, ?_, ?_, ?_, rfl⟩
  · intro m tm hp nx ⟨i, hm, h5, h6, h7, h23, h24, hb1, hb2, hb3, hh, hnx⟩
    subst hnx
    by_cases c1 : i < kx
    · have ex : IntKind.i64.wrap ((i : Int) + 1) = ((i + 1 : Nat) : Int) := by rw [i64_in _ (by omega)]; omega
      simp only [↓R0, R1, rdL, rdH, isCall, istep, ibin, vcells, fillI, setR, flat, okCell, isBase, List.set, List.drop, List.take, List.append, bnds, bhi, blo, srcOf, ↓reduceIte, Nat.reduceEqDiff, Nat.reduceAdd, Nat.reduceLeDiff, reduceCtorEq, Nat.reduceSub, Int.reduceEq, Int.reduceLT, Int.reduceLE, Int.reduceGT, Int.reduceGE, Int.reduceSub, Int.reduceAdd, Int.reduceMul, Int.reduceNe, Int.reduceNeg, Int.reduceToNat, Nat.reduceMul, h5, h6, h7, h23, h24, hb1, hb2, hb3, c1]
      refine lp_parts (fun m2 tm hp nx => ∃ (k : Nat) (f : Nat → Nat), m2 + k = ky ∧ tmget tm 5 = .slice (some ⟨N + 0, 0, none⟩) kx kx ∧ tmget tm 6 = .slice (some ⟨N + 1, 0, none⟩) ky ky ∧
        tmget tm 7 = .slice (some ⟨N + 2, 0, none⟩) (kx + ky) (kx + ky) ∧ tmget tm 23 = .int .i64 kx ∧ tmget tm 24 = .int .i64 i ∧ tmget tm 8 = .int .i64 i ∧ tmget tm 28 = .int .i64 ky ∧ tmget tm 29 = .int .i64 k ∧
        tmget tm 9 = .int .u64 (mvC (x % 4294967296 ^ i * y) (lm x i) y i k : Nat) ∧ mvC (x % 4294967296 ^ i * y) (lm x i) y i k < 4294967296 ∧
        hget hp (N + 0) = some ⟨80, 1, false, tb kx (lm x)⟩ ∧ hget hp (N + 1) = some ⟨80, 1, false, tb ky (lm y)⟩ ∧
        hget hp (N + 2) = some ⟨80, 1, false, tb (kx + ky) f⟩ ∧ (∀ j, f j = if j < i + k then lm (mvV (x % 4294967296 ^ i * y) (lm x i) y i k) j else lm (x % 4294967296 ^ i * y) j) ∧
        (∀ q, q < N → hget hp q = hget h q) ∧ nx = N + 3) ?_ ky
        ⟨0, _, by omega, ?_, ?_, ?_, ?_, ?_, ?_, ?_, ?_, ?_, ?_, hb1, hb2, hb3, fun j => ?_, hh, rfl⟩
      · clear h5 h6 h7 h23 h24 hb1 hb2 hb3 hh
        clear tm hp
        intro m2 tm hp nx ⟨k, f, hm2, h5, h6, h7, h23, h24, h8, h28, h29, h9, hc, hb1, hb2, hb3, hf, hh, hnx⟩
        subst hnx
        by_cases c2 : k < ky
        · obtain ⟨hN, hc'⟩ := mv_bound (v0 := x % 4294967296 ^ i * y) (y := y) (i := i) (k := k) (lm_lt x i) hc
          have hfk : f (i + k) = lm (x % 4294967296 ^ i * y) (i + k) := by rw [hf, if_neg (by omega)]
          have hNd : mvN (x % 4294967296 ^ i * y) (lm x i) y i k = lm x i * lm y k + f (i + k) + mvC (x % 4294967296 ^ i * y) (lm x i) y i k := by rw [hfk]; rfl
          have hcar := mv_carry (x % 4294967296 ^ i * y) (lm x i) y i k
          have hlim := mv_limb (x % 4294967296 ^ i * y) (lm x i) y i k
          have hlow : ∀ j, j < i + k → lm (mvV (x % 4294967296 ^ i * y) (lm x i) y i (k + 1)) j = lm (mvV (x % 4294967296 ^ i * y) (lm x i) y i k) j := fun j h => mv_low h
          generalize hC : mvC (x % 4294967296 ^ i * y) (lm x i) y i k = C at *
          generalize hNN : mvN (x % 4294967296 ^ i * y) (lm x i) y i k = W at *
          have bx := lm_lt x i
          have b_y := lm_lt y k
          have bf : f (i + k) < 4294967296 := by rw [hfk]; exact lm_lt _ _
          have bxy : lm x i * lm y k ≤ 4294967295 * 4294967295 := Nat.mul_le_mul (by omega) (by omega)
          have w1 := u64_nat (n := lm x i) (by omega)
          have w2 := u64_nat (n := lm y k) (by omega)
          have w3 := u64_nat (n := f (i + k)) (by omega)
          have w4 : IntKind.u64.wrap ((lm x i : Int) * (lm y k : Int)) = ((lm x i * lm y k : Nat) : Int) := by rw [← Int.natCast_mul, u64_nat (by omega)]
          have w5 : IntKind.u64.wrap (((lm x i * lm y k : Nat) : Int) + (f (i + k) : Int)) = ((lm x i * lm y k + f (i + k) : Nat) : Int) := by rw [← Int.natCast_add, u64_nat (by omega)]
          have w6 : IntKind.u64.wrap (((lm x i * lm y k + f (i + k) : Nat) : Int) + (C : Int)) = (W : Int) := by rw [← Int.natCast_add, hNd, u64_nat (by omega)]
          have w7 := u32_mod W
          have w8 : (W : Int).fdiv (2 ^ min 32 IntKind.u64.bits) = ((W / 4294967296 : Nat) : Int) := by
            have : (2 : Int) ^ min 32 IntKind.u64.bits = 4294967296 := rfl
            rw [this, Int.fdiv_eq_ediv_of_nonneg _ (by omega)]; omega
          have e1 : IntKind.i64.wrap ((i : Int) + (k : Int)) = ((i + k : Nat) : Int) := by rw [i64_in _ (by omega)]; omega
          have e2 : IntKind.i64.wrap ((k : Int) + 1) = ((k + 1 : Nat) : Int) := by rw [i64_in _ (by omega)]; omega
          have k1 := tb_get' (lm x) c1
          have k2 := tb_get' (lm y) c2
          have c3 : i + k < kx + ky := by omega
          have c3' : i + k + 1 ≤ kx + ky := by omega
          have k3 := tb_get' f c3
          simp only [↓R0, R1, rdL, rdH, isCall, istep, ibin, vcells, fillI, setR, flat, okCell, isBase, List.set, List.drop, List.take, List.append, bnds, bhi, blo, srcOf, ↓reduceIte, Nat.reduceEqDiff, Nat.reduceAdd, Nat.reduceLeDiff, reduceCtorEq, Nat.reduceSub, Int.reduceEq, Int.reduceLT, Int.reduceLE, Int.reduceGT, Int.reduceGE, Int.reduceSub, Int.reduceAdd, Int.reduceMul, Int.reduceNe, Int.reduceNeg, Int.reduceToNat, Nat.reduceMul, h5, h6, h7, h23, h24, h8, h28, h29, h9, hb1, hb2, hb3, c1, c2, c3, c3', k1, k2, k3, w1, w2, w3, w4, w5, w6, w7, w8, e1, e2, tb_length, tb_set]
          refine ⟨m2 - 1, by omega, k + 1, _, by omega, rfl, ?_, ?_, rfl, fun j => ?_, ?_⟩
          · rw [hcar]
          · exact hc'
          · by_cases g : j = i + k
            · rw [if_pos g, if_pos (by omega), g, hlim]
            · rw [if_neg g, hf j]
              by_cases g2 : j < i + k
              · rw [if_pos g2, if_pos (by omega), hlow j g2]
              · rw [if_neg g2, if_neg (by omega)]
          · intro q hq
            simp only [if_neg (show ¬ N + 2 = q by omega)]
            exact hh q hq
        · have ek : k = ky := by omega
          subst ek
          have hy' : y < 4294967296 ^ k := by rw [← hky]; exact lk_lt y
          have w1 := u32_nat hc
          have e1 : IntKind.i64.wrap ((i : Int) + (k : Int)) = ((i + k : Nat) : Int) := by rw [i64_in _ (by omega)]; omega
          have c3 : i + k < kx + k := by omega
          have c3' : i + k + 1 ≤ kx + k := by omega
          simp only [↓R0, R1, rdL, rdH, isCall, istep, ibin, vcells, fillI, setR, flat, okCell, isBase, List.set, List.drop, List.take, List.append, bnds, bhi, blo, srcOf, ↓reduceIte, Nat.reduceEqDiff, Nat.reduceAdd, Nat.reduceLeDiff, reduceCtorEq, Nat.reduceSub, Int.reduceEq, Int.reduceLT, Int.reduceLE, Int.reduceGT, Int.reduceGE, Int.reduceSub, Int.reduceAdd, Int.reduceMul, Int.reduceNe, Int.reduceNeg, Int.reduceToNat, Nat.reduceMul, h5, h6, h7, h23, h24, h8, h28, h29, h9, hb1, hb2, hb3, c1, c2, c3, c3', w1, e1, ex, tb_length, tb_set]
          refine ⟨m - 1, by omega, i + 1, by omega, rfl, ?_, ?_⟩
          · congr 2
            apply tb_congr
            intro j hj
            by_cases g : j = i + k
            · rw [if_pos g, mv_top hy', g]
            · rw [if_neg g, hf j]
              by_cases g2 : j < i + k
              · rw [if_pos g2, mv_row hy']
              · rw [if_neg g2, lm_of_lt' (mv_rowlt hy') (by omega), lm_of_lt' (mv_rowlt hy') (by omega)]
          · intro q hq
            simp only [if_neg (show ¬ N + 2 = q by omega)]
            exact hh q hq
      · (first | (simp only [↓R0, R1, rdL, rdH, isCall, istep, ibin, vcells, fillI, setR, flat, okCell, isBase, List.set, List.drop, List.take, List.append, bnds, bhi, blo, srcOf, ↓reduceIte, Nat.reduceEqDiff, Nat.reduceAdd, Nat.reduceLeDiff, reduceCtorEq, Nat.reduceSub, Int.reduceEq, Int.reduceLT, Int.reduceLE, Int.reduceGT, Int.reduceGE, Int.reduceSub, Int.reduceAdd, Int.reduceMul, Int.reduceNe, Int.reduceNeg, Int.reduceToNat, Nat.reduceMul, h5]; done) | (simp only [↓R0, R1, rdL, rdH, isCall, istep, ibin, vcells, fillI, setR, flat, okCell, isBase, List.set, List.drop, List.take, List.append, bnds, bhi, blo, srcOf, ↓reduceIte, Nat.reduceEqDiff, Nat.reduceAdd, Nat.reduceLeDiff, reduceCtorEq, Nat.reduceSub, Int.reduceEq, Int.reduceLT, Int.reduceLE, Int.reduceGT, Int.reduceGE, Int.reduceSub, Int.reduceAdd, Int.reduceMul, Int.reduceNe, Int.reduceNeg, Int.reduceToNat, Nat.reduceMul, h5]; rfl) | rfl)
      · (first | (simp only [↓R0, R1, rdL, rdH, isCall, istep, ibin, vcells, fillI, setR, flat, okCell, isBase, List.set, List.drop, List.take, List.append, bnds, bhi, blo, srcOf, ↓reduceIte, Nat.reduceEqDiff, Nat.reduceAdd, Nat.reduceLeDiff, reduceCtorEq, Nat.reduceSub, Int.reduceEq, Int.reduceLT, Int.reduceLE, Int.reduceGT, Int.reduceGE, Int.reduceSub, Int.reduceAdd, Int.reduceMul, Int.reduceNe, Int.reduceNeg, Int.reduceToNat, Nat.reduceMul, h6]; done) | (simp only [↓R0, R1, rdL, rdH, isCall, istep, ibin, vcells, fillI, setR, flat, okCell, isBase, List.set, List.drop, List.take, List.append, bnds, bhi, blo, srcOf, ↓reduceIte, Nat.reduceEqDiff, Nat.reduceAdd, Nat.reduceLeDiff, reduceCtorEq, Nat.reduceSub, Int.reduceEq, Int.reduceLT, Int.reduceLE, Int.reduceGT, Int.reduceGE, Int.reduceSub, Int.reduceAdd, Int.reduceMul, Int.reduceNe, Int.reduceNeg, Int.reduceToNat, Nat.reduceMul, h6]; rfl) | rfl)
      · (first | (simp only [↓R0, R1, rdL, rdH, isCall, istep, ibin, vcells, fillI, setR, flat, okCell, isBase, List.set, List.drop, List.take, List.append, bnds, bhi, blo, srcOf, ↓reduceIte, Nat.reduceEqDiff, Nat.reduceAdd, Nat.reduceLeDiff, reduceCtorEq, Nat.reduceSub, Int.reduceEq, Int.reduceLT, Int.reduceLE, Int.reduceGT, Int.reduceGE, Int.reduceSub, Int.reduceAdd, Int.reduceMul, Int.reduceNe, Int.reduceNeg, Int.reduceToNat, Nat.reduceMul, h7]; done) | (simp only [↓R0, R1, rdL, rdH, isCall, istep, ibin, vcells, fillI, setR, flat, okCell, isBase, List.set, List.drop, List.take, List.append, bnds, bhi, blo, srcOf, ↓reduceIte, Nat.reduceEqDiff, Nat.reduceAdd, Nat.reduceLeDiff, reduceCtorEq, Nat.reduceSub, Int.reduceEq, Int.reduceLT, Int.reduceLE, Int.reduceGT, Int.reduceGE, Int.reduceSub, Int.reduceAdd, Int.reduceMul, Int.reduceNe, Int.reduceNeg, Int.reduceToNat, Nat.reduceMul, h7]; rfl) | rfl)
      · (first | (simp only [↓R0, R1, rdL, rdH, isCall, istep, ibin, vcells, fillI, setR, flat, okCell, isBase, List.set, List.drop, List.take, List.append, bnds, bhi, blo, srcOf, ↓reduceIte, Nat.reduceEqDiff, Nat.reduceAdd, Nat.reduceLeDiff, reduceCtorEq, Nat.reduceSub, Int.reduceEq, Int.reduceLT, Int.reduceLE, Int.reduceGT, Int.reduceGE, Int.reduceSub, Int.reduceAdd, Int.reduceMul, Int.reduceNe, Int.reduceNeg, Int.reduceToNat, Nat.reduceMul, h23]; done) | (simp only [↓R0, R1, rdL, rdH, isCall, istep, ibin, vcells, fillI, setR, flat, okCell, isBase, List.set, List.drop, List.take, List.append, bnds, bhi, blo, srcOf, ↓reduceIte, Nat.reduceEqDiff, Nat.reduceAdd, Nat.reduceLeDiff, reduceCtorEq, Nat.reduceSub, Int.reduceEq, Int.reduceLT, Int.reduceLE, Int.reduceGT, Int.reduceGE, Int.reduceSub, Int.reduceAdd, Int.reduceMul, Int.reduceNe, Int.reduceNeg, Int.reduceToNat, Nat.reduceMul, h23]; rfl) | rfl)
      · (first | (simp only [↓R0, R1, rdL, rdH, isCall, istep, ibin, vcells, fillI, setR, flat, okCell, isBase, List.set, List.drop, List.take, List.append, bnds, bhi, blo, srcOf, ↓reduceIte, Nat.reduceEqDiff, Nat.reduceAdd, Nat.reduceLeDiff, reduceCtorEq, Nat.reduceSub, Int.reduceEq, Int.reduceLT, Int.reduceLE, Int.reduceGT, Int.reduceGE, Int.reduceSub, Int.reduceAdd, Int.reduceMul, Int.reduceNe, Int.reduceNeg, Int.reduceToNat, Nat.reduceMul, h24]; done) | (simp only [↓R0, R1, rdL, rdH, isCall, istep, ibin, vcells, fillI, setR, flat, okCell, isBase, List.set, List.drop, List.take, List.append, bnds, bhi, blo, srcOf, ↓reduceIte, Nat.reduceEqDiff, Nat.reduceAdd, Nat.reduceLeDiff, reduceCtorEq, Nat.reduceSub, Int.reduceEq, Int.reduceLT, Int.reduceLE, Int.reduceGT, Int.reduceGE, Int.reduceSub, Int.reduceAdd, Int.reduceMul, Int.reduceNe, Int.reduceNeg, Int.reduceToNat, Nat.reduceMul, h24]; rfl) | rfl)
      · (first | (simp only [↓R0, R1, rdL, rdH, isCall, istep, ibin, vcells, fillI, setR, flat, okCell, isBase, List.set, List.drop, List.take, List.append, bnds, bhi, blo, srcOf, ↓reduceIte, Nat.reduceEqDiff, Nat.reduceAdd, Nat.reduceLeDiff, reduceCtorEq, Nat.reduceSub, Int.reduceEq, Int.reduceLT, Int.reduceLE, Int.reduceGT, Int.reduceGE, Int.reduceSub, Int.reduceAdd, Int.reduceMul, Int.reduceNe, Int.reduceNeg, Int.reduceToNat, Nat.reduceMul, h24]; done) | (simp only [↓R0, R1, rdL, rdH, isCall, istep, ibin, vcells, fillI, setR, flat, okCell, isBase, List.set, List.drop, List.take, List.append, bnds, bhi, blo, srcOf, ↓reduceIte, Nat.reduceEqDiff, Nat.reduceAdd, Nat.reduceLeDiff, reduceCtorEq, Nat.reduceSub, Int.reduceEq, Int.reduceLT, Int.reduceLE, Int.reduceGT, Int.reduceGE, Int.reduceSub, Int.reduceAdd, Int.reduceMul, Int.reduceNe, Int.reduceNeg, Int.reduceToNat, Nat.reduceMul, h24]; rfl) | rfl)
      · (first | (simp only [↓R0, R1, rdL, rdH, isCall, istep, ibin, vcells, fillI, setR, flat, okCell, isBase, List.set, List.drop, List.take, List.append, bnds, bhi, blo, srcOf, ↓reduceIte, Nat.reduceEqDiff, Nat.reduceAdd, Nat.reduceLeDiff, reduceCtorEq, Nat.reduceSub, Int.reduceEq, Int.reduceLT, Int.reduceLE, Int.reduceGT, Int.reduceGE, Int.reduceSub, Int.reduceAdd, Int.reduceMul, Int.reduceNe, Int.reduceNeg, Int.reduceToNat, Nat.reduceMul]; done) | (simp only [↓R0, R1, rdL, rdH, isCall, istep, ibin, vcells, fillI, setR, flat, okCell, isBase, List.set, List.drop, List.take, List.append, bnds, bhi, blo, srcOf, ↓reduceIte, Nat.reduceEqDiff, Nat.reduceAdd, Nat.reduceLeDiff, reduceCtorEq, Nat.reduceSub, Int.reduceEq, Int.reduceLT, Int.reduceLE, Int.reduceGT, Int.reduceGE, Int.reduceSub, Int.reduceAdd, Int.reduceMul, Int.reduceNe, Int.reduceNeg, Int.reduceToNat, Nat.reduceMul]; rfl) | rfl)
      · (first | (simp only [↓R0, R1, rdL, rdH, isCall, istep, ibin, vcells, fillI, setR, flat, okCell, isBase, List.set, List.drop, List.take, List.append, bnds, bhi, blo, srcOf, ↓reduceIte, Nat.reduceEqDiff, Nat.reduceAdd, Nat.reduceLeDiff, reduceCtorEq, Nat.reduceSub, Int.reduceEq, Int.reduceLT, Int.reduceLE, Int.reduceGT, Int.reduceGE, Int.reduceSub, Int.reduceAdd, Int.reduceMul, Int.reduceNe, Int.reduceNeg, Int.reduceToNat, Nat.reduceMul]; done) | (simp only [↓R0, R1, rdL, rdH, isCall, istep, ibin, vcells, fillI, setR, flat, okCell, isBase, List.set, List.drop, List.take, List.append, bnds, bhi, blo, srcOf, ↓reduceIte, Nat.reduceEqDiff, Nat.reduceAdd, Nat.reduceLeDiff, reduceCtorEq, Nat.reduceSub, Int.reduceEq, Int.reduceLT, Int.reduceLE, Int.reduceGT, Int.reduceGE, Int.reduceSub, Int.reduceAdd, Int.reduceMul, Int.reduceNe, Int.reduceNeg, Int.reduceToNat, Nat.reduceMul]; rfl) | rfl)
      · (first | (simp only [↓R0, R1, rdL, rdH, isCall, istep, ibin, vcells, fillI, setR, flat, okCell, isBase, List.set, List.drop, List.take, List.append, bnds, bhi, blo, srcOf, ↓reduceIte, Nat.reduceEqDiff, Nat.reduceAdd, Nat.reduceLeDiff, reduceCtorEq, Nat.reduceSub, Int.reduceEq, Int.reduceLT, Int.reduceLE, Int.reduceGT, Int.reduceGE, Int.reduceSub, Int.reduceAdd, Int.reduceMul, Int.reduceNe, Int.reduceNeg, Int.reduceToNat, Nat.reduceMul, mvC_zero]; done) | (simp only [↓R0, R1, rdL, rdH, isCall, istep, ibin, vcells, fillI, setR, flat, okCell, isBase, List.set, List.drop, List.take, List.append, bnds, bhi, blo, srcOf, ↓reduceIte, Nat.reduceEqDiff, Nat.reduceAdd, Nat.reduceLeDiff, reduceCtorEq, Nat.reduceSub, Int.reduceEq, Int.reduceLT, Int.reduceLE, Int.reduceGT, Int.reduceGE, Int.reduceSub, Int.reduceAdd, Int.reduceMul, Int.reduceNe, Int.reduceNeg, Int.reduceToNat, Nat.reduceMul, mvC_zero]; rfl) | rfl)
      · rw [mvC_zero]; omega
      · rw [mvV_zero]; simp
    · have ei : i = kx := by omega
      subst ei
      have hX : x % 4294967296 ^ i = x := Nat.mod_eq_of_lt hx
      have hxy : x * y < 4294967296 ^ (i + ky) := by rw [Nat.pow_add]; exact Nat.mul_lt_mul'' hx hy
      have hud : ud (tb (i + ky) (lm (x * y))) = x * y := by rw [ud_tb, Nat.mod_eq_of_lt hxy]
      have c5 : i + ky ≤ 34359738368 := by omega
      rw [hX] at hb3
      simp only [↓R0, R1, rdL, rdH, isCall, istep, ibin, vcells, fillI, setR, flat, okCell, isBase, List.set, List.drop, List.take, List.append, bnds, bhi, blo, srcOf, ↓reduceIte, Nat.reduceEqDiff, Nat.reduceAdd, Nat.reduceLeDiff, reduceCtorEq, Nat.reduceSub, Int.reduceEq, Int.reduceLT, Int.reduceLE, Int.reduceGT, Int.reduceGE, Int.reduceSub, Int.reduceAdd, Int.reduceMul, Int.reduceNe, Int.reduceNeg, Int.reduceToNat, Nat.reduceMul, h5, h6, h7, h23, h24, hb1, hb2, hb3, c1, tb_length, rdS, spMag, shows, tb_all, uok_lm, c5, hud, Fin, isEnd, resL, res1, iE, rE]
      first | exact ⟨_, rfl, rfl, hh⟩ | exact ⟨_, rfl, rfl, fun k hk => by simp only [ne_nb hk, if_false]; exact hh k hk⟩
  · (first | (simp only [↓R0, R1, rdL, rdH, isCall, istep, ibin, vcells, fillI, setR, flat, okCell, isBase, List.set, List.drop, List.take, List.append, bnds, bhi, blo, srcOf, ↓reduceIte, Nat.reduceEqDiff, Nat.reduceAdd, Nat.reduceLeDiff, reduceCtorEq, Nat.reduceSub, Int.reduceEq, Int.reduceLT, Int.reduceLE, Int.reduceGT, Int.reduceGE, Int.reduceSub, Int.reduceAdd, Int.reduceMul, Int.reduceNe, Int.reduceNeg, Int.reduceToNat, Nat.reduceMul]; done) | (simp only [↓R0, R1, rdL, rdH, isCall, istep, ibin, vcells, fillI, setR, flat, okCell, isBase, List.set, List.drop, List.take, List.append, bnds, bhi, blo, srcOf, ↓reduceIte, Nat.reduceEqDiff, Nat.reduceAdd, Nat.reduceLeDiff, reduceCtorEq, Nat.reduceSub, Int.reduceEq, Int.reduceLT, Int.reduceLE, Int.reduceGT, Int.reduceGE, Int.reduceSub, Int.reduceAdd, Int.reduceMul, Int.reduceNe, Int.reduceNeg, Int.reduceToNat, Nat.reduceMul]; rfl) | rfl)
  · (first | (simp only [↓R0, R1, rdL, rdH, isCall, istep, ibin, vcells, fillI, setR, flat, okCell, isBase, List.set, List.drop, List.take, List.append, bnds, bhi, blo, srcOf, ↓reduceIte, Nat.reduceEqDiff, Nat.reduceAdd, Nat.reduceLeDiff, reduceCtorEq, Nat.reduceSub, Int.reduceEq, Int.reduceLT, Int.reduceLE, Int.reduceGT, Int.reduceGE, Int.reduceSub, Int.reduceAdd, Int.reduceMul, Int.reduceNe, Int.reduceNeg, Int.reduceToNat, Nat.reduceMul]; done) | (simp only [↓R0, R1, rdL, rdH, isCall, istep, ibin, vcells, fillI, setR, flat, okCell, isBase, List.set, List.drop, List.take, List.append, bnds, bhi, blo, srcOf, ↓reduceIte, Nat.reduceEqDiff, Nat.reduceAdd, Nat.reduceLeDiff, reduceCtorEq, Nat.reduceSub, Int.reduceEq, Int.reduceLT, Int.reduceLE, Int.reduceGT, Int.reduceGE, Int.reduceSub, Int.reduceAdd, Int.reduceMul, Int.reduceNe, Int.reduceNeg, Int.reduceToNat, Nat.reduceMul]; rfl) | rfl)
  · (first | (simp only [↓R0, R1, rdL, rdH, isCall, istep, ibin, vcells, fillI, setR, flat, okCell, isBase, List.set, List.drop, List.take, List.append, bnds, bhi, blo, srcOf, ↓reduceIte, Nat.reduceEqDiff, Nat.reduceAdd, Nat.reduceLeDiff, reduceCtorEq, Nat.reduceSub, Int.reduceEq, Int.reduceLT, Int.reduceLE, Int.reduceGT, Int.reduceGE, Int.reduceSub, Int.reduceAdd, Int.reduceMul, Int.reduceNe, Int.reduceNeg, Int.reduceToNat, Nat.reduceMul]; done) | (simp only [↓R0, R1, rdL, rdH, isCall, istep, ibin, vcells, fillI, setR, flat, okCell, isBase, List.set, List.drop, List.take, List.append, bnds, bhi, blo, srcOf, ↓reduceIte, Nat.reduceEqDiff, Nat.reduceAdd, Nat.reduceLeDiff, reduceCtorEq, Nat.reduceSub, Int.reduceEq, Int.reduceLT, Int.reduceLE, Int.reduceGT, Int.reduceGE, Int.reduceSub, Int.reduceAdd, Int.reduceMul, Int.reduceNe, Int.reduceNeg, Int.reduceToNat, Nat.reduceMul]; rfl) | rfl)
  · (first | (simp only [↓R0, R1, rdL, rdH, isCall, istep, ibin, vcells, fillI, setR, flat, okCell, isBase, List.set, List.drop, List.take, List.append, bnds, bhi, blo, srcOf, ↓reduceIte, Nat.reduceEqDiff, Nat.reduceAdd, Nat.reduceLeDiff, reduceCtorEq, Nat.reduceSub, Int.reduceEq, Int.reduceLT, Int.reduceLE, Int.reduceGT, Int.reduceGE, Int.reduceSub, Int.reduceAdd, Int.reduceMul, Int.reduceNe, Int.reduceNeg, Int.reduceToNat, Nat.reduceMul]; done) | (simp only [↓R0, R1, rdL, rdH, isCall, istep, ibin, vcells, fillI, setR, flat, okCell, isBase, List.set, List.drop, List.take, List.append, bnds, bhi, blo, srcOf, ↓reduceIte, Nat.reduceEqDiff, Nat.reduceAdd, Nat.reduceLeDiff, reduceCtorEq, Nat.reduceSub, Int.reduceEq, Int.reduceLT, Int.reduceLE, Int.reduceGT, Int.reduceGE, Int.reduceSub, Int.reduceAdd, Int.reduceMul, Int.reduceNe, Int.reduceNeg, Int.reduceToNat, Nat.reduceMul]; rfl) | rfl)
  · (first | (simp only [↓R0, R1, rdL, rdH, isCall, istep, ibin, vcells, fillI, setR, flat, okCell, isBase, List.set, List.drop, List.take, List.append, bnds, bhi, blo, srcOf, ↓reduceIte, Nat.reduceEqDiff, Nat.reduceAdd, Nat.reduceLeDiff, reduceCtorEq, Nat.reduceSub, Int.reduceEq, Int.reduceLT, Int.reduceLE, Int.reduceGT, Int.reduceGE, Int.reduceSub, Int.reduceAdd, Int.reduceMul, Int.reduceNe, Int.reduceNeg, Int.reduceToNat, Nat.reduceMul]; done) | (simp only [↓R0, R1, rdL, rdH, isCall, istep, ibin, vcells, fillI, setR, flat, okCell, isBase, List.set, List.drop, List.take, List.append, bnds, bhi, blo, srcOf, ↓reduceIte, Nat.reduceEqDiff, Nat.reduceAdd, Nat.reduceLeDiff, reduceCtorEq, Nat.reduceSub, Int.reduceEq, Int.reduceLT, Int.reduceLE, Int.reduceGT, Int.reduceGE, Int.reduceSub, Int.reduceAdd, Int.reduceMul, Int.reduceNe, Int.reduceNeg, Int.reduceToNat, Nat.reduceMul]; rfl) | rfl)
  · (first | (simp only [↓R0, R1, rdL, rdH, isCall, istep, ibin, vcells, fillI, setR, flat, okCell, isBase, List.set, List.drop, List.take, List.append, bnds, bhi, blo, srcOf, ↓reduceIte, Nat.reduceEqDiff, Nat.reduceAdd, Nat.reduceLeDiff, reduceCtorEq, Nat.reduceSub, Int.reduceEq, Int.reduceLT, Int.reduceLE, Int.reduceGT, Int.reduceGE, Int.reduceSub, Int.reduceAdd, Int.reduceMul, Int.reduceNe, Int.reduceNeg, Int.reduceToNat, Nat.reduceMul]; done) | (simp only [↓R0, R1, rdL, rdH, isCall, istep, ibin, vcells, fillI, setR, flat, okCell, isBase, List.set, List.drop, List.take, List.append, bnds, bhi, blo, srcOf, ↓reduceIte, Nat.reduceEqDiff, Nat.reduceAdd, Nat.reduceLeDiff, reduceCtorEq, Nat.reduceSub, Int.reduceEq, Int.reduceLT, Int.reduceLE, Int.reduceGT, Int.reduceGE, Int.reduceSub, Int.reduceAdd, Int.reduceMul, Int.reduceNe, Int.reduceNeg, Int.reduceToNat, Nat.reduceMul]; rfl) | rfl)
  · (first | (simp only [↓R0, R1, rdL, rdH, isCall, istep, ibin, vcells, fillI, setR, flat, okCell, isBase, List.set, List.drop, List.take, List.append, bnds, bhi, blo, srcOf, ↓reduceIte, Nat.reduceEqDiff, Nat.reduceAdd, Nat.reduceLeDiff, reduceCtorEq, Nat.reduceSub, Int.reduceEq, Int.reduceLT, Int.reduceLE, Int.reduceGT, Int.reduceGE, Int.reduceSub, Int.reduceAdd, Int.reduceMul, Int.reduceNe, Int.reduceNeg, Int.reduceToNat, Nat.reduceMul]; done) | (simp only [↓R0, R1, rdL, rdH, isCall, istep, ibin, vcells, fillI, setR, flat, okCell, isBase, List.set, List.drop, List.take, List.append, bnds, bhi, blo, srcOf, ↓reduceIte, Nat.reduceEqDiff, Nat.reduceAdd, Nat.reduceLeDiff, reduceCtorEq, Nat.reduceSub, Int.reduceEq, Int.reduceLT, Int.reduceLE, Int.reduceGT, Int.reduceGE, Int.reduceSub, Int.reduceAdd, Int.reduceMul, Int.reduceNe, Int.reduceNeg, Int.reduceToNat, Nat.reduceMul]; rfl) | rfl)
  · (first | (simp only [↓R0, R1, rdL, rdH, isCall, istep, ibin, vcells, fillI, setR, flat, okCell, isBase, List.set, List.drop, List.take, List.append, bnds, bhi, blo, srcOf, ↓reduceIte, Nat.reduceEqDiff, Nat.reduceAdd, Nat.reduceLeDiff, reduceCtorEq, Nat.reduceSub, Int.reduceEq, Int.reduceLT, Int.reduceLE, Int.reduceGT, Int.reduceGE, Int.reduceSub, Int.reduceAdd, Int.reduceMul, Int.reduceNe, Int.reduceNeg, Int.reduceToNat, Nat.reduceMul, Nat.pow_zero, Nat.mod_one, Nat.zero_mul, lm_0]; done) | (simp only [↓R0, R1, rdL, rdH, isCall, istep, ibin, vcells, fillI, setR, flat, okCell, isBase, List.set, List.drop, List.take, List.append, bnds, bhi, blo, srcOf, ↓reduceIte, Nat.reduceEqDiff, Nat.reduceAdd, Nat.reduceLeDiff, reduceCtorEq, Nat.reduceSub, Int.reduceEq, Int.reduceLT, Int.reduceLE, Int.reduceGT, Int.reduceGE, Int.reduceSub, Int.reduceAdd, Int.reduceMul, Int.reduceNe, Int.reduceNeg, Int.reduceToNat, Nat.reduceMul, Nat.pow_zero, Nat.mod_one, Nat.zero_mul, lm_0]; rfl) | rfl)
  · intro q hq
    simp only [↓R0, R1, rdL, rdH, isCall, istep, ibin, vcells, fillI, setR, flat, okCell, isBase, List.set, List.drop, List.take, List.append, bnds, bhi, blo, srcOf, ↓reduceIte, Nat.reduceEqDiff, Nat.reduceAdd, Nat.reduceLeDiff, reduceCtorEq, Nat.reduceSub, Int.reduceEq, Int.reduceLT, Int.reduceLE, Int.reduceGT, Int.reduceGE, Int.reduceSub, Int.reduceAdd, Int.reduceMul, Int.reduceNe, Int.reduceNeg, Int.reduceToNat, Nat.reduceMul, hget_new hq]
end Go.Eng
end
section
set_option linter.unusedVariables false
set_option linter.unusedSimpArgs false
set_option linter.unusedSectionVars false
set_option maxRecDepth 4000
namespace Go.Eng
open Go Go.Proofs Go.IntWalk
def spShort : List Value → Heap → Option ((Nat → Value) × Blk)
  | [v, .int .u32 d], h => match shows h v with
    | some cs => if uok cs = true ∧ cs.length ≤ 34359738368 ∧ 0 < d ∧ d < 4294967296 then
        some (fun k => .tuple ⟨[.slice (some ⟨k, 0, none⟩) cs.length cs.length, .int .u32 (ud cs % d.toNat : Nat)]⟩, ⟨80, 1, false, tb cs.length (lm (ud cs / d.toNat))⟩) else none
    | none => none
  | _, _ => none
def c81 : ICode :=
  (.seq (.reg [⟨(some 4), none, (.mv (.c (.slice none 0 0)))⟩, ⟨(some 5), none, (.mv (.c (.int .u32 0)))⟩])
  (.seq (.reg [⟨(some 10), none, (.mv (.t 0))⟩, ⟨(some 11), none, (.lensl (.t 10))⟩, ⟨(some 12), none, (.mkslice 80 1 4 [(.int .u32 0)] (.t 11) (.t 11))⟩, ⟨(some 6), none, (.mv (.t 12))⟩])
  (.seq (.reg [⟨(some 7), none, (.mv (.c (.int .u32 0)))⟩])
  (.seq (.seq (.reg [⟨(some 13), none, (.mv (.t 0))⟩, ⟨(some 14), none, (.lensl (.t 13))⟩, ⟨(some 15), none, (.mv (.c (.int .i64 0)))⟩])
  (.block 0 (.loop (.seq (.reg [⟨(some 16), none, (.bin .lss (.t 15) (.t 14))⟩])
  (.seq (.cond (.t 16)
  .skip
  (.exit 0))
  (.seq (.block 1 (.seq (.reg [⟨(some 17), none, (.mv (.t 15))⟩, ⟨(some 8), none, (.mv (.t 17))⟩])
  (.seq (.reg [⟨(some 18), none, (.mv (.t 0))⟩, ⟨(some 19), none, (.lensl (.t 18))⟩, ⟨(some 20), none, (.bin .sub (.t 19) (.c (.int .i64 1)))⟩, ⟨(some 21), none, (.mv (.t 8))⟩, ⟨(some 22), none, (.bin .sub (.t 20) (.t 21))⟩, ⟨(some 9), none, (.mv (.t 22))⟩])
  (.reg [⟨(some 24), none, (.mv (.t 6))⟩, ⟨(some 25), none, (.mv (.t 9))⟩, ⟨(some 26), none, (.mv (.t 7))⟩, ⟨(some 27), none, (.mv (.t 0))⟩, ⟨(some 28), none, (.mv (.t 9))⟩, ⟨(some 29), none, (.ixsl 1 (.t 27) (.t 28))⟩, ⟨(some 30), none, (.load false 1 (.t 29))⟩, ⟨(some 31), none, (.mv (.t 1))⟩, ⟨(some 32), none, (.call 86 [(.t 26), (.t 30), (.t 31)])⟩, ⟨(some 23), none, (.mv (.t 32))⟩, ⟨(some 33), none, (.ext (.t 23) 0)⟩, ⟨(some 34), none, (.ext (.t 23) 1)⟩, ⟨(some 35), none, (.ixsl 1 (.t 24) (.t 25))⟩, ⟨none, none, (.store 1 (.t 35) (.t 33))⟩, ⟨(some 7), none, (.mv (.t 34))⟩]))))
  (.reg [⟨(some 36), none, (.bin .add (.t 15) (.c (.int .i64 1)))⟩, ⟨(some 15), none, (.mv (.t 36))⟩])))))))
  (.seq (.reg [⟨(some 37), none, (.mv (.t 6))⟩, ⟨(some 38), none, (.mv (.t 7))⟩, ⟨(some 4), none, (.mv (.t 37))⟩, ⟨(some 5), none, (.mv (.t 38))⟩])
  .ret)))))
theorem tr81 : trFun Tryd.prog 81 = some ⟨39, [.t 4, .t 5], c81⟩ := by kernel_rfl
set_option maxHeartbeats 1000000 in
theorem ok_nshort : SpecOK Tryd.prog 81 (nwS spShort) := by
  refine nw_run (env_cons ok_div32 (env_nil _)) mixed tr81 ?_ ?_
  · intro args h h' v hle e
    unfold spShort at e ⊢
    split at e
    · split at e
      · rename_i cs hcs
        simp only [shows_mono hle hcs]; exact e
      · cases e
    · cases e
  intro args vf b h N hG hN
  unfold spShort at hG
  split at hG
  case h_2 => cases hG
  rename_i sv d _
  split at hG
  case h_2 => cases hG
  rename_i cs hcs
  split at hG
  case isFalse => cases hG
  rename_i hl
  obtain ⟨hu, hl, hd, hd2⟩ := hl
  cases hG
  refine ⟨rfl, tb_base _ _, vr1_pair (vr1_sl _ _ _) (vr1_flat rfl), by simp, ?_⟩
  obtain ⟨kb, off, K, cap, blk, rfl, hb, hle, hcell, hV, hlen⟩ := shows_tb hcs hu
  have hkb := hN _ _ hb
  have hne : ∀ a, ¬ (N + a = kb) := fun a => by omega
  rw [hlen] at hl ⊢
  generalize ud cs = V at *
  obtain ⟨d, rfl⟩ := Int.eq_ofNat_of_zero_le (Int.le_of_lt hd)
  simp only [Int.toNat_natCast]
  have hd0 : 0 < d := by omega
  have g2 : 4 * (K : Int) ≤ 281474976710656 := by omega
  have g3 : (K : Int) ≤ 9223372036854775807 := by omega
  simp only [c81, initT, List.zipIdx_cons, List.zipIdx_nil, List.map_cons, List.map_nil, Nat.reduceAdd]
  simp only [↓R0, R1, rdL, rdH, isCall, istep, ibin, vcells, fillI, setR, flat, okCell, isBase, List.set, List.drop, List.take, List.append, bnds, bhi, blo, srcOf, ↓reduceIte, Nat.reduceEqDiff, Nat.reduceAdd, Nat.reduceLeDiff, reduceCtorEq, Nat.reduceSub, Int.reduceEq, Int.reduceLT, Int.reduceLE, Int.reduceGT, Int.reduceGE, Int.reduceSub, Int.reduceAdd, Int.reduceMul, Int.reduceNe, Int.reduceNeg, Int.reduceToNat, Nat.reduceMul, g2, g3, tb_rep]
  clear g2 g3
  refine lp_parts (fun m tm hp nx => ∃ (i : Nat) (f : Nat → Nat), m + i = K ∧ tmget tm 0 = .slice (some ⟨kb, off, none⟩) K cap ∧ tmget tm 1 = .int .u32 (d : Nat) ∧ tmget tm 6 = .slice (some ⟨N + 0, 0, none⟩) K K ∧
      tmget tm 7 = .int .u32 (V / 4294967296 ^ m % d : Nat) ∧ tmget tm 14 = .int .i64 K ∧ tmget tm 15 = .int .i64 i ∧
      hget hp (N + 0) = some ⟨80, 1, false, tb K f⟩ ∧ (∀ j, m ≤ j → j < K → f j = lm (V / d) j) ∧ (∀ q, q < N → hget hp q = hget h q) ∧ nx = N + 1) ?_ K
    ⟨0, fun _ => 0, by omega, ?_, ?_, ?_, ?_, ?_, ?_, ?_, fun j hj hj2 => by omega, ?_, rfl⟩
  · intro m tm hp nx ⟨i, f, hm, h0, h1, h6, h7, h14, h15, hb1, hf, hh, hnx⟩
    subst hnx
    by_cases c1 : i < K
    · obtain ⟨m, rfl⟩ : ∃ m', m = m' + 1 := ⟨m - 1, by omega⟩
      have hbb : hget hp kb = some blk := by rw [hh kb hkb]; exact hb
      have c2 : m < K := by omega
      have c2' : m + 1 ≤ K := by omega
      obtain ⟨q1, q2⟩ := sh_quo (n := V) (i := m) hd0
      have q3 := sh_rest V d m
      have hr := Nat.mod_lt (V / 4294967296 ^ (m + 1)) hd0
      have bl := lm_lt V m
      have e1 : IntKind.i64.wrap ((K : Int) - 1) = ((K - 1 : Nat) : Int) := by rw [i64_in _ (by omega)]; omega
      have e2 : IntKind.i64.wrap (((K - 1 : Nat) : Int) - (i : Int)) = (m : Int) := by rw [i64_in _ (by omega)]; omega
      have e3 : IntKind.i64.wrap ((i : Int) + 1) = ((i + 1 : Nat) : Int) := by rw [i64_in _ (by omega)]; omega
      have v1 : ((V / 4294967296 ^ (m + 1) % d : Nat) : Int) < (d : Int) := by omega
      have v2 : ((lm V m : Nat) : Int) < 4294967296 := by omega
      have v3 : (((V / 4294967296 ^ (m + 1) % d : Nat) : Int) * 4294967296 + (lm V m : Int)) / (d : Int) = ((lm (V / d) m : Nat) : Int) := by rw [q1]; rfl
      have v4 : (((V / 4294967296 ^ (m + 1) % d : Nat) : Int) * 4294967296 + (lm V m : Int)) % (d : Int) = ((V / 4294967296 ^ m % d : Nat) : Int) := by rw [q3]; rfl
      have v5 := hcell m c2
      simp only [↓R0, R1, rdL, rdH, isCall, istep, ibin, vcells, fillI, setR, flat, okCell, isBase, List.set, List.drop, List.take, List.append, bnds, bhi, blo, srcOf, ↓reduceIte, Nat.reduceEqDiff, Nat.reduceAdd, Nat.reduceLeDiff, reduceCtorEq, Nat.reduceSub, Int.reduceEq, Int.reduceLT, Int.reduceLE, Int.reduceGT, Int.reduceGE, Int.reduceSub, Int.reduceAdd, Int.reduceMul, Int.reduceNe, Int.reduceNeg, Int.reduceToNat, Nat.reduceMul, h0, h1, h6, h7, h14, h15, hb1, hbb, c1, c2, c2', e1, e2, e3, spDiv32, v1, v2, v3, v4, v5, hd2, hr, tb_length, tb_set]
      refine ⟨m, by omega, i + 1, _, by omega, rfl, rfl, rfl, fun j hj hj2 => ?_, ?_⟩
      · by_cases g : j = m
        · rw [if_pos g, g]
        · rw [if_neg g]; exact hf j (by omega) hj2
      · intro q hq
        simp only [if_neg (show ¬ N + 0 = q by omega)]
        exact hh q hq
    · have ei : i = K := by omega
      subst ei
      have em : m = 0 := by omega
      subst em
      rw [Nat.pow_zero, Nat.div_one] at h7
      have htb : tb i f = tb i (lm (V / d)) := tb_congr fun j hj => hf j (by omega) hj
      simp only [↓R0, R1, rdL, rdH, isCall, istep, ibin, vcells, fillI, setR, flat, okCell, isBase, List.set, List.drop, List.take, List.append, bnds, bhi, blo, srcOf, ↓reduceIte, Nat.reduceEqDiff, Nat.reduceAdd, Nat.reduceLeDiff, reduceCtorEq, Nat.reduceSub, Int.reduceEq, Int.reduceLT, Int.reduceLE, Int.reduceGT, Int.reduceGE, Int.reduceSub, Int.reduceAdd, Int.reduceMul, Int.reduceNe, Int.reduceNeg, Int.reduceToNat, Nat.reduceMul, h0, h1, h6, h7, h14, h15, hb1, c1]
      refine ⟨trivial, _, N + 0, false, rfl, ?_, by omega, by rw [hb1, htb], hh⟩
      (first | (simp only [↓R0, R1, rdL, rdH, isCall, istep, ibin, vcells, fillI, setR, flat, okCell, isBase, List.set, List.drop, List.take, List.append, bnds, bhi, blo, srcOf, ↓reduceIte, Nat.reduceEqDiff, Nat.reduceAdd, Nat.reduceLeDiff, reduceCtorEq, Nat.reduceSub, Int.reduceEq, Int.reduceLT, Int.reduceLE, Int.reduceGT, Int.reduceGE, Int.reduceSub, Int.reduceAdd, Int.reduceMul, Int.reduceNe, Int.reduceNeg, Int.reduceToNat, Nat.reduceMul, one]; done) | (simp only [↓R0, R1, rdL, rdH, isCall, istep, ibin, vcells, fillI, setR, flat, okCell, isBase, List.set, List.drop, List.take, List.append, bnds, bhi, blo, srcOf, ↓reduceIte, Nat.reduceEqDiff, Nat.reduceAdd, Nat.reduceLeDiff, reduceCtorEq, Nat.reduceSub, Int.reduceEq, Int.reduceLT, Int.reduceLE, Int.reduceGT, Int.reduceGE, Int.reduceSub, Int.reduceAdd, Int.reduceMul, Int.reduceNe, Int.reduceNeg, Int.reduceToNat, Nat.reduceMul, one]; rfl) | rfl)
  · (first | (simp only [↓R0, R1, rdL, rdH, isCall, istep, ibin, vcells, fillI, setR, flat, okCell, isBase, List.set, List.drop, List.take, List.append, bnds, bhi, blo, srcOf, ↓reduceIte, Nat.reduceEqDiff, Nat.reduceAdd, Nat.reduceLeDiff, reduceCtorEq, Nat.reduceSub, Int.reduceEq, Int.reduceLT, Int.reduceLE, Int.reduceGT, Int.reduceGE, Int.reduceSub, Int.reduceAdd, Int.reduceMul, Int.reduceNe, Int.reduceNeg, Int.reduceToNat, Nat.reduceMul]; done) | (simp only [↓R0, R1, rdL, rdH, isCall, istep, ibin, vcells, fillI, setR, flat, okCell, isBase, List.set, List.drop, List.take, List.append, bnds, bhi, blo, srcOf, ↓reduceIte, Nat.reduceEqDiff, Nat.reduceAdd, Nat.reduceLeDiff, reduceCtorEq, Nat.reduceSub, Int.reduceEq, Int.reduceLT, Int.reduceLE, Int.reduceGT, Int.reduceGE, Int.reduceSub, Int.reduceAdd, Int.reduceMul, Int.reduceNe, Int.reduceNeg, Int.reduceToNat, Nat.reduceMul]; rfl) | rfl)
  · (first | (simp only [↓R0, R1, rdL, rdH, isCall, istep, ibin, vcells, fillI, setR, flat, okCell, isBase, List.set, List.drop, List.take, List.append, bnds, bhi, blo, srcOf, ↓reduceIte, Nat.reduceEqDiff, Nat.reduceAdd, Nat.reduceLeDiff, reduceCtorEq, Nat.reduceSub, Int.reduceEq, Int.reduceLT, Int.reduceLE, Int.reduceGT, Int.reduceGE, Int.reduceSub, Int.reduceAdd, Int.reduceMul, Int.reduceNe, Int.reduceNeg, Int.reduceToNat, Nat.reduceMul]; done) | (simp only [↓R0, R1, rdL, rdH, isCall, istep, ibin, vcells, fillI, setR, flat, okCell, isBase, List.set, List.drop, List.take, List.append, bnds, bhi, blo, srcOf, ↓reduceIte, Nat.reduceEqDiff, Nat.reduceAdd, Nat.reduceLeDiff, reduceCtorEq, Nat.reduceSub, Int.reduceEq, Int.reduceLT, Int.reduceLE, Int.reduceGT, Int.reduceGE, Int.reduceSub, Int.reduceAdd, Int.reduceMul, Int.reduceNe, Int.reduceNeg, Int.reduceToNat, Nat.reduceMul]; rfl) | rfl)
  · (first | (simp only [↓R0, R1, rdL, rdH, isCall, istep, ibin, vcells, fillI, setR, flat, okCell, isBase, List.set, List.drop, List.take, List.append, bnds, bhi, blo, srcOf, ↓reduceIte, Nat.reduceEqDiff, Nat.reduceAdd, Nat.reduceLeDiff, reduceCtorEq, Nat.reduceSub, Int.reduceEq, Int.reduceLT, Int.reduceLE, Int.reduceGT, Int.reduceGE, Int.reduceSub, Int.reduceAdd, Int.reduceMul, Int.reduceNe, Int.reduceNeg, Int.reduceToNat, Nat.reduceMul]; done) | (simp only [↓R0, R1, rdL, rdH, isCall, istep, ibin, vcells, fillI, setR, flat, okCell, isBase, List.set, List.drop, List.take, List.append, bnds, bhi, blo, srcOf, ↓reduceIte, Nat.reduceEqDiff, Nat.reduceAdd, Nat.reduceLeDiff, reduceCtorEq, Nat.reduceSub, Int.reduceEq, Int.reduceLT, Int.reduceLE, Int.reduceGT, Int.reduceGE, Int.reduceSub, Int.reduceAdd, Int.reduceMul, Int.reduceNe, Int.reduceNeg, Int.reduceToNat, Nat.reduceMul]; rfl) | rfl)
  · (first | (simp only [↓R0, R1, rdL, rdH, isCall, istep, ibin, vcells, fillI, setR, flat, okCell, isBase, List.set, List.drop, List.take, List.append, bnds, bhi, blo, srcOf, ↓reduceIte, Nat.reduceEqDiff, Nat.reduceAdd, Nat.reduceLeDiff, reduceCtorEq, Nat.reduceSub, Int.reduceEq, Int.reduceLT, Int.reduceLE, Int.reduceGT, Int.reduceGE, Int.reduceSub, Int.reduceAdd, Int.reduceMul, Int.reduceNe, Int.reduceNeg, Int.reduceToNat, Nat.reduceMul, Nat.div_eq_of_lt hV, Nat.zero_mod]; done) | (simp only [↓R0, R1, rdL, rdH, isCall, istep, ibin, vcells, fillI, setR, flat, okCell, isBase, List.set, List.drop, List.take, List.append, bnds, bhi, blo, srcOf, ↓reduceIte, Nat.reduceEqDiff, Nat.reduceAdd, Nat.reduceLeDiff, reduceCtorEq, Nat.reduceSub, Int.reduceEq, Int.reduceLT, Int.reduceLE, Int.reduceGT, Int.reduceGE, Int.reduceSub, Int.reduceAdd, Int.reduceMul, Int.reduceNe, Int.reduceNeg, Int.reduceToNat, Nat.reduceMul, Nat.div_eq_of_lt hV, Nat.zero_mod]; rfl) | rfl)
  · (first | (simp only [↓R0, R1, rdL, rdH, isCall, istep, ibin, vcells, fillI, setR, flat, okCell, isBase, List.set, List.drop, List.take, List.append, bnds, bhi, blo, srcOf, ↓reduceIte, Nat.reduceEqDiff, Nat.reduceAdd, Nat.reduceLeDiff, reduceCtorEq, Nat.reduceSub, Int.reduceEq, Int.reduceLT, Int.reduceLE, Int.reduceGT, Int.reduceGE, Int.reduceSub, Int.reduceAdd, Int.reduceMul, Int.reduceNe, Int.reduceNeg, Int.reduceToNat, Nat.reduceMul]; done) | (simp only [↓R0, R1, rdL, rdH, isCall, istep, ibin, vcells, fillI, setR, flat, okCell, isBase, List.set, List.drop, List.take, List.append, bnds, bhi, blo, srcOf, ↓reduceIte, Nat.reduceEqDiff, Nat.reduceAdd, Nat.reduceLeDiff, reduceCtorEq, Nat.reduceSub, Int.reduceEq, Int.reduceLT, Int.reduceLE, Int.reduceGT, Int.reduceGE, Int.reduceSub, Int.reduceAdd, Int.reduceMul, Int.reduceNe, Int.reduceNeg, Int.reduceToNat, Nat.reduceMul]; rfl) | rfl)
  · (first | (simp only [↓R0, R1, rdL, rdH, isCall, istep, ibin, vcells, fillI, setR, flat, okCell, isBase, List.set, List.drop, List.take, List.append, bnds, bhi, blo, srcOf, ↓reduceIte, Nat.reduceEqDiff, Nat.reduceAdd, Nat.reduceLeDiff, reduceCtorEq, Nat.reduceSub, Int.reduceEq, Int.reduceLT, Int.reduceLE, Int.reduceGT, Int.reduceGE, Int.reduceSub, Int.reduceAdd, Int.reduceMul, Int.reduceNe, Int.reduceNeg, Int.reduceToNat, Nat.reduceMul]; done) | (simp only [↓R0, R1, rdL, rdH, isCall, istep, ibin, vcells, fillI, setR, flat, okCell, isBase, List.set, List.drop, List.take, List.append, bnds, bhi, blo, srcOf, ↓reduceIte, Nat.reduceEqDiff, Nat.reduceAdd, Nat.reduceLeDiff, reduceCtorEq, Nat.reduceSub, Int.reduceEq, Int.reduceLT, Int.reduceLE, Int.reduceGT, Int.reduceGE, Int.reduceSub, Int.reduceAdd, Int.reduceMul, Int.reduceNe, Int.reduceNeg, Int.reduceToNat, Nat.reduceMul]; rfl) | rfl)
  · (first | (simp only [↓R0, R1, rdL, rdH, isCall, istep, ibin, vcells, fillI, setR, flat, okCell, isBase, List.set, List.drop, List.take, List.append, bnds, bhi, blo, srcOf, ↓reduceIte, Nat.reduceEqDiff, Nat.reduceAdd, Nat.reduceLeDiff, reduceCtorEq, Nat.reduceSub, Int.reduceEq, Int.reduceLT, Int.reduceLE, Int.reduceGT, Int.reduceGE, Int.reduceSub, Int.reduceAdd, Int.reduceMul, Int.reduceNe, Int.reduceNeg, Int.reduceToNat, Nat.reduceMul]; done) | (simp only [↓R0, R1, rdL, rdH, isCall, istep, ibin, vcells, fillI, setR, flat, okCell, isBase, List.set, List.drop, List.take, List.append, bnds, bhi, blo, srcOf, ↓reduceIte, Nat.reduceEqDiff, Nat.reduceAdd, Nat.reduceLeDiff, reduceCtorEq, Nat.reduceSub, Int.reduceEq, Int.reduceLT, Int.reduceLE, Int.reduceGT, Int.reduceGE, Int.reduceSub, Int.reduceAdd, Int.reduceMul, Int.reduceNe, Int.reduceNeg, Int.reduceToNat, Nat.reduceMul]; rfl) | rfl)
  · intro q hq
    simp only [↓R0, R1, rdL, rdH, isCall, istep, ibin, vcells, fillI, setR, flat, okCell, isBase, List.set, List.drop, List.take, List.append, bnds, bhi, blo, srcOf, ↓reduceIte, Nat.reduceEqDiff, Nat.reduceAdd, Nat.reduceLeDiff, reduceCtorEq, Nat.reduceSub, Int.reduceEq, Int.reduceLT, Int.reduceLE, Int.reduceGT, Int.reduceGE, Int.reduceSub, Int.reduceAdd, Int.reduceMul, Int.reduceNe, Int.reduceNeg, Int.reduceToNat, Nat.reduceMul, hget_new hq]
def spShift : List Value → Heap → Option ((Nat → Value) × Blk)
  | [v, .int .i64 s], h => match shows h v with
    | some cs => if uok cs = true ∧ cs.length ≤ 34359738368 ∧ 0 ≤ s ∧ s < 32 then
        some (fun k => .slice (some ⟨k, 0, none⟩) (cs.length + 1) (cs.length + 1), ⟨80, 1, false, tb (cs.length + 1) (lm (ud cs * 2 ^ s.toNat))⟩) else none
    | none => none
  | _, _ => none
def c88 : ICode :=
  (.seq (.reg [⟨(some 4), none, (.mv (.c (.slice none 0 0)))⟩])
  (.seq (.reg [⟨(some 9), none, (.mv (.t 0))⟩, ⟨(some 10), none, (.lensl (.t 9))⟩, ⟨(some 11), none, (.bin .add (.t 10) (.c (.int .i64 1)))⟩, ⟨(some 12), none, (.mkslice 80 1 4 [(.int .u32 0)] (.t 11) (.t 11))⟩, ⟨(some 5), none, (.mv (.t 12))⟩])
  (.seq (.seq (.reg [⟨(some 13), none, (.mv (.t 0))⟩, ⟨(some 14), none, (.lensl (.t 13))⟩, ⟨(some 15), none, (.mv (.c (.int .i64 0)))⟩])
  (.block 0 (.loop (.seq (.reg [⟨(some 16), none, (.bin .lss (.t 15) (.t 14))⟩])
  (.seq (.cond (.t 16)
  .skip
  (.exit 0))
  (.seq (.block 1 (.seq (.reg [⟨(some 17), none, (.mv (.t 15))⟩, ⟨(some 18), none, (.ixsl 1 (.t 13) (.t 15))⟩, ⟨(some 19), none, (.load false 1 (.t 18))⟩, ⟨(some 6), none, (.mv (.t 17))⟩, ⟨(some 7), none, (.mv (.t 19))⟩])
  (.seq (.reg [⟨(some 20), none, (.mv (.t 7))⟩, ⟨(some 21), none, (.conv .u64 (.t 20))⟩, ⟨(some 22), none, (.mv (.t 1))⟩, ⟨(some 23), none, (.bin .shl (.t 21) (.t 22))⟩, ⟨(some 8), none, (.mv (.t 23))⟩])
  (.seq (.reg [⟨(some 24), none, (.mv (.t 5))⟩, ⟨(some 25), none, (.mv (.t 6))⟩, ⟨(some 26), none, (.ixsl 1 (.t 24) (.t 25))⟩, ⟨(some 27), none, (.load false 1 (.t 26))⟩, ⟨(some 28), none, (.mv (.t 8))⟩, ⟨(some 29), none, (.conv .u32 (.t 28))⟩, ⟨(some 30), none, (.bin .or (.t 27) (.t 29))⟩, ⟨(some 31), none, (.ixsl 1 (.t 24) (.t 25))⟩, ⟨none, none, (.store 1 (.t 31) (.t 30))⟩])
  (.reg [⟨(some 32), none, (.mv (.t 5))⟩, ⟨(some 33), none, (.mv (.t 6))⟩, ⟨(some 34), none, (.bin .add (.t 33) (.c (.int .i64 1)))⟩, ⟨(some 35), none, (.mv (.t 8))⟩, ⟨(some 36), none, (.bin .shr (.t 35) (.c (.int .u64 32)))⟩, ⟨(some 37), none, (.conv .u32 (.t 36))⟩, ⟨(some 38), none, (.ixsl 1 (.t 32) (.t 34))⟩, ⟨none, none, (.store 1 (.t 38) (.t 37))⟩])))))
  (.reg [⟨(some 39), none, (.bin .add (.t 15) (.c (.int .i64 1)))⟩, ⟨(some 15), none, (.mv (.t 39))⟩])))))))
  (.seq (.reg [⟨(some 40), none, (.mv (.t 5))⟩, ⟨(some 4), none, (.mv (.t 40))⟩])
  .ret))))
theorem tr88 : trFun Tryd.prog 88 = some ⟨41, [.t 4], c88⟩ := by kernel_rfl
set_option maxHeartbeats 1000000 in
theorem ok_nshift : SpecOK Tryd.prog 88 (nwS spShift) := by
  refine nw_run (env_nil _) mixed tr88 ?_ ?_
  · intro args h h' v hle e
    unfold spShift at e ⊢
    split at e
    · split at e
      · rename_i cs hcs
        simp only [shows_mono hle hcs]; exact e
      · cases e
    · cases e
  intro args vf b h N hG hN
  unfold spShift at hG
  split at hG
  case h_2 => cases hG
  rename_i sv s _
  split at hG
  case h_2 => cases hG
  rename_i cs hcs
  split at hG
  case isFalse => cases hG
  rename_i hl
  obtain ⟨hu, hl, hs0, hs⟩ := hl
  cases hG
  refine ⟨rfl, tb_base _ _, vr1_sl _ _ _, by simp, ?_⟩
  obtain ⟨kb, off, K, cap, blk, rfl, hb, hle, hcell, hV, hlen⟩ := shows_tb hcs hu
  have hkb := hN _ _ hb
  have hne : ∀ a, ¬ (N + a = kb) := fun a => by omega
  rw [hlen] at hl ⊢
  generalize ud cs = V at *
  obtain ⟨s, rfl⟩ := Int.eq_ofNat_of_zero_le hs0
  simp only [Int.toNat_natCast]
  have hs' : s < 32 := by omega
  have g1 : IntKind.i64.wrap ((K : Int) + 1) = ((K + 1 : Nat) : Int) := by rw [i64_in _ (by omega)]; omega
  have g2 : 4 * ((K + 1 : Nat) : Int) ≤ 281474976710656 := by omega
  have g3 : ((K + 1 : Nat) : Int) ≤ 9223372036854775807 := by omega
  simp only [c88, initT, List.zipIdx_cons, List.zipIdx_nil, List.map_cons, List.map_nil, Nat.reduceAdd]
  simp only [↓R0, R1, rdL, rdH, isCall, istep, ibin, vcells, fillI, setR, flat, okCell, isBase, List.set, List.drop, List.take, List.append, bnds, bhi, blo, srcOf, ↓reduceIte, Nat.reduceEqDiff, Nat.reduceAdd, Nat.reduceLeDiff, reduceCtorEq, Nat.reduceSub, Int.reduceEq, Int.reduceLT, Int.reduceLE, Int.reduceGT, Int.reduceGE, Int.reduceSub, Int.reduceAdd, Int.reduceMul, Int.reduceNe, Int.reduceNeg, Int.reduceToNat, Nat.reduceMul, g1, g2, g3, tb_rep]
  clear g1 g2 g3
  refine lp_parts (fun m tm hp nx => ∃ (i : Nat), m + i = K ∧ tmget tm 13 = .slice (some ⟨kb, off, none⟩) K cap ∧ tmget tm 1 = .int .i64 (s : Nat) ∧ tmget tm 5 = .slice (some ⟨N + 0, 0, none⟩) (K + 1) (K + 1) ∧
      tmget tm 14 = .int .i64 K ∧ tmget tm 15 = .int .i64 i ∧
      hget hp (N + 0) = some ⟨80, 1, false, tb (K + 1) (lm (V % 4294967296 ^ i * 2 ^ s))⟩ ∧ (∀ q, q < N → hget hp q = hget h q) ∧ nx = N + 1) ?_ K
    ⟨0, by omega, ?_, ?_, ?_, ?_, ?_, ?_, ?_, rfl⟩
  · intro m tm hp nx ⟨i, hm, h13, h1, h5, h14, h15, hb1, hh, hnx⟩
    subst hnx
    by_cases c1 : i < K
    · have hbb : hget hp kb = some blk := by rw [hh kb hkb]; exact hb
      have v5 := hcell i c1
      obtain ⟨q1, q2, q3, q4⟩ := shl_limb (n := V) (i := i) hs'
      have c2 : i < K + 1 := by omega
      have c2' : i ≤ K := by omega
      have k1 := tb_get' (lm (V % 4294967296 ^ i * 2 ^ s)) c2
      have b1 := lm_lt V i
      have hT : 2 ^ s ≤ 2 ^ 31 := Nat.pow_le_pow_right (by omega) (by omega)
      have b2 : lm V i * 2 ^ s ≤ 4294967295 * 2 ^ 31 := Nat.mul_le_mul (by omega) hT
      have w1 := u64_nat (n := lm V i) (by omega)
      have w2 := shl64 (c := lm V i) (s := s) (by omega) (by omega)
      have w3 := u32_mod (lm V i * 2 ^ s)
      have w4 := or_u32 (x := lm (V % 4294967296 ^ i * 2 ^ s) i) (c := (lm V i * 2 ^ s % 4294967296) / 2 ^ s) (s := s) q2 (by rw [← q3]; exact q4)
      rw [← q3] at w4
      have w5 : ((lm V i * 2 ^ s : Nat) : Int).fdiv (2 ^ min 32 IntKind.u64.bits) = ((lm V i * 2 ^ s / 4294967296 : Nat) : Int) := by
        have : (2 : Int) ^ min 32 IntKind.u64.bits = 4294967296 := rfl
        rw [this, Int.fdiv_eq_ediv_of_nonneg _ (by omega)]; omega
      have w6 := u32_nat (n := lm V i * 2 ^ s / 4294967296) (by omega)
      have w7 : ¬ ((s : Int) < 0) := by omega
      have e3 : IntKind.i64.wrap ((i : Int) + 1) = ((i + 1 : Nat) : Int) := by rw [i64_in _ (by omega)]; omega
      have c4 : i + 1 < K + 1 := by omega
      have c5 : i + 1 + 1 ≤ K + 1 := by omega
      have c6 : i + 1 ≤ K := c1
      simp only [↓R0, R1, rdL, rdH, isCall, istep, ibin, vcells, fillI, setR, flat, okCell, isBase, List.set, List.drop, List.take, List.append, bnds, bhi, blo, srcOf, ↓reduceIte, Nat.reduceEqDiff, Nat.reduceAdd, Nat.reduceLeDiff, reduceCtorEq, Nat.reduceSub, Int.reduceEq, Int.reduceLT, Int.reduceLE, Int.reduceGT, Int.reduceGE, Int.reduceSub, Int.reduceAdd, Int.reduceMul, Int.reduceNe, Int.reduceNeg, Int.reduceToNat, Nat.reduceMul, h13, h1, h5, h14, h15, hb1, hbb, c1, c2, c2', c4, c5, c6, k1, e3, v5, w1, w2, w3, w4, w5, w6, w7, tb_length, tb_set]
      refine ⟨m - 1, by omega, i + 1, by omega, rfl, ?_, ?_⟩
      · congr 2
        apply tb_congr
        intro j hj
        rw [q1]
      · intro q hq
        simp only [if_neg (show ¬ N + 0 = q by omega)]
        exact hh q hq
    · have ei : i = K := by omega
      subst ei
      rw [Nat.mod_eq_of_lt hV] at hb1
      simp only [↓R0, R1, rdL, rdH, isCall, istep, ibin, vcells, fillI, setR, flat, okCell, isBase, List.set, List.drop, List.take, List.append, bnds, bhi, blo, srcOf, ↓reduceIte, Nat.reduceEqDiff, Nat.reduceAdd, Nat.reduceLeDiff, reduceCtorEq, Nat.reduceSub, Int.reduceEq, Int.reduceLT, Int.reduceLE, Int.reduceGT, Int.reduceGE, Int.reduceSub, Int.reduceAdd, Int.reduceMul, Int.reduceNe, Int.reduceNeg, Int.reduceToNat, Nat.reduceMul, h13, h1, h5, h14, h15, c1]
      refine ⟨trivial, _, N + 0, false, rfl, ?_, by omega, hb1, hh⟩
      (first | (simp only [↓R0, R1, rdL, rdH, isCall, istep, ibin, vcells, fillI, setR, flat, okCell, isBase, List.set, List.drop, List.take, List.append, bnds, bhi, blo, srcOf, ↓reduceIte, Nat.reduceEqDiff, Nat.reduceAdd, Nat.reduceLeDiff, reduceCtorEq, Nat.reduceSub, Int.reduceEq, Int.reduceLT, Int.reduceLE, Int.reduceGT, Int.reduceGE, Int.reduceSub, Int.reduceAdd, Int.reduceMul, Int.reduceNe, Int.reduceNeg, Int.reduceToNat, Nat.reduceMul, one]; done) | (simp only [↓R0, R1, rdL, rdH, isCall, istep, ibin, vcells, fillI, setR, flat, okCell, isBase, List.set, List.drop, List.take, List.append, bnds, bhi, blo, srcOf, ↓reduceIte, Nat.reduceEqDiff, Nat.reduceAdd, Nat.reduceLeDiff, reduceCtorEq, Nat.reduceSub, Int.reduceEq, Int.reduceLT, Int.reduceLE, Int.reduceGT, Int.reduceGE, Int.reduceSub, Int.reduceAdd, Int.reduceMul, Int.reduceNe, Int.reduceNeg, Int.reduceToNat, Nat.reduceMul, one]; rfl) | rfl)
  · (first | (simp only [↓R0, R1, rdL, rdH, isCall, istep, ibin, vcells, fillI, setR, flat, okCell, isBase, List.set, List.drop, List.take, List.append, bnds, bhi, blo, srcOf, ↓reduceIte, Nat.reduceEqDiff, Nat.reduceAdd, Nat.reduceLeDiff, reduceCtorEq, Nat.reduceSub, Int.reduceEq, Int.reduceLT, Int.reduceLE, Int.reduceGT, Int.reduceGE, Int.reduceSub, Int.reduceAdd, Int.reduceMul, Int.reduceNe, Int.reduceNeg, Int.reduceToNat, Nat.reduceMul]; done) | (simp only [↓R0, R1, rdL, rdH, isCall, istep, ibin, vcells, fillI, setR, flat, okCell, isBase, List.set, List.drop, List.take, List.append, bnds, bhi, blo, srcOf, ↓reduceIte, Nat.reduceEqDiff, Nat.reduceAdd, Nat.reduceLeDiff, reduceCtorEq, Nat.reduceSub, Int.reduceEq, Int.reduceLT, Int.reduceLE, Int.reduceGT, Int.reduceGE, Int.reduceSub, Int.reduceAdd, Int.reduceMul, Int.reduceNe, Int.reduceNeg, Int.reduceToNat, Nat.reduceMul]; rfl) | rfl)
  · (first | (simp only [↓R0, R1, rdL, rdH, isCall, istep, ibin, vcells, fillI, setR, flat, okCell, isBase, List.set, List.drop, List.take, List.append, bnds, bhi, blo, srcOf, ↓reduceIte, Nat.reduceEqDiff, Nat.reduceAdd, Nat.reduceLeDiff, reduceCtorEq, Nat.reduceSub, Int.reduceEq, Int.reduceLT, Int.reduceLE, Int.reduceGT, Int.reduceGE, Int.reduceSub, Int.reduceAdd, Int.reduceMul, Int.reduceNe, Int.reduceNeg, Int.reduceToNat, Nat.reduceMul]; done) | (simp only [↓R0, R1, rdL, rdH, isCall, istep, ibin, vcells, fillI, setR, flat, okCell, isBase, List.set, List.drop, List.take, List.append, bnds, bhi, blo, srcOf, ↓reduceIte, Nat.reduceEqDiff, Nat.reduceAdd, Nat.reduceLeDiff, reduceCtorEq, Nat.reduceSub, Int.reduceEq, Int.reduceLT, Int.reduceLE, Int.reduceGT, Int.reduceGE, Int.reduceSub, Int.reduceAdd, Int.reduceMul, Int.reduceNe, Int.reduceNeg, Int.reduceToNat, Nat.reduceMul]; rfl) | rfl)
  · (first | (simp only [↓R0, R1, rdL, rdH, isCall, istep, ibin, vcells, fillI, setR, flat, okCell, isBase, List.set, List.drop, List.take, List.append, bnds, bhi, blo, srcOf, ↓reduceIte, Nat.reduceEqDiff, Nat.reduceAdd, Nat.reduceLeDiff, reduceCtorEq, Nat.reduceSub, Int.reduceEq, Int.reduceLT, Int.reduceLE, Int.reduceGT, Int.reduceGE, Int.reduceSub, Int.reduceAdd, Int.reduceMul, Int.reduceNe, Int.reduceNeg, Int.reduceToNat, Nat.reduceMul]; done) | (simp only [↓R0, R1, rdL, rdH, isCall, istep, ibin, vcells, fillI, setR, flat, okCell, isBase, List.set, List.drop, List.take, List.append, bnds, bhi, blo, srcOf, ↓reduceIte, Nat.reduceEqDiff, Nat.reduceAdd, Nat.reduceLeDiff, reduceCtorEq, Nat.reduceSub, Int.reduceEq, Int.reduceLT, Int.reduceLE, Int.reduceGT, Int.reduceGE, Int.reduceSub, Int.reduceAdd, Int.reduceMul, Int.reduceNe, Int.reduceNeg, Int.reduceToNat, Nat.reduceMul]; rfl) | rfl)
  · (first | (simp only [↓R0, R1, rdL, rdH, isCall, istep, ibin, vcells, fillI, setR, flat, okCell, isBase, List.set, List.drop, List.take, List.append, bnds, bhi, blo, srcOf, ↓reduceIte, Nat.reduceEqDiff, Nat.reduceAdd, Nat.reduceLeDiff, reduceCtorEq, Nat.reduceSub, Int.reduceEq, Int.reduceLT, Int.reduceLE, Int.reduceGT, Int.reduceGE, Int.reduceSub, Int.reduceAdd, Int.reduceMul, Int.reduceNe, Int.reduceNeg, Int.reduceToNat, Nat.reduceMul]; done) | (simp only [↓R0, R1, rdL, rdH, isCall, istep, ibin, vcells, fillI, setR, flat, okCell, isBase, List.set, List.drop, List.take, List.append, bnds, bhi, blo, srcOf, ↓reduceIte, Nat.reduceEqDiff, Nat.reduceAdd, Nat.reduceLeDiff, reduceCtorEq, Nat.reduceSub, Int.reduceEq, Int.reduceLT, Int.reduceLE, Int.reduceGT, Int.reduceGE, Int.reduceSub, Int.reduceAdd, Int.reduceMul, Int.reduceNe, Int.reduceNeg, Int.reduceToNat, Nat.reduceMul]; rfl) | rfl)
  · (first | (simp only [↓R0, R1, rdL, rdH, isCall, istep, ibin, vcells, fillI, setR, flat, okCell, isBase, List.set, List.drop, List.take, List.append, bnds, bhi, blo, srcOf, ↓reduceIte, Nat.reduceEqDiff, Nat.reduceAdd, Nat.reduceLeDiff, reduceCtorEq, Nat.reduceSub, Int.reduceEq, Int.reduceLT, Int.reduceLE, Int.reduceGT, Int.reduceGE, Int.reduceSub, Int.reduceAdd, Int.reduceMul, Int.reduceNe, Int.reduceNeg, Int.reduceToNat, Nat.reduceMul]; done) | (simp only [↓R0, R1, rdL, rdH, isCall, istep, ibin, vcells, fillI, setR, flat, okCell, isBase, List.set, List.drop, List.take, List.append, bnds, bhi, blo, srcOf, ↓reduceIte, Nat.reduceEqDiff, Nat.reduceAdd, Nat.reduceLeDiff, reduceCtorEq, Nat.reduceSub, Int.reduceEq, Int.reduceLT, Int.reduceLE, Int.reduceGT, Int.reduceGE, Int.reduceSub, Int.reduceAdd, Int.reduceMul, Int.reduceNe, Int.reduceNeg, Int.reduceToNat, Nat.reduceMul]; rfl) | rfl)
  · (first | (simp only [↓R0, R1, rdL, rdH, isCall, istep, ibin, vcells, fillI, setR, flat, okCell, isBase, List.set, List.drop, List.take, List.append, bnds, bhi, blo, srcOf, ↓reduceIte, Nat.reduceEqDiff, Nat.reduceAdd, Nat.reduceLeDiff, reduceCtorEq, Nat.reduceSub, Int.reduceEq, Int.reduceLT, Int.reduceLE, Int.reduceGT, Int.reduceGE, Int.reduceSub, Int.reduceAdd, Int.reduceMul, Int.reduceNe, Int.reduceNeg, Int.reduceToNat, Nat.reduceMul, Nat.pow_zero, Nat.mod_one, Nat.zero_mul, lm_0]; done) | (simp only [↓R0, R1, rdL, rdH, isCall, istep, ibin, vcells, fillI, setR, flat, okCell, isBase, List.set, List.drop, List.take, List.append, bnds, bhi, blo, srcOf, ↓reduceIte, Nat.reduceEqDiff, Nat.reduceAdd, Nat.reduceLeDiff, reduceCtorEq, Nat.reduceSub, Int.reduceEq, Int.reduceLT, Int.reduceLE, Int.reduceGT, Int.reduceGE, Int.reduceSub, Int.reduceAdd, Int.reduceMul, Int.reduceNe, Int.reduceNeg, Int.reduceToNat, Nat.reduceMul, Nat.pow_zero, Nat.mod_one, Nat.zero_mul, lm_0]; rfl) | rfl)
  · intro q hq
    simp only [↓R0, R1, rdL, rdH, isCall, istep, ibin, vcells, fillI, setR, flat, okCell, isBase, List.set, List.drop, List.take, List.append, bnds, bhi, blo, srcOf, ↓reduceIte, Nat.reduceEqDiff, Nat.reduceAdd, Nat.reduceLeDiff, reduceCtorEq, Nat.reduceSub, Int.reduceEq, Int.reduceLT, Int.reduceLE, Int.reduceGT, Int.reduceGE, Int.reduceSub, Int.reduceAdd, Int.reduceMul, Int.reduceNe, Int.reduceNeg, Int.reduceToNat, Nat.reduceMul, hget_new hq]
def spUnshift : List Value → Heap → Option ((Nat → Value) × Blk)
  | [v, .int .i64 s], h => match shows h v with
    | some cs => if uok cs = true ∧ cs.length ≤ 34359738368 ∧ 0 ≤ s ∧ s < 32 then
        some (fun k => .slice (some ⟨k, 0, none⟩) cs.length cs.length, ⟨80, 1, false, tb cs.length (lm (ud cs / 2 ^ s.toNat))⟩) else none
    | none => none
  | _, _ => none
def c90 : ICode :=
  (.seq (.reg [⟨(some 4), none, (.mv (.c (.slice none 0 0)))⟩])
  (.seq (.reg [⟨(some 8), none, (.mv (.t 0))⟩, ⟨(some 9), none, (.lensl (.t 8))⟩, ⟨(some 10), none, (.mkslice 80 1 4 [(.int .u32 0)] (.t 9) (.t 9))⟩, ⟨(some 5), none, (.mv (.t 10))⟩])
  (.seq (.seq (.reg [⟨(some 11), none, (.mv (.t 0))⟩, ⟨(some 12), none, (.lensl (.t 11))⟩, ⟨(some 13), none, (.mv (.c (.int .i64 0)))⟩])
  (.block 0 (.loop (.seq (.reg [⟨(some 14), none, (.bin .lss (.t 13) (.t 12))⟩])
  (.seq (.cond (.t 14)
  .skip
  (.exit 0))
  (.seq (.block 1 (.seq (.reg [⟨(some 15), none, (.mv (.t 13))⟩, ⟨(some 6), none, (.mv (.t 15))⟩])
  (.seq (.reg [⟨(some 16), none, (.mv (.t 0))⟩, ⟨(some 17), none, (.mv (.t 6))⟩, ⟨(some 18), none, (.ixsl 1 (.t 16) (.t 17))⟩, ⟨(some 19), none, (.load false 1 (.t 18))⟩, ⟨(some 20), none, (.conv .u64 (.t 19))⟩, ⟨(some 7), none, (.mv (.t 20))⟩])
  (.seq (.seq (.reg [⟨(some 21), none, (.mv (.t 6))⟩, ⟨(some 22), none, (.bin .add (.t 21) (.c (.int .i64 1)))⟩, ⟨(some 23), none, (.mv (.t 0))⟩, ⟨(some 24), none, (.lensl (.t 23))⟩, ⟨(some 25), none, (.bin .lss (.t 22) (.t 24))⟩])
  (.cond (.t 25)
  (.reg [⟨(some 26), none, (.mv (.t 7))⟩, ⟨(some 27), none, (.mv (.t 0))⟩, ⟨(some 28), none, (.mv (.t 6))⟩, ⟨(some 29), none, (.bin .add (.t 28) (.c (.int .i64 1)))⟩, ⟨(some 30), none, (.ixsl 1 (.t 27) (.t 29))⟩, ⟨(some 31), none, (.load false 1 (.t 30))⟩, ⟨(some 32), none, (.conv .u64 (.t 31))⟩, ⟨(some 33), none, (.bin .shl (.t 32) (.c (.int .u64 32)))⟩, ⟨(some 34), none, (.bin .or (.t 26) (.t 33))⟩, ⟨(some 7), none, (.mv (.t 34))⟩])
  .skip))
  (.reg [⟨(some 35), none, (.mv (.t 5))⟩, ⟨(some 36), none, (.mv (.t 6))⟩, ⟨(some 37), none, (.mv (.t 7))⟩, ⟨(some 38), none, (.mv (.t 1))⟩, ⟨(some 39), none, (.bin .shr (.t 37) (.t 38))⟩, ⟨(some 40), none, (.conv .u32 (.t 39))⟩, ⟨(some 41), none, (.ixsl 1 (.t 35) (.t 36))⟩, ⟨none, none, (.store 1 (.t 41) (.t 40))⟩])))))
  (.reg [⟨(some 42), none, (.bin .add (.t 13) (.c (.int .i64 1)))⟩, ⟨(some 13), none, (.mv (.t 42))⟩])))))))
  (.seq (.reg [⟨(some 43), none, (.mv (.t 5))⟩, ⟨(some 4), none, (.mv (.t 43))⟩])
  .ret))))
theorem tr90 : trFun Tryd.prog 90 = some ⟨44, [.t 4], c90⟩ := by kernel_rfl
set_option maxHeartbeats 1000000 in
theorem ok_nunshift : SpecOK Tryd.prog 90 (nwS spUnshift) := by
  refine nw_run (env_nil _) mixed tr90 ?_ ?_
  · intro args h h' v hle e
    unfold spUnshift at e ⊢
    split at e
    · split at e
      · rename_i cs hcs
        simp only [shows_mono hle hcs]; exact e
      · cases e
    · cases e
  intro args vf b h N hG hN
  unfold spUnshift at hG
  split at hG
  case h_2 => cases hG
  rename_i sv s _
  split at hG
  case h_2 => cases hG
  rename_i cs hcs
  split at hG
  case isFalse => cases hG
  rename_i hl
  obtain ⟨hu, hl, hs0, hs⟩ := hl
  cases hG
  refine ⟨rfl, tb_base _ _, vr1_sl _ _ _, by simp, ?_⟩
  obtain ⟨kb, off, K, cap, blk, rfl, hb, hle, hcell, hV, hlen⟩ := shows_tb hcs hu
  have hkb := hN _ _ hb
  have hne : ∀ a, ¬ (N + a = kb) := fun a => by omega
  rw [hlen] at hl ⊢
  generalize ud cs = V at *
  obtain ⟨s, rfl⟩ := Int.eq_ofNat_of_zero_le hs0
  simp only [Int.toNat_natCast]
  have hs' : s < 32 := by omega
  have g2 : 4 * (K : Int) ≤ 281474976710656 := by omega
  have g3 : (K : Int) ≤ 9223372036854775807 := by omega
  simp only [c90, initT, List.zipIdx_cons, List.zipIdx_nil, List.map_cons, List.map_nil, Nat.reduceAdd]
  simp only [↓R0, R1, rdL, rdH, isCall, istep, ibin, vcells, fillI, setR, flat, okCell, isBase, List.set, List.drop, List.take, List.append, bnds, bhi, blo, srcOf, ↓reduceIte, Nat.reduceEqDiff, Nat.reduceAdd, Nat.reduceLeDiff, reduceCtorEq, Nat.reduceSub, Int.reduceEq, Int.reduceLT, Int.reduceLE, Int.reduceGT, Int.reduceGE, Int.reduceSub, Int.reduceAdd, Int.reduceMul, Int.reduceNe, Int.reduceNeg, Int.reduceToNat, Nat.reduceMul, g2, g3, tb_rep]
  clear g2 g3
  refine lp_parts (fun m tm hp nx => ∃ (i : Nat) (f : Nat → Nat), m + i = K ∧ tmget tm 0 = .slice (some ⟨kb, off, none⟩) K cap ∧ tmget tm 1 = .int .i64 (s : Nat) ∧ tmget tm 5 = .slice (some ⟨N + 0, 0, none⟩) K K ∧
      tmget tm 12 = .int .i64 K ∧ tmget tm 13 = .int .i64 i ∧
      hget hp (N + 0) = some ⟨80, 1, false, tb K f⟩ ∧ (∀ j, j < i → f j = lm (V / 2 ^ s) j) ∧ (∀ q, q < N → hget hp q = hget h q) ∧ nx = N + 1) ?_ K
    ⟨0, fun _ => 0, by omega, ?_, ?_, ?_, ?_, ?_, ?_, fun j hj => by omega, ?_, rfl⟩
  · intro m tm hp nx ⟨i, f, hm, h0, h1, h5, h12, h13, hb1, hf, hh, hnx⟩
    subst hnx
    by_cases c1 : i < K
    · have hbb : hget hp kb = some blk := by rw [hh kb hkb]; exact hb
      have v5 := hcell i c1
      have q1 := shr_limb (n := V) (i := i) hs'
      have c2' : i + 1 ≤ K := by omega
      have b1 := lm_lt V i
      have b2 := lm_lt V (i + 1)
      have w1 := u64_nat (n := lm V i) (by omega)
      have w2 := u64_nat (n := lm V (i + 1)) (by omega)
      have w3 : IntKind.u64.wrap ((lm V (i + 1) : Int) * 2 ^ min 32 IntKind.u64.bits) = ((lm V (i + 1) * 2 ^ 32 : Nat) : Int) := shl64 (by omega) (by omega)
      have w4 := or_u64 (x := lm V i) (c := lm V (i + 1)) (s := 32) (by omega) (by omega)
      have w5 : ∀ z : Nat, (z : Int).fdiv (2 ^ min s IntKind.u64.bits) = ((z / 2 ^ s : Nat) : Int) := by
        intro z
        have : min s IntKind.u64.bits = s := Nat.min_eq_left (by have : IntKind.u64.bits = 64 := rfl; omega)
        rw [this, Int.fdiv_eq_ediv_of_nonneg _ (Int.pow_nonneg (by omega)), Int.natCast_ediv, Int.natCast_pow]; rfl
      have w6 : ∀ z : Nat, IntKind.u32.wrap (z : Int) = ((z % 4294967296 : Nat) : Int) := u32_mod
      have w7 : ¬ ((s : Int) < 0) := by omega
      have e3 : IntKind.i64.wrap ((i : Int) + 1) = ((i + 1 : Nat) : Int) := by rw [i64_in _ (by omega)]; omega
      by_cases c3 : i + 1 < K
      · have v6 := hcell (i + 1) c3
        have ea : off + (i + 1) = off + (i + 1) := rfl
        simp only [↓R0, R1, rdL, rdH, isCall, istep, ibin, vcells, fillI, setR, flat, okCell, isBase, List.set, List.drop, List.take, List.append, bnds, bhi, blo, srcOf, ↓reduceIte, Nat.reduceEqDiff, Nat.reduceAdd, Nat.reduceLeDiff, reduceCtorEq, Nat.reduceSub, Int.reduceEq, Int.reduceLT, Int.reduceLE, Int.reduceGT, Int.reduceGE, Int.reduceSub, Int.reduceAdd, Int.reduceMul, Int.reduceNe, Int.reduceNeg, Int.reduceToNat, Nat.reduceMul, h0, h1, h5, h12, h13, hb1, hbb, c1, c2', c3, e3, v5, v6, w1, w2, w3, w4, w5, w6, w7, tb_length, tb_set]
        refine ⟨m - 1, by omega, i + 1, _, by omega, rfl, rfl, fun j hj => ?_, ?_⟩
        · by_cases g : j = i
          · rw [if_pos g, g, q1]
          · rw [if_neg g]; exact hf j (by omega)
        · intro q hq
          simp only [if_neg (show ¬ N + 0 = q by omega)]
          exact hh q hq
      · have hz : lm V (i + 1) = 0 := lm_of_lt' hV (by omega)
        rw [hz, Nat.zero_mul, Nat.add_zero] at q1
        simp only [↓R0, R1, rdL, rdH, isCall, istep, ibin, vcells, fillI, setR, flat, okCell, isBase, List.set, List.drop, List.take, List.append, bnds, bhi, blo, srcOf, ↓reduceIte, Nat.reduceEqDiff, Nat.reduceAdd, Nat.reduceLeDiff, reduceCtorEq, Nat.reduceSub, Int.reduceEq, Int.reduceLT, Int.reduceLE, Int.reduceGT, Int.reduceGE, Int.reduceSub, Int.reduceAdd, Int.reduceMul, Int.reduceNe, Int.reduceNeg, Int.reduceToNat, Nat.reduceMul, h0, h1, h5, h12, h13, hb1, hbb, c1, c2', c3, e3, v5, w1, w5, w6, w7, tb_length, tb_set]
        refine ⟨m - 1, by omega, i + 1, _, by omega, rfl, rfl, fun j hj => ?_, ?_⟩
        · by_cases g : j = i
          · rw [if_pos g, g, q1]
          · rw [if_neg g]; exact hf j (by omega)
        · intro q hq
          simp only [if_neg (show ¬ N + 0 = q by omega)]
          exact hh q hq
    · have ei : i = K := by omega
      subst ei
      have htb : tb i f = tb i (lm (V / 2 ^ s)) := tb_congr hf
      simp only [↓R0, R1, rdL, rdH, isCall, istep, ibin, vcells, fillI, setR, flat, okCell, isBase, List.set, List.drop, List.take, List.append, bnds, bhi, blo, srcOf, ↓reduceIte, Nat.reduceEqDiff, Nat.reduceAdd, Nat.reduceLeDiff, reduceCtorEq, Nat.reduceSub, Int.reduceEq, Int.reduceLT, Int.reduceLE, Int.reduceGT, Int.reduceGE, Int.reduceSub, Int.reduceAdd, Int.reduceMul, Int.reduceNe, Int.reduceNeg, Int.reduceToNat, Nat.reduceMul, h0, h1, h5, h12, h13, c1]
      refine ⟨trivial, _, N + 0, false, rfl, ?_, by omega, by rw [hb1, htb], hh⟩
      (first | (simp only [↓R0, R1, rdL, rdH, isCall, istep, ibin, vcells, fillI, setR, flat, okCell, isBase, List.set, List.drop, List.take, List.append, bnds, bhi, blo, srcOf, ↓reduceIte, Nat.reduceEqDiff, Nat.reduceAdd, Nat.reduceLeDiff, reduceCtorEq, Nat.reduceSub, Int.reduceEq, Int.reduceLT, Int.reduceLE, Int.reduceGT, Int.reduceGE, Int.reduceSub, Int.reduceAdd, Int.reduceMul, Int.reduceNe, Int.reduceNeg, Int.reduceToNat, Nat.reduceMul, one]; done) | (simp only [↓R0, R1, rdL, rdH, isCall, istep, ibin, vcells, fillI, setR, flat, okCell, isBase, List.set, List.drop, List.take, List.append, bnds, bhi, blo, srcOf, ↓reduceIte, Nat.reduceEqDiff, Nat.reduceAdd, Nat.reduceLeDiff, reduceCtorEq, Nat.reduceSub, Int.reduceEq, Int.reduceLT, Int.reduceLE, Int.reduceGT, Int.reduceGE, Int.reduceSub, Int.reduceAdd, Int.reduceMul, Int.reduceNe, Int.reduceNeg, Int.reduceToNat, Nat.reduceMul, one]; rfl) | rfl)
  · (first | (simp only [↓R0, R1, rdL, rdH, isCall, istep, ibin, vcells, fillI, setR, flat, okCell, isBase, List.set, List.drop, List.take, List.append, bnds, bhi, blo, srcOf, ↓reduceIte, Nat.reduceEqDiff, Nat.reduceAdd, Nat.reduceLeDiff, reduceCtorEq, Nat.reduceSub, Int.reduceEq, Int.reduceLT, Int.reduceLE, Int.reduceGT, Int.reduceGE, Int.reduceSub, Int.reduceAdd, Int.reduceMul, Int.reduceNe, Int.reduceNeg, Int.reduceToNat, Nat.reduceMul]; done) | (simp only [↓R0, R1, rdL, rdH, isCall, istep, ibin, vcells, fillI, setR, flat, okCell, isBase, List.set, List.drop, List.take, List.append, bnds, bhi, blo, srcOf, ↓reduceIte, Nat.reduceEqDiff, Nat.reduceAdd, Nat.reduceLeDiff, reduceCtorEq, Nat.reduceSub, Int.reduceEq, Int.reduceLT, Int.reduceLE, Int.reduceGT, Int.reduceGE, Int.reduceSub, Int.reduceAdd, Int.reduceMul, Int.reduceNe, Int.reduceNeg, Int.reduceToNat, Nat.reduceMul]; rfl) | rfl)
  · (first | (simp only [↓R0, R1, rdL, rdH, isCall, istep, ibin, vcells, fillI, setR, flat, okCell, isBase, List.set, List.drop, List.take, List.append, bnds, bhi, blo, srcOf, ↓reduceIte, Nat.reduceEqDiff, Nat.reduceAdd, Nat.reduceLeDiff, reduceCtorEq, Nat.reduceSub, Int.reduceEq, Int.reduceLT, Int.reduceLE, Int.reduceGT, Int.reduceGE, Int.reduceSub, Int.reduceAdd, Int.reduceMul, Int.reduceNe, Int.reduceNeg, Int.reduceToNat, Nat.reduceMul]; done) | (simp only [↓R0, R1, rdL, rdH, isCall, istep, ibin, vcells, fillI, setR, flat, okCell, isBase, List.set, List.drop, List.take, List.append, bnds, bhi, blo, srcOf, ↓reduceIte, Nat.reduceEqDiff, Nat.reduceAdd, Nat.reduceLeDiff, reduceCtorEq, Nat.reduceSub, Int.reduceEq, Int.reduceLT, Int.reduceLE, Int.reduceGT, Int.reduceGE, Int.reduceSub, Int.reduceAdd, Int.reduceMul, Int.reduceNe, Int.reduceNeg, Int.reduceToNat, Nat.reduceMul]; rfl) | rfl)
  · (first | (simp only [↓R0, R1, rdL, rdH, isCall, istep, ibin, vcells, fillI, setR, flat, okCell, isBase, List.set, List.drop, List.take, List.append, bnds, bhi, blo, srcOf, ↓reduceIte, Nat.reduceEqDiff, Nat.reduceAdd, Nat.reduceLeDiff, reduceCtorEq, Nat.reduceSub, Int.reduceEq, Int.reduceLT, Int.reduceLE, Int.reduceGT, Int.reduceGE, Int.reduceSub, Int.reduceAdd, Int.reduceMul, Int.reduceNe, Int.reduceNeg, Int.reduceToNat, Nat.reduceMul]; done) | (simp only [↓R0, R1, rdL, rdH, isCall, istep, ibin, vcells, fillI, setR, flat, okCell, isBase, List.set, List.drop, List.take, List.append, bnds, bhi, blo, srcOf, ↓reduceIte, Nat.reduceEqDiff, Nat.reduceAdd, Nat.reduceLeDiff, reduceCtorEq, Nat.reduceSub, Int.reduceEq, Int.reduceLT, Int.reduceLE, Int.reduceGT, Int.reduceGE, Int.reduceSub, Int.reduceAdd, Int.reduceMul, Int.reduceNe, Int.reduceNeg, Int.reduceToNat, Nat.reduceMul]; rfl) | rfl)
  · (first | (simp only [↓R0, R1, rdL, rdH, isCall, istep, ibin, vcells, fillI, setR, flat, okCell, isBase, List.set, List.drop, List.take, List.append, bnds, bhi, blo, srcOf, ↓reduceIte, Nat.reduceEqDiff, Nat.reduceAdd, Nat.reduceLeDiff, reduceCtorEq, Nat.reduceSub, Int.reduceEq, Int.reduceLT, Int.reduceLE, Int.reduceGT, Int.reduceGE, Int.reduceSub, Int.reduceAdd, Int.reduceMul, Int.reduceNe, Int.reduceNeg, Int.reduceToNat, Nat.reduceMul]; done) | (simp only [↓R0, R1, rdL, rdH, isCall, istep, ibin, vcells, fillI, setR, flat, okCell, isBase, List.set, List.drop, List.take, List.append, bnds, bhi, blo, srcOf, ↓reduceIte, Nat.reduceEqDiff, Nat.reduceAdd, Nat.reduceLeDiff, reduceCtorEq, Nat.reduceSub, Int.reduceEq, Int.reduceLT, Int.reduceLE, Int.reduceGT, Int.reduceGE, Int.reduceSub, Int.reduceAdd, Int.reduceMul, Int.reduceNe, Int.reduceNeg, Int.reduceToNat, Nat.reduceMul]; rfl) | rfl)
  · (first | (simp only [↓R0, R1, rdL, rdH, isCall, istep, ibin, vcells, fillI, setR, flat, okCell, isBase, List.set, List.drop, List.take, List.append, bnds, bhi, blo, srcOf, ↓reduceIte, Nat.reduceEqDiff, Nat.reduceAdd, Nat.reduceLeDiff, reduceCtorEq, Nat.reduceSub, Int.reduceEq, Int.reduceLT, Int.reduceLE, Int.reduceGT, Int.reduceGE, Int.reduceSub, Int.reduceAdd, Int.reduceMul, Int.reduceNe, Int.reduceNeg, Int.reduceToNat, Nat.reduceMul]; done) | (simp only [↓R0, R1, rdL, rdH, isCall, istep, ibin, vcells, fillI, setR, flat, okCell, isBase, List.set, List.drop, List.take, List.append, bnds, bhi, blo, srcOf, ↓reduceIte, Nat.reduceEqDiff, Nat.reduceAdd, Nat.reduceLeDiff, reduceCtorEq, Nat.reduceSub, Int.reduceEq, Int.reduceLT, Int.reduceLE, Int.reduceGT, Int.reduceGE, Int.reduceSub, Int.reduceAdd, Int.reduceMul, Int.reduceNe, Int.reduceNeg, Int.reduceToNat, Nat.reduceMul]; rfl) | rfl)
  · (first | (simp only [↓R0, R1, rdL, rdH, isCall, istep, ibin, vcells, fillI, setR, flat, okCell, isBase, List.set, List.drop, List.take, List.append, bnds, bhi, blo, srcOf, ↓reduceIte, Nat.reduceEqDiff, Nat.reduceAdd, Nat.reduceLeDiff, reduceCtorEq, Nat.reduceSub, Int.reduceEq, Int.reduceLT, Int.reduceLE, Int.reduceGT, Int.reduceGE, Int.reduceSub, Int.reduceAdd, Int.reduceMul, Int.reduceNe, Int.reduceNeg, Int.reduceToNat, Nat.reduceMul]; done) | (simp only [↓R0, R1, rdL, rdH, isCall, istep, ibin, vcells, fillI, setR, flat, okCell, isBase, List.set, List.drop, List.take, List.append, bnds, bhi, blo, srcOf, ↓reduceIte, Nat.reduceEqDiff, Nat.reduceAdd, Nat.reduceLeDiff, reduceCtorEq, Nat.reduceSub, Int.reduceEq, Int.reduceLT, Int.reduceLE, Int.reduceGT, Int.reduceGE, Int.reduceSub, Int.reduceAdd, Int.reduceMul, Int.reduceNe, Int.reduceNeg, Int.reduceToNat, Nat.reduceMul]; rfl) | rfl)
  · intro q hq
    simp only [↓R0, R1, rdL, rdH, isCall, istep, ibin, vcells, fillI, setR, flat, okCell, isBase, List.set, List.drop, List.take, List.append, bnds, bhi, blo, srcOf, ↓reduceIte, Nat.reduceEqDiff, Nat.reduceAdd, Nat.reduceLeDiff, reduceCtorEq, Nat.reduceSub, Int.reduceEq, Int.reduceLT, Int.reduceLE, Int.reduceGT, Int.reduceGE, Int.reduceSub, Int.reduceAdd, Int.reduceMul, Int.reduceNe, Int.reduceNeg, Int.reduceToNat, Nat.reduceMul, hget_new hq]
end Go.Eng
end
section
set_option linter.unusedVariables false
set_option linter.unusedSimpArgs false
set_option linter.unusedSectionVars false
namespace Go.Eng
def cyM (d q i : Nat) : Nat := q * (d % 4294967296 ^ i) / 4294967296 ^ i
theorem cyM_zero (d q : Nat) : cyM d q 0 = 0 := by simp [cyM, Nat.mod_one]
theorem cyM_div (d q i : Nat) : q * (d % 4294967296 ^ (i + 1)) / 4294967296 ^ i = lm d i * q + cyM d q i := by
  unfold cyM
  rw [mod_step, Nat.mul_add, Nat.mul_comm (4294967296 ^ i), ← Nat.mul_assoc, Nat.add_mul_div_right _ _ (pB i), Nat.mul_comm q (lm d i)]
  omega
theorem cyM_succ (d q i : Nat) : cyM d q (i + 1) = (lm d i * q + cyM d q i) / 4294967296 := by
  rw [← cyM_div]; unfold cyM; rw [Nat.pow_succ, ← Nat.div_div_eq_div_mul]
theorem cyM_limb (d q i : Nat) : lm (q * d) i = (lm d i * q + cyM d q i) % 4294967296 := by
  rw [← cyM_div]
  have e : q * d = q * (d % 4294967296 ^ (i + 1)) + q * (d / 4294967296 ^ (i + 1)) * 4294967296 ^ (i + 1) := by
    conv => lhs; rw [← Nat.mod_add_div d (4294967296 ^ (i + 1))]
    rw [Nat.mul_add, Nat.mul_assoc, Nat.mul_comm (4294967296 ^ (i + 1))]
  rw [e, lm_add_mul (Nat.lt_succ_self i)]; rfl
theorem cyM_lt {d q i : Nat} (hq : q < 4294967296) : cyM d q i < 4294967296 ∧ lm d i * q + cyM d q i < 18446744073709551616 := by
  have h1 : cyM d q i < 4294967296 := by
    unfold cyM
    rw [Nat.div_lt_iff_lt_mul (pB i)]
    have hm := Nat.mod_lt d (pB i)
    exact Nat.mul_lt_mul'' hq hm
  have h2 := lm_lt d i
  have h3 : lm d i * q ≤ 4294967295 * 4294967295 := Nat.mul_le_mul (by omega) (by omega)
  exact ⟨h1, by omega⟩
theorem cyM_top {d q m : Nat} (hd : d < 4294967296 ^ m) (hq : q < 4294967296) : cyM d q m = lm (q * d) m ∧ q * d < 4294967296 ^ (m + 1) := by
  have h : q * d < 4294967296 ^ (m + 1) := by rw [Nat.pow_succ, Nat.mul_comm]; exact Nat.mul_lt_mul'' hd hq
  exact ⟨by rw [lm_top h]; unfold cyM; rw [Nat.mod_eq_of_lt hd], h⟩
def tkT (u p m : Nat) : Nat := u + 4294967296 ^ (m + 1) - p
theorem tk_limb {u p m i : Nat} (hp : p < 4294967296 ^ (m + 1)) (hi : i ≤ m) : ((lm u i : Int) - lm p i - cyS u p i) % 4294967296 = (lm (tkT u p m) i : Int) := by
  refine (sub_limb ?_).symm
  have h := mod_add_cases p (tkT u p m) (pB (i + 1))
  have e : p + tkT u p m = u + 4294967296 ^ (m + 1) := by unfold tkT; omega
  rw [e] at h
  have e2 : 4294967296 ^ (m + 1) = 4294967296 ^ (i + 1) * 4294967296 ^ (m - i) := by rw [← Nat.pow_add]; congr 1; omega
  rw [e2, Nat.add_mul_mod_self_left] at h
  exact h
theorem tk_cy {u p m : Nat} (hu : u < 4294967296 ^ (m + 1)) (hp : p < 4294967296 ^ (m + 1)) : cyS u p (m + 1) = if u < p then 1 else 0 := by
  unfold cyS; rw [Nat.mod_eq_of_lt hu, Nat.mod_eq_of_lt hp]
theorem cyS_int (a b i : Nat) : (if (lm a i : Int) < lm b i + cyS a b i then (1 : Int) else 0) = (cyS a b (i + 1) : Int) := by
  rw [cyS_succ]
  by_cases g : lm a i < lm b i + cyS a b i
  · rw [if_pos g, if_pos (by omega)]; rfl
  · rw [if_neg g, if_neg (by omega)]; rfl
def tkX (u p d m : Nat) : Nat := if u < p then u + 4294967296 ^ (m + 1) - p + d else u - p
theorem tk_done {u p d m j : Nat} (h : ¬ u < p) (hj : j ≤ m) : lm (tkT u p m) j = lm (tkX u p d m) j := by
  unfold tkX tkT
  rw [if_neg h, show u + 4294967296 ^ (m + 1) - p = u - p + 1 * 4294967296 ^ (m + 1) by omega, lm_add_mul (by omega)]
theorem seg_limb {W off len i : Nat} (h : i < len) : lm (W / 4294967296 ^ off % 4294967296 ^ len) i = lm W (off + i) := by
  rw [lm_mod h, lm_shift]
def tkCells (W off m D q L : Nat) : List Value :=
  tb L fun j => if off ≤ j ∧ j < off + (m + 1) then lm (tkX (W / 4294967296 ^ off % 4294967296 ^ (m + 1)) (q * D) D m) (j - off) else lm W j
end Go.Eng
end
