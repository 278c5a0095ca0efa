/-
  A part of the proof: the machine, the contracts of the functions and the plain laws, merged from smaller texts.
-/
import Derived.Test.YtcmhlhgddifpeaaGreatDoorLi2
import Derived.IntWalk
section
set_option linter.unusedVariables false
set_option linter.unusedSimpArgs false
set_option linter.unusedSectionVars false
namespace Go.Eng
def rE (q : Rat) : List Value := [.bool (decide (q.num < 0)), .string ⟨⟨bl q.num.natAbs⟩⟩, .string ⟨⟨if q.den = 1 then [] else bl q.den⟩⟩]
def dv (d : List UInt8) : Int := if nl d = 0 then 1 else (nl d : Int)
def rv (s : Bool) (n d : List UInt8) : Rat := Rat.divInt (sv s n) (dv d)
theorem dv_pos (d : List UInt8) : 0 < dv d := by unfold dv; split <;> omega
theorem dv_can (q : Rat) : dv (if q.den = 1 then [] else bl q.den) = (q.den : Int) := by
  unfold dv
  by_cases h : q.den = 1
  · rw [if_pos h]; simp [nl, h]
  · rw [if_neg h, nl_bl, if_neg q.den_nz]
theorem rv_can (q : Rat) : rv (decide (q.num < 0)) (bl q.num.natAbs) (if q.den = 1 then [] else bl q.den) = q := by
  unfold rv; rw [sv_can, dv_can, Rat.num_divInt_den]
theorem divInt_cells {N D : Int} (hD : D ≠ 0) : (Rat.divInt N D).num.natAbs = N.natAbs / Nat.gcd N.natAbs D.natAbs ∧ (Rat.divInt N D).den = D.natAbs / Nat.gcd N.natAbs D.natAbs ∧
    ((Rat.divInt N D).num < 0 ↔ (decide (N < 0) ≠ decide (D < 0) ∧ N ≠ 0)) := by
  have hg : D.gcd N = Nat.gcd N.natAbs D.natAbs := by rw [Int.gcd_comm]; rfl
  have hG : 0 < Nat.gcd N.natAbs D.natAbs := Nat.gcd_pos_of_pos_right _ (by omega)
  rw [Rat.num_divInt, Rat.den_divInt, if_neg hD, hg]
  obtain ⟨k, hk⟩ : ∃ k, N.natAbs = Nat.gcd N.natAbs D.natAbs * k := Nat.gcd_dvd_left _ _
  generalize Nat.gcd N.natAbs D.natAbs = G at *
  have e : D.sign * N = (G : Int) * (D.sign * N.sign * (k : Int)) := by
    have : N = N.sign * (N.natAbs : Int) := by rw [Int.sign_mul_natAbs]
    conv => lhs; rw [this, hk]
    rw [Int.natCast_mul]
    grind
  rw [e, Int.mul_ediv_cancel_left _ (by omega)]
  refine ⟨?_, rfl, ?_⟩
  · rw [Int.natAbs_mul, Int.natAbs_mul, hk, Nat.mul_div_cancel_left _ hG]
    rcases Int.lt_trichotomy N 0 with h | h | h
    · rw [Int.sign_eq_neg_one_of_neg h]
      rcases Int.lt_trichotomy D 0 with h' | h' | h'
      · rw [Int.sign_eq_neg_one_of_neg h']; simp
      · exact absurd h' hD
      · rw [Int.sign_eq_one_of_pos h']; simp
    · subst h
      have : k = 0 := by
        rcases Nat.eq_zero_or_pos k with h | h
        · exact h
        · have := Nat.mul_pos hG h; simp at hk; omega
      subst this; simp
    · rw [Int.sign_eq_one_of_pos h]
      rcases Int.lt_trichotomy D 0 with h' | h' | h'
      · rw [Int.sign_eq_neg_one_of_neg h']; simp
      · exact absurd h' hD
      · rw [Int.sign_eq_one_of_pos h']; simp
  · have hk0 : N ≠ 0 → 0 < k := by
      intro h
      rcases Nat.eq_zero_or_pos k with e | e
      · subst e; simp at hk; omega
      · exact e
    rcases Int.lt_trichotomy N 0 with h | h | h
    · have := hk0 (by omega)
      rw [Int.sign_eq_neg_one_of_neg h]
      rcases Int.lt_trichotomy D 0 with h' | h' | h'
      · rw [Int.sign_eq_neg_one_of_neg h']; simp [h, h']
      · exact absurd h' hD
      · rw [Int.sign_eq_one_of_pos h']; simp [h]; omega
    · subst h; simp
    · have := hk0 (by omega)
      rw [Int.sign_eq_one_of_pos h]
      rcases Int.lt_trichotomy D 0 with h' | h' | h'
      · rw [Int.sign_eq_neg_one_of_neg h']; simp [h']; omega
      · exact absurd h' hD
      · rw [Int.sign_eq_one_of_pos h']; simp; omega
end Go.Eng
end
section
set_option linter.unusedVariables false
set_option linter.unusedSimpArgs false
set_option linter.unusedSectionVars false
set_option maxRecDepth 4000
namespace Go.Eng
open Go Go.Proofs Go.IntWalk
def spOne : List Value → Option Value
  | [] => some (.agg ⟨iE 1⟩)
  | _ => none
def c124 : ICode :=
  (.seq (.reg [⟨(some 0), none, (.alloc 23 2 [(.bool false), (.string ⟨⟨[]⟩⟩)])⟩])
  (.seq (.reg [⟨(some 1), none, (.call 48 [(.c (.int .i64 1))])⟩, ⟨none, none, (.store 2 (.t 0) (.t 1))⟩])
  .ret))
theorem tr124 : trFun Tryz.prog 124 = some ⟨2, [.cell 0 true 2], c124⟩ := by kernel_rfl
theorem ok_r3one : SpecOK Tryz.prog 124 (flat spOne) := by
  refine flat_run (env_cons ok_r2From (env_nil _)) mixed tr124 ?_
  intro args v h N hG
  unfold spOne at hG
  split at hG
  case h_2 => cases hG
  cases hG
  refine ⟨rfl, by simp, ?_⟩
  simp only [c124, initT, List.zipIdx_cons, List.zipIdx_nil, List.map_cons, List.map_nil, Nat.reduceAdd]
  simp only [↓R0, R1, rdL, rdH, isCall, istep, ibin, vcells, fillI, setR, flat, okCell, isBase, List.set, List.drop, List.take, List.append, bnds, bhi, blo, srcOf, ↓reduceIte, Nat.reduceEqDiff, Nat.reduceAdd, Nat.reduceLeDiff, reduceCtorEq, Nat.reduceSub, Int.reduceEq, Int.reduceLT, Int.reduceLE, Int.reduceGT, Int.reduceGE, Int.reduceSub, Int.reduceAdd, Int.reduceMul, Int.reduceNe, Int.reduceNeg, Int.reduceToNat, Nat.reduceMul, spI2From, iE, Fin, isEnd, resL, res1]
  refine ⟨_, rfl, rfl, fun k hk => ?_⟩
  simp only [if_neg (show ¬ N + 0 = k by omega)]
def spAbove : List Value → Option Value
  | [.agg ⟨[.bool s, .string ⟨⟨n⟩⟩, .string ⟨⟨d⟩⟩]⟩] => if n.length ≤ 1099511627776 then some (.agg ⟨iE (sv s n)⟩) else none
  | _ => none
def c85 : ICode :=
  (.seq (.reg [⟨(some 1), none, (.box 47 3 (.t 0))⟩, ⟨(some 2), none, (.alloc 23 2 [(.bool false), (.string ⟨⟨[]⟩⟩)])⟩])
  (.seq (.reg [⟨(some 3), none, (.faddr 0 (.t 1))⟩, ⟨(some 4), none, (.load false 1 (.t 3))⟩, ⟨(some 5), none, (.faddr 1 (.t 1))⟩, ⟨(some 6), none, (.load false 1 (.t 5))⟩, ⟨(some 7), none, (.build [(.bool false), (.string ⟨⟨[]⟩⟩)] [(0, 1, (.t 4)), (1, 1, (.t 6))])⟩, ⟨(some 8), none, (.call 46 [(.t 7)])⟩, ⟨none, none, (.store 2 (.t 2) (.t 8))⟩])
  .ret))
theorem tr85 : trFun Tryz.prog 85 = some ⟨9, [.cell 2 true 2], c85⟩ := by kernel_rfl
theorem ok_r3above : SpecOK Tryz.prog 85 (flat spAbove) := by
  refine flat_run (env_cons ok_r2Norm (env_nil _)) mixed tr85 ?_
  intro args v h N hG
  unfold spAbove at hG
  split at hG
  case h_2 => cases hG
  rename_i s n d
  split at hG
  case isFalse => cases hG
  rename_i hl
  cases hG
  refine ⟨rfl, by simp, ?_⟩
  simp only [c85, initT, List.zipIdx_cons, List.zipIdx_nil, List.map_cons, List.map_nil, Nat.reduceAdd]
  simp only [↓R0, R1, rdL, rdH, isCall, istep, ibin, vcells, fillI, setR, flat, okCell, isBase, List.set, List.drop, List.take, List.append, bnds, bhi, blo, srcOf, ↓reduceIte, Nat.reduceEqDiff, Nat.reduceAdd, Nat.reduceLeDiff, reduceCtorEq, Nat.reduceSub, Int.reduceEq, Int.reduceLT, Int.reduceLE, Int.reduceGT, Int.reduceGE, Int.reduceSub, Int.reduceAdd, Int.reduceMul, Int.reduceNe, Int.reduceNeg, Int.reduceToNat, Nat.reduceMul, spI2Norm, hl, iE, Fin, isEnd, resL, res1]
  refine ⟨_, rfl, rfl, fun k hk => ?_⟩
  simp only [if_neg (show ¬ N + 1 = k by omega), if_neg (show ¬ N + 0 = k by omega)]
def spBelow : List Value → Option Value
  | [.agg ⟨[.bool s, .string ⟨⟨n⟩⟩, .string ⟨⟨d⟩⟩]⟩] => if d.length ≤ 1099511627776 then some (.agg ⟨iE (dv d)⟩) else none
  | _ => none
def c88 : ICode :=
  (.seq (.reg [⟨(some 1), none, (.box 47 3 (.t 0))⟩, ⟨(some 2), none, (.alloc 23 2 [(.bool false), (.string ⟨⟨[]⟩⟩)])⟩])
  (.seq (.reg [⟨(some 4), none, (.faddr 2 (.t 1))⟩, ⟨(some 5), none, (.load false 1 (.t 4))⟩, ⟨(some 6), none, (.build [(.bool false), (.string ⟨⟨[]⟩⟩)] [(1, 1, (.t 5))])⟩, ⟨(some 7), none, (.call 46 [(.t 6)])⟩, ⟨(some 3), none, (.alloc 23 2 [(.bool false), (.string ⟨⟨[]⟩⟩)])⟩, ⟨none, none, (.store 2 (.t 3) (.t 7))⟩])
  (.seq (.seq (.reg [⟨(some 8), none, (.faddr 1 (.t 3))⟩, ⟨(some 9), none, (.load false 1 (.t 8))⟩, ⟨(some 10), none, (.bin .eql (.t 9) (.c (.string ⟨⟨[]⟩⟩)))⟩])
  (.cond (.t 10)
  (.seq (.reg [⟨(some 11), none, (.call 124 [])⟩, ⟨none, none, (.store 2 (.t 2) (.t 11))⟩])
  .ret)
  .skip))
  (.seq (.reg [⟨(some 12), none, (.load true 2 (.t 3))⟩, ⟨none, none, (.store 2 (.t 2) (.t 12))⟩])
  .ret))))
theorem tr88 : trFun Tryz.prog 88 = some ⟨13, [.cell 2 true 2], c88⟩ := by kernel_rfl
theorem ok_r3below : SpecOK Tryz.prog 88 (flat spBelow) := by
  refine flat_run (env_cons ok_r2Norm (env_cons ok_r3one (env_nil _))) mixed tr88 ?_
  intro args v h N hG
  unfold spBelow at hG
  split at hG
  case h_2 => cases hG
  rename_i s n d
  split at hG
  case isFalse => cases hG
  rename_i hl
  cases hG
  refine ⟨rfl, by simp, ?_⟩
  have e0 : (sv false d).natAbs = nl d := sv_natAbs _ _
  by_cases h0 : nl d = 0
  · have e1 : dv d = 1 := by unfold dv; rw [if_pos h0]
    rw [e1]
    simp only [c88, initT, List.zipIdx_cons, List.zipIdx_nil, List.map_cons, List.map_nil, Nat.reduceAdd]
    simp only [↓R0, R1, rdL, rdH, isCall, istep, ibin, vcells, fillI, setR, flat, okCell, isBase, List.set, List.drop, List.take, List.append, bnds, bhi, blo, srcOf, ↓reduceIte, Nat.reduceEqDiff, Nat.reduceAdd, Nat.reduceLeDiff, reduceCtorEq, Nat.reduceSub, Int.reduceEq, Int.reduceLT, Int.reduceLE, Int.reduceGT, Int.reduceGE, Int.reduceSub, Int.reduceAdd, Int.reduceMul, Int.reduceNe, Int.reduceNeg, Int.reduceToNat, Nat.reduceMul, spI2Norm, spOne, hl, iE, bl_eq_nil, e0, h0, Fin, isEnd, resL, res1]
    refine ⟨_, rfl, rfl, fun k hk => ?_⟩
    simp only [if_neg (show ¬ N + 2 = k by omega), if_neg (show ¬ N + 1 = k by omega), if_neg (show ¬ N + 0 = k by omega)]
  · have e1 : dv d = sv false d := by unfold dv; rw [if_neg h0]; rfl
    rw [e1]
    simp only [c88, initT, List.zipIdx_cons, List.zipIdx_nil, List.map_cons, List.map_nil, Nat.reduceAdd]
    simp only [↓R0, R1, rdL, rdH, isCall, istep, ibin, vcells, fillI, setR, flat, okCell, isBase, List.set, List.drop, List.take, List.append, bnds, bhi, blo, srcOf, ↓reduceIte, Nat.reduceEqDiff, Nat.reduceAdd, Nat.reduceLeDiff, reduceCtorEq, Nat.reduceSub, Int.reduceEq, Int.reduceLT, Int.reduceLE, Int.reduceGT, Int.reduceGE, Int.reduceSub, Int.reduceAdd, Int.reduceMul, Int.reduceNe, Int.reduceNeg, Int.reduceToNat, Nat.reduceMul, spI2Norm, spOne, hl, iE, bl_eq_nil, e0, h0, Fin, isEnd, resL, res1]
    refine ⟨_, rfl, ?_, fun k hk => ?_⟩
    · simp only [one, e0]
    · simp only [if_neg (show ¬ N + 2 = k by omega), if_neg (show ¬ N + 1 = k by omega), if_neg (show ¬ N + 0 = k by omega)]
end Go.Eng
end
section
set_option linter.unusedVariables false
set_option linter.unusedSimpArgs false
set_option linter.unusedSectionVars false
set_option maxRecDepth 4000
namespace Go.Eng
open Go Go.Proofs Go.IntWalk
def spR3Make : List Value → Option Value
  | [.agg ⟨[.bool s, .string ⟨⟨l⟩⟩]⟩, .agg ⟨[.bool t, .string ⟨⟨m⟩⟩]⟩] => if l.length ≤ 68719476736 ∧ m.length ≤ 68719476736 then
      (if nl m = 0 then some (.tuple ⟨[.agg ⟨[.bool false, .string ⟨⟨[]⟩⟩, .string ⟨⟨[]⟩⟩]⟩, .bool false]⟩) else
        some (.tuple ⟨[.agg ⟨rE (Rat.divInt (sv s l) (sv t m))⟩, .bool true]⟩)) else none
  | _ => none
def c86 : ICode :=
  (.seq (.reg [⟨(some 2), none, (.box 23 2 (.t 0))⟩, ⟨(some 3), none, (.box 23 2 (.t 1))⟩, ⟨(some 4), none, (.alloc 47 3 [(.bool false), (.string ⟨⟨[]⟩⟩), (.string ⟨⟨[]⟩⟩)])⟩, ⟨(some 5), none, (.mv (.c (.bool false)))⟩])
  (.seq (.dreg [⟨(some 9), none, [], (.load true 2 (.t 2))⟩, ⟨(some 10), none, [], (.call 46 [(.t 9)])⟩, ⟨(some 11), none, [1], (.load true 2 (.t 3))⟩, ⟨(some 12), none, [], (.call 46 [(.t 11)])⟩, ⟨none, none, [], (.store 2 (.t 2) (.t 10))⟩, ⟨none, none, [], (.store 2 (.t 3) (.t 12))⟩])
  (.seq (.seq (.reg [⟨(some 13), none, (.faddr 1 (.t 3))⟩, ⟨(some 14), none, (.load false 1 (.t 13))⟩, ⟨(some 15), none, (.bin .eql (.t 14) (.c (.string ⟨⟨[]⟩⟩)))⟩])
  (.cond (.t 15)
  (.seq (.reg [⟨(some 16), none, (.build [(.bool false), (.string ⟨⟨[]⟩⟩), (.string ⟨⟨[]⟩⟩)] [])⟩, ⟨none, none, (.store 3 (.t 4) (.t 16))⟩, ⟨(some 5), none, (.mv (.c (.bool false)))⟩])
  .ret)
  .skip))
  (.seq (.reg [⟨(some 17), none, (.faddr 0 (.t 2))⟩, ⟨(some 18), none, (.load false 1 (.t 17))⟩, ⟨(some 19), none, (.faddr 0 (.t 3))⟩, ⟨(some 20), none, (.load false 1 (.t 19))⟩, ⟨(some 21), none, (.eqb true (.t 18) (.t 20))⟩, ⟨(some 6), none, (.mv (.t 21))⟩])
  (.seq (.reg [⟨(some 22), none, (.faddr 0 (.t 2))⟩, ⟨none, none, (.store 1 (.t 22) (.c (.bool false)))⟩, ⟨(some 23), none, (.faddr 0 (.t 3))⟩, ⟨none, none, (.store 1 (.t 23) (.c (.bool false)))⟩])
  (.seq (.reg [⟨(some 24), none, (.load true 2 (.t 2))⟩, ⟨(some 25), none, (.load true 2 (.t 3))⟩, ⟨(some 26), none, (.bslice 23 2 2 [(.bool false), (.string ⟨⟨[]⟩⟩), (.bool false), (.string ⟨⟨[]⟩⟩)] [(0, 2, (.t 24)), (2, 2, (.t 25))])⟩, ⟨(some 27), none, (.call 49 [(.t 26)])⟩, ⟨(some 7), none, (.alloc 23 2 [(.bool false), (.string ⟨⟨[]⟩⟩)])⟩, ⟨none, none, (.store 2 (.t 7) (.t 27))⟩])
  (.seq (.reg [⟨(some 29), none, (.load true 2 (.t 2))⟩, ⟨(some 30), none, (.load true 2 (.t 7))⟩, ⟨(some 31), none, (.call 51 [(.t 29), (.t 30)])⟩, ⟨(some 28), none, (.mv (.t 31))⟩, ⟨(some 32), none, (.ext (.t 28) 0)⟩, ⟨(some 33), none, (.ext (.t 28) 1)⟩, ⟨(some 34), none, (.ext (.t 28) 2)⟩, ⟨none, none, (.store 2 (.t 2) (.t 32))⟩])
  (.seq (.reg [⟨(some 36), none, (.load true 2 (.t 3))⟩, ⟨(some 37), none, (.load true 2 (.t 7))⟩, ⟨(some 38), none, (.call 51 [(.t 36), (.t 37)])⟩, ⟨(some 35), none, (.mv (.t 38))⟩, ⟨(some 39), none, (.ext (.t 35) 0)⟩, ⟨(some 40), none, (.ext (.t 35) 1)⟩, ⟨(some 41), none, (.ext (.t 35) 2)⟩, ⟨none, none, (.store 2 (.t 3) (.t 39))⟩])
  (.seq (.reg [⟨(some 42), none, (.mv (.t 6))⟩, ⟨(some 43), none, (.faddr 1 (.t 2))⟩, ⟨(some 44), none, (.load false 1 (.t 43))⟩, ⟨(some 45), none, (.faddr 1 (.t 3))⟩, ⟨(some 46), none, (.load false 1 (.t 45))⟩, ⟨(some 47), none, (.build [(.bool false), (.string ⟨⟨[]⟩⟩), (.string ⟨⟨[]⟩⟩)] [(0, 1, (.t 42)), (1, 1, (.t 44)), (2, 1, (.t 46))])⟩, ⟨(some 8), none, (.alloc 47 3 [(.bool false), (.string ⟨⟨[]⟩⟩), (.string ⟨⟨[]⟩⟩)])⟩, ⟨none, none, (.store 3 (.t 8) (.t 47))⟩])
  (.seq (.seq (.reg [⟨(some 48), none, (.faddr 1 (.t 8))⟩, ⟨(some 49), none, (.load false 1 (.t 48))⟩, ⟨(some 50), none, (.bin .eql (.t 49) (.c (.string ⟨⟨[]⟩⟩)))⟩])
  (.cond (.t 50)
  (.reg [⟨(some 51), none, (.faddr 0 (.t 8))⟩, ⟨none, none, (.store 1 (.t 51) (.c (.bool false)))⟩])
  .skip))
  (.seq (.seq (.dreg [⟨(some 52), none, [], (.load true 2 (.t 3))⟩, ⟨(some 53), none, [], (.call 124 [])⟩, ⟨(some 54), none, [], (.eqa false [.b, .s] (.t 52) (.t 53))⟩])
  (.cond (.t 54)
  (.reg [⟨(some 55), none, (.faddr 2 (.t 8))⟩, ⟨none, none, (.store 1 (.t 55) (.c (.string ⟨⟨[]⟩⟩)))⟩])
  .skip))
  (.seq (.reg [⟨(some 56), none, (.load true 3 (.t 8))⟩, ⟨none, none, (.store 3 (.t 4) (.t 56))⟩, ⟨(some 5), none, (.mv (.c (.bool true)))⟩])
  .ret))))))))))))
theorem tr86 : trFun Tryz.prog 86 = some ⟨57, [.cell 4 true 3, .t 5], c86⟩ := by kernel_rfl
theorem ok_r3Make : SpecOK Tryz.prog 86 (flat spR3Make) := by
  refine flat_run (env_cons ok_r2Norm (env_cons ok_r2Gcd (env_cons ok_r2Div (env_cons ok_r3one (env_nil _))))) mixed tr86 ?_
  intro args v h N hG
  unfold spR3Make at hG
  split at hG
  case h_2 => cases hG
  rename_i s l t m
  split at hG
  case isFalse => cases hG
  rename_i hl
  obtain ⟨hl, hm⟩ := hl
  have l2 : l.length ≤ 1099511627776 := by omega
  have m2 : m.length ≤ 1099511627776 := by omega
  have aN : (sv s l).natAbs = nl l := sv_natAbs _ _
  have aD : (sv t m).natAbs = nl m := sv_natAbs _ _
  split at hG
  · rename_i h0
    cases hG
    refine ⟨rfl, by simp, ?_⟩
    simp only [c86, initT, List.zipIdx_cons, List.zipIdx_nil, List.map_cons, List.map_nil, Nat.reduceAdd]
    simp only [↓R0, R1, rdL, rdH, isCall, istep, ibin, vcells, fillI, setR, flat, okCell, isBase, List.set, List.drop, List.take, List.append, bnds, bhi, blo, srcOf, ↓reduceIte, Nat.reduceEqDiff, Nat.reduceAdd, Nat.reduceLeDiff, reduceCtorEq, Nat.reduceSub, Int.reduceEq, Int.reduceLT, Int.reduceLE, Int.reduceGT, Int.reduceGE, Int.reduceSub, Int.reduceAdd, Int.reduceMul, Int.reduceNe, Int.reduceNeg, Int.reduceToNat, Nat.reduceMul, spI2Norm, l2, m2, iE, bl_eq_nil, aD, h0, Fin, isEnd, resL, res1]
    refine ⟨_, rfl, rfl, fun k hk => ?_⟩
    simp only [if_neg (show ¬ N + 2 = k by omega), if_neg (show ¬ N + 1 = k by omega), if_neg (show ¬ N + 0 = k by omega)]
  rename_i h0
  cases hG
  refine ⟨rfl, by simp, ?_⟩
  have hD : sv t m ≠ 0 := fun e => h0 ((sv_eq_zero t m).1 e)
  obtain ⟨d1, d2, d3⟩ := divInt_cells (N := sv s l) hD
  rw [aN, aD] at d1 d2
  have lN : (bl (nl l)).length ≤ 68719476736 := Nat.le_trans (bl_length_nl l) hl
  have lD : (bl (nl m)).length ≤ 68719476736 := Nat.le_trans (bl_length_nl m) hm
  have hst : decide ((Rat.divInt (sv s l) (sv t m)).num < 0) = (decide (decide (sv s l < 0) ≠ decide (sv t m < 0)) && decide (nl l ≠ 0)) := by
    rw [Bool.eq_iff_iff]
    simp only [decide_eq_true_eq, Bool.and_eq_true, d3, ne_eq, sv_eq_zero]
  have hG0 : 0 < (nl l).gcd (nl m) := Nat.gcd_pos_of_pos_right _ (by omega)
  have lG : (bl ((nl l).gcd (nl m))).length ≤ 68719476736 := Nat.le_trans (bl_length_mono (Nat.gcd_le_right _ (by omega))) lD
  have hL0 : nl l / (nl l).gcd (nl m) = 0 ↔ nl l = 0 := by
    obtain ⟨k, hk⟩ := Nat.gcd_dvd_left (nl l) (nl m)
    generalize (nl l).gcd (nl m) = G at *
    constructor
    · intro e
      rw [hk, Nat.mul_div_cancel_left _ hG0] at e
      rw [hk, e]; simp
    · intro e; rw [e]; simp
  unfold rE
  rw [hst, d1, d2]
  clear hst d1 d2 d3
  generalize hGG : (nl l).gcd (nl m) = G at *
  have f1 : ¬ ((G : Int) < 0) := by omega
  have f2 : ¬ (G = 0) := by omega
  have f3 : sv false (bl (nl l)) = (nl l : Int) := by rw [sv_false, nl_bl]
  have f4 : sv false (bl (nl m)) = (nl m : Int) := by rw [sv_false, nl_bl]
  have f5 : sv false (bl G) = (G : Int) := by rw [sv_false, nl_bl]
  have f6 : (nl l : Int) / (G : Int) = ((nl l / G : Nat) : Int) := by simp
  have f7 : (nl m : Int) / (G : Int) = ((nl m / G : Nat) : Int) := by simp
  have f8 : ¬ (((nl l / G : Nat) : Int) < 0) := Int.not_lt.2 (Int.natCast_nonneg _)
  have f9 : ¬ (((nl m / G : Nat) : Int) < 0) := Int.not_lt.2 (Int.natCast_nonneg _)
  have f10 : (bl (nl m / G) = bl (Int.natAbs 1)) = (nl m / G = 1) := propext ⟨fun e => bl_inj e, fun e => by rw [e]; rfl⟩
  simp only [c86, initT, List.zipIdx_cons, List.zipIdx_nil, List.map_cons, List.map_nil, Nat.reduceAdd]
  simp only [↓R0, R1, rdL, rdH, isCall, istep, ibin, vcells, fillI, setR, flat, okCell, isBase, List.set, List.drop, List.take, List.append, bnds, bhi, blo, srcOf, ↓reduceIte, Nat.reduceEqDiff, Nat.reduceAdd, Nat.reduceLeDiff, reduceCtorEq, Nat.reduceSub, Int.reduceEq, Int.reduceLT, Int.reduceLE, Int.reduceGT, Int.reduceGE, Int.reduceSub, Int.reduceAdd, Int.reduceMul, Int.reduceNe, Int.reduceNeg, Int.reduceToNat, Nat.reduceMul, spI2Norm, l2, m2, iE, bl_eq_nil, aN, aD, h0, rdS, spI2Gcd, ints, gcds, List.foldl_cons, List.foldl_nil, Nat.gcd_zero_left, nl_bl, List.forall_mem_cons, lN, lD, List.not_mem_nil, false_implies, implies_true, hGG, f1, f2, f3, f4, f5, f6, f7, f8, f9, lG, Int.natAbs_natCast, spI2Div, spOne, ceq, f10]
  have f11 : (bl 1 = bl (Int.natAbs 1)) = True := eq_true rfl
  have nb : ∀ k, k < N → ¬ N + 7 = k ∧ ¬ N + 6 = k ∧ ¬ N + 5 = k ∧ ¬ N + 4 = k ∧ ¬ N + 3 = k ∧ ¬ N + 2 = k ∧ ¬ N + 1 = k ∧ ¬ N + 0 = k := fun k hk => by omega
  by_cases c1 : nl l / G = 0
  · have c2 : nl l = 0 := hL0.1 c1
    by_cases c3 : nl m / G = 1
    · simp only [↓R0, R1, rdL, rdH, isCall, istep, ibin, vcells, fillI, setR, flat, okCell, isBase, List.set, List.drop, List.take, List.append, bnds, bhi, blo, srcOf, ↓reduceIte, Nat.reduceEqDiff, Nat.reduceAdd, Nat.reduceLeDiff, reduceCtorEq, Nat.reduceSub, Int.reduceEq, Int.reduceLT, Int.reduceLE, Int.reduceGT, Int.reduceGE, Int.reduceSub, Int.reduceAdd, Int.reduceMul, Int.reduceNe, Int.reduceNeg, Int.reduceToNat, Nat.reduceMul, c1, c3, f11, spOne, iE, ceq, f10, Option.map_some, Bool.true_and, Bool.and_true, Fin, isEnd, resL, res1]
      refine ⟨_, rfl, ?_, fun k hk => ?_⟩
      · simp [one, c2, c3]
      · simp only [nb k hk, if_false]
    · simp only [↓R0, R1, rdL, rdH, isCall, istep, ibin, vcells, fillI, setR, flat, okCell, isBase, List.set, List.drop, List.take, List.append, bnds, bhi, blo, srcOf, ↓reduceIte, Nat.reduceEqDiff, Nat.reduceAdd, Nat.reduceLeDiff, reduceCtorEq, Nat.reduceSub, Int.reduceEq, Int.reduceLT, Int.reduceLE, Int.reduceGT, Int.reduceGE, Int.reduceSub, Int.reduceAdd, Int.reduceMul, Int.reduceNe, Int.reduceNeg, Int.reduceToNat, Nat.reduceMul, c1, c3, f11, spOne, iE, ceq, f10, Option.map_some, Bool.true_and, Bool.and_true, Fin, isEnd, resL, res1]
      refine ⟨_, rfl, ?_, fun k hk => ?_⟩
      · simp [one, c2, c3]
      · simp only [nb k hk, if_false]
  · have c2 : ¬ nl l = 0 := fun e => c1 (hL0.2 e)
    by_cases c3 : nl m / G = 1
    · simp only [↓R0, R1, rdL, rdH, isCall, istep, ibin, vcells, fillI, setR, flat, okCell, isBase, List.set, List.drop, List.take, List.append, bnds, bhi, blo, srcOf, ↓reduceIte, Nat.reduceEqDiff, Nat.reduceAdd, Nat.reduceLeDiff, reduceCtorEq, Nat.reduceSub, Int.reduceEq, Int.reduceLT, Int.reduceLE, Int.reduceGT, Int.reduceGE, Int.reduceSub, Int.reduceAdd, Int.reduceMul, Int.reduceNe, Int.reduceNeg, Int.reduceToNat, Nat.reduceMul, c1, c3, f11, spOne, iE, ceq, f10, Option.map_some, Bool.true_and, Bool.and_true, Fin, isEnd, resL, res1]
      refine ⟨_, rfl, ?_, fun k hk => ?_⟩
      · simp [one, c2, c3]
      · simp only [nb k hk, if_false]
    · simp only [↓R0, R1, rdL, rdH, isCall, istep, ibin, vcells, fillI, setR, flat, okCell, isBase, List.set, List.drop, List.take, List.append, bnds, bhi, blo, srcOf, ↓reduceIte, Nat.reduceEqDiff, Nat.reduceAdd, Nat.reduceLeDiff, reduceCtorEq, Nat.reduceSub, Int.reduceEq, Int.reduceLT, Int.reduceLE, Int.reduceGT, Int.reduceGE, Int.reduceSub, Int.reduceAdd, Int.reduceMul, Int.reduceNe, Int.reduceNeg, Int.reduceToNat, Nat.reduceMul, c1, c3, f11, spOne, iE, ceq, f10, Option.map_some, Bool.true_and, Bool.and_true, Fin, isEnd, resL, res1]
      refine ⟨_, rfl, ?_, fun k hk => ?_⟩
      · simp [one, c2, c3]
      · simp only [nb k hk, if_false]
end Go.Eng
end
section
set_option linter.unusedVariables false
set_option linter.unusedSimpArgs false
set_option linter.unusedSectionVars false
set_option maxRecDepth 4000
namespace Go.Eng
open Go Go.Proofs Go.IntWalk
def spR3Norm : List Value → Option Value
  | [.agg ⟨[.bool s, .string ⟨⟨n⟩⟩, .string ⟨⟨d⟩⟩]⟩] => if n.length ≤ 34359738368 ∧ d.length ≤ 34359738368 then some (.agg ⟨rE (rv s n d)⟩) else none
  | _ => none
theorem bl_dv (d : List UInt8) : (bl (dv d).natAbs).length ≤ d.length + 1 := by
  unfold dv
  split
  · exact Nat.le_trans (bl_length_le (k := 1).2 (by decide)) (by omega)
  · exact Nat.le_trans (bl_length_nl d) (by omega)
theorem dv_nl (d : List UInt8) : ¬ (dv d).natAbs = 0 := by have := dv_pos d; omega
def c126 : ICode :=
  (.seq (.reg [⟨(some 1), none, (.box 47 3 (.t 0))⟩, ⟨(some 2), none, (.alloc 47 3 [(.bool false), (.string ⟨⟨[]⟩⟩), (.string ⟨⟨[]⟩⟩)])⟩])
  (.seq (.dreg [⟨(some 6), none, [], (.load true 3 (.t 1))⟩, ⟨(some 7), none, [], (.call 85 [(.t 6)])⟩, ⟨(some 8), none, [1], (.load true 3 (.t 1))⟩, ⟨(some 9), none, [], (.call 88 [(.t 8)])⟩, ⟨(some 10), none, [], (.call 86 [(.t 7), (.t 9)])⟩, ⟨(some 5), none, [], (.mv (.t 10))⟩, ⟨(some 11), none, [], (.ext (.t 5) 0)⟩, ⟨(some 12), none, [], (.ext (.t 5) 1)⟩, ⟨(some 3), none, [], (.alloc 47 3 [(.bool false), (.string ⟨⟨[]⟩⟩), (.string ⟨⟨[]⟩⟩)])⟩, ⟨none, none, [], (.store 3 (.t 3) (.t 11))⟩, ⟨(some 4), none, [], (.mv (.t 12))⟩])
  (.seq (.reg [⟨(some 13), none, (.load true 3 (.t 3))⟩, ⟨none, none, (.store 3 (.t 2) (.t 13))⟩])
  .ret)))
theorem tr126 : trFun Tryz.prog 126 = some ⟨14, [.cell 2 true 3], c126⟩ := by kernel_rfl
theorem ok_r3Norm : SpecOK Tryz.prog 126 (flat spR3Norm) := by
  refine flat_run (env_cons ok_r3above (env_cons ok_r3below (env_cons ok_r3Make (env_nil _)))) mixed tr126 ?_
  intro args v h N hG
  unfold spR3Norm at hG
  split at hG
  case h_2 => cases hG
  rename_i s n d
  split at hG
  case isFalse => cases hG
  rename_i hl
  cases hG
  refine ⟨rfl, by simp, ?_⟩
  have n2 : n.length ≤ 1099511627776 := by omega
  have d2 : d.length ≤ 1099511627776 := by omega
  have n3 : (bl (sv s n).natAbs).length ≤ 68719476736 := by rw [sv_natAbs]; exact Nat.le_trans (bl_length_nl n) (by omega)
  have d3 : (bl (dv d).natAbs).length ≤ 68719476736 := Nat.le_trans (bl_dv d) (by omega)
  have d4 := dv_nl d
  unfold rv
  simp only [c126, initT, List.zipIdx_cons, List.zipIdx_nil, List.map_cons, List.map_nil, Nat.reduceAdd]
  simp only [↓R0, R1, rdL, rdH, isCall, istep, ibin, vcells, fillI, setR, flat, okCell, isBase, List.set, List.drop, List.take, List.append, bnds, bhi, blo, srcOf, ↓reduceIte, Nat.reduceEqDiff, Nat.reduceAdd, Nat.reduceLeDiff, reduceCtorEq, Nat.reduceSub, Int.reduceEq, Int.reduceLT, Int.reduceLE, Int.reduceGT, Int.reduceGE, Int.reduceSub, Int.reduceAdd, Int.reduceMul, Int.reduceNe, Int.reduceNeg, Int.reduceToNat, Nat.reduceMul, spAbove, spBelow, spR3Make, n2, d2, n3, d3, d4, nl_bl, iE, rE, Fin, isEnd, resL, res1]
  exact ⟨_, rfl, rfl, fun k hk => by simp only [ne_nb hk, if_false]⟩
end Go.Eng
end
section
set_option linter.unusedVariables false
set_option linter.unusedSimpArgs false
set_option linter.unusedSectionVars false
set_option maxRecDepth 4000
namespace Go.Eng
open Go Go.Proofs Go.IntWalk
def spR3Sign : List Value → Option Value
  | [.agg ⟨[.bool s, .string ⟨⟨n⟩⟩, .string ⟨⟨d⟩⟩]⟩] => if n.length ≤ 34359738368 ∧ d.length ≤ 34359738368 then some (.int .i64 (sv s n).sign) else none
  | _ => none
def c41 : ICode :=
  (.seq (.reg [⟨(some 1), none, (.box 47 3 (.t 0))⟩, ⟨(some 2), none, (.mv (.c (.int .i64 0)))⟩])
  (.seq (.reg [⟨(some 3), none, (.load true 3 (.t 1))⟩, ⟨(some 4), none, (.call 85 [(.t 3)])⟩, ⟨(some 5), none, (.call 47 [(.t 4)])⟩, ⟨(some 2), none, (.mv (.t 5))⟩])
  .ret))
theorem tr41 : trFun Tryz.prog 41 = some ⟨6, [.t 2], c41⟩ := by kernel_rfl
theorem ok_r3Sign : SpecOK Tryz.prog 41 (flat spR3Sign) := by
  refine flat_run (env_cons ok_r3above (env_cons ok_r2Sign (env_nil _))) mixed tr41 ?_
  intro args v h N hG
  unfold spR3Sign at hG
  split at hG
  case h_2 => cases hG
  rename_i s n d
  split at hG
  case isFalse => cases hG
  rename_i hl
  cases hG
  refine ⟨rfl, by simp, ?_⟩
  have n2 : n.length ≤ 1099511627776 := by omega
  have n3 : (bl (sv s n).natAbs).length ≤ 1099511627776 := by rw [sv_natAbs]; exact Nat.le_trans (bl_length_nl n) (by omega)
  simp only [c41, initT, List.zipIdx_cons, List.zipIdx_nil, List.map_cons, List.map_nil, Nat.reduceAdd]
  simp only [↓R0, R1, rdL, rdH, isCall, istep, ibin, vcells, fillI, setR, flat, okCell, isBase, List.set, List.drop, List.take, List.append, bnds, bhi, blo, srcOf, ↓reduceIte, Nat.reduceEqDiff, Nat.reduceAdd, Nat.reduceLeDiff, reduceCtorEq, Nat.reduceSub, Int.reduceEq, Int.reduceLT, Int.reduceLE, Int.reduceGT, Int.reduceGE, Int.reduceSub, Int.reduceAdd, Int.reduceMul, Int.reduceNe, Int.reduceNeg, Int.reduceToNat, Nat.reduceMul, spAbove, spI2Sign, n2, n3, Fin, isEnd, resL, res1, iE, rE]
  exact ⟨_, rfl, rfl, fun k hk => by simp only [ne_nb hk, if_false]⟩
def spR3Neg : List Value → Option Value
  | [.agg ⟨[.bool s, .string ⟨⟨n⟩⟩, .string ⟨⟨d⟩⟩]⟩] => if n.length ≤ 34359738368 ∧ d.length ≤ 34359738368 then some (.agg ⟨rE (- rv s n d)⟩) else none
  | _ => none
def c98 : ICode :=
  (.seq (.reg [⟨(some 1), none, (.box 47 3 (.t 0))⟩, ⟨(some 2), none, (.alloc 47 3 [(.bool false), (.string ⟨⟨[]⟩⟩), (.string ⟨⟨[]⟩⟩)])⟩])
  (.seq (.dreg [⟨(some 6), none, [], (.load true 3 (.t 1))⟩, ⟨(some 7), none, [], (.call 85 [(.t 6)])⟩, ⟨(some 8), none, [], (.call 50 [(.t 7)])⟩, ⟨(some 9), none, [1, 2], (.load true 3 (.t 1))⟩, ⟨(some 10), none, [], (.call 88 [(.t 9)])⟩, ⟨(some 11), none, [], (.call 86 [(.t 8), (.t 10)])⟩, ⟨(some 5), none, [], (.mv (.t 11))⟩, ⟨(some 12), none, [], (.ext (.t 5) 0)⟩, ⟨(some 13), none, [], (.ext (.t 5) 1)⟩, ⟨(some 3), none, [], (.alloc 47 3 [(.bool false), (.string ⟨⟨[]⟩⟩), (.string ⟨⟨[]⟩⟩)])⟩, ⟨none, none, [], (.store 3 (.t 3) (.t 12))⟩, ⟨(some 4), none, [], (.mv (.t 13))⟩])
  (.seq (.reg [⟨(some 14), none, (.load true 3 (.t 3))⟩, ⟨none, none, (.store 3 (.t 2) (.t 14))⟩])
  .ret)))
theorem tr98 : trFun Tryz.prog 98 = some ⟨15, [.cell 2 true 3], c98⟩ := by kernel_rfl
theorem ok_r3Neg : SpecOK Tryz.prog 98 (flat spR3Neg) := by
  refine flat_run (env_cons ok_r3above (env_cons ok_r3below (env_cons ok_r3Make (env_cons ok_r2Neg (env_nil _))))) mixed tr98 ?_
  intro args v h N hG
  unfold spR3Neg at hG
  split at hG
  case h_2 => cases hG
  rename_i s n d
  split at hG
  case isFalse => cases hG
  rename_i hl
  cases hG
  refine ⟨rfl, by simp, ?_⟩
  have n2 : n.length ≤ 1099511627776 := by omega
  have d2 : d.length ≤ 1099511627776 := by omega
  have n3 : (bl (sv s n).natAbs).length ≤ 1099511627776 := by rw [sv_natAbs]; exact Nat.le_trans (bl_length_nl n) (by omega)
  have n4 : (bl (-sv s n).natAbs).length ≤ 68719476736 := by rw [Int.natAbs_neg, sv_natAbs]; exact Nat.le_trans (bl_length_nl n) (by omega)
  have d3 : (bl (dv d).natAbs).length ≤ 68719476736 := Nat.le_trans (bl_dv d) (by omega)
  have d4 := dv_nl d
  unfold rv
  rw [Rat.neg_divInt]
  simp only [c98, initT, List.zipIdx_cons, List.zipIdx_nil, List.map_cons, List.map_nil, Nat.reduceAdd]
  simp only [↓R0, R1, rdL, rdH, isCall, istep, ibin, vcells, fillI, setR, flat, okCell, isBase, List.set, List.drop, List.take, List.append, bnds, bhi, blo, srcOf, ↓reduceIte, Nat.reduceEqDiff, Nat.reduceAdd, Nat.reduceLeDiff, reduceCtorEq, Nat.reduceSub, Int.reduceEq, Int.reduceLT, Int.reduceLE, Int.reduceGT, Int.reduceGE, Int.reduceSub, Int.reduceAdd, Int.reduceMul, Int.reduceNe, Int.reduceNeg, Int.reduceToNat, Nat.reduceMul, spAbove, spBelow, spR3Make, spI2Neg, n2, d2, n3, n4, d3, d4, nl_bl, Fin, isEnd, resL, res1, iE, rE]
  exact ⟨_, rfl, rfl, fun k hk => by simp only [ne_nb hk, if_false]⟩
theorem len_mul {a b : Int} {j k : Nat} (ha : (bl a.natAbs).length ≤ j) (hb : (bl b.natAbs).length ≤ k) : (bl (a * b).natAbs).length ≤ j + k := by
  rw [Int.natAbs_mul]; exact Nat.le_trans (bl_length_mul _ _) (by omega)
theorem len_add {a b : Int} {k : Nat} (ha : (bl a.natAbs).length ≤ k) (hb : (bl b.natAbs).length ≤ k) : (bl (a + b).natAbs).length ≤ k + 1 :=
  Nat.le_trans (bl_length_mono (Int.natAbs_add_le a b)) (bl_length_add ha hb)
theorem len_sv {s : Bool} {n : List UInt8} {k : Nat} (h : n.length ≤ k) : (bl (sv s n).natAbs).length ≤ k := by rw [sv_natAbs]; exact Nat.le_trans (bl_length_nl n) h
theorem len_dv {d : List UInt8} {k : Nat} (h : d.length + 1 ≤ k) : (bl (dv d).natAbs).length ≤ k := Nat.le_trans (bl_dv d) h
def spR3Mul : List Value → Option Value
  | [.agg ⟨[.bool s, .string ⟨⟨n⟩⟩, .string ⟨⟨d⟩⟩]⟩, .agg ⟨[.bool t, .string ⟨⟨m⟩⟩, .string ⟨⟨e⟩⟩]⟩] => if n.length ≤ 8589934592 ∧ d.length ≤ 8589934592 ∧ m.length ≤ 8589934592 ∧ e.length ≤ 8589934592 then some (.agg ⟨rE (rv s n d * rv t m e)⟩) else none
  | _ => none
def c84 : ICode :=
  (.seq (.reg [⟨(some 2), none, (.box 47 3 (.t 0))⟩, ⟨(some 3), none, (.box 47 3 (.t 1))⟩, ⟨(some 4), none, (.alloc 47 3 [(.bool false), (.string ⟨⟨[]⟩⟩), (.string ⟨⟨[]⟩⟩)])⟩])
  (.seq (.dreg [⟨(some 8), none, [], (.load true 3 (.t 2))⟩, ⟨(some 9), none, [], (.call 85 [(.t 8)])⟩, ⟨(some 10), none, [1], (.load true 3 (.t 3))⟩, ⟨(some 11), none, [], (.call 85 [(.t 10)])⟩, ⟨(some 12), none, [], (.call 87 [(.t 9), (.t 11)])⟩, ⟨(some 13), none, [1, 3, 4], (.load true 3 (.t 2))⟩, ⟨(some 14), none, [], (.call 88 [(.t 13)])⟩, ⟨(some 15), none, [1, 3, 4, 6], (.load true 3 (.t 3))⟩, ⟨(some 16), none, [], (.call 88 [(.t 15)])⟩, ⟨(some 17), none, [], (.call 87 [(.t 14), (.t 16)])⟩, ⟨(some 18), none, [], (.call 86 [(.t 12), (.t 17)])⟩, ⟨(some 7), none, [], (.mv (.t 18))⟩, ⟨(some 19), none, [], (.ext (.t 7) 0)⟩, ⟨(some 20), none, [], (.ext (.t 7) 1)⟩, ⟨(some 5), none, [], (.alloc 47 3 [(.bool false), (.string ⟨⟨[]⟩⟩), (.string ⟨⟨[]⟩⟩)])⟩, ⟨none, none, [], (.store 3 (.t 5) (.t 19))⟩, ⟨(some 6), none, [], (.mv (.t 20))⟩])
  (.seq (.reg [⟨(some 21), none, (.load true 3 (.t 5))⟩, ⟨none, none, (.store 3 (.t 4) (.t 21))⟩])
  .ret)))
theorem tr84 : trFun Tryz.prog 84 = some ⟨22, [.cell 4 true 3], c84⟩ := by kernel_rfl
theorem ok_r3Mul : SpecOK Tryz.prog 84 (flat spR3Mul) := by
  refine flat_run (env_cons ok_r3above (env_cons ok_r3below (env_cons ok_r3Make (env_cons ok_r2Mul (env_nil _))))) mixed tr84 ?_
  intro args v h N hG
  unfold spR3Mul at hG
  split at hG
  case h_2 => cases hG
  rename_i s n d t m e
  split at hG
  case isFalse => cases hG
  rename_i hl
  obtain ⟨h1, h2, h3, h4⟩ := hl
  cases hG
  refine ⟨rfl, by simp, ?_⟩
  have n2 : n.length ≤ 1099511627776 := by omega
  have d2 : d.length ≤ 1099511627776 := by omega
  have m2 : m.length ≤ 1099511627776 := by omega
  have e2 : e.length ≤ 1099511627776 := by omega
  have n3 := len_sv (s := s) h1
  have m3 := len_sv (s := t) h3
  have d3 : (bl (dv d).natAbs).length ≤ 8589934593 := len_dv (by omega)
  have e3 : (bl (dv e).natAbs).length ≤ 8589934593 := len_dv (by omega)
  have p1 : (bl (sv s n).natAbs).length + (bl (sv t m).natAbs).length ≤ 274877906944 := by omega
  have p2 : (bl (dv d).natAbs).length + (bl (dv e).natAbs).length ≤ 274877906944 := by omega
  have q1 : (bl (sv s n * sv t m).natAbs).length ≤ 68719476736 := Nat.le_trans (len_mul n3 m3) (by omega)
  have q2 : (bl (dv d * dv e).natAbs).length ≤ 68719476736 := Nat.le_trans (len_mul d3 e3) (by omega)
  have q3 : ¬ (dv d * dv e).natAbs = 0 := by have := Int.mul_pos (dv_pos d) (dv_pos e); omega
  unfold rv
  rw [Rat.divInt_mul_divInt]
  simp only [c84, initT, List.zipIdx_cons, List.zipIdx_nil, List.map_cons, List.map_nil, Nat.reduceAdd]
  simp only [↓R0, R1, rdL, rdH, isCall, istep, ibin, vcells, fillI, setR, flat, okCell, isBase, List.set, List.drop, List.take, List.append, bnds, bhi, blo, srcOf, ↓reduceIte, Nat.reduceEqDiff, Nat.reduceAdd, Nat.reduceLeDiff, reduceCtorEq, Nat.reduceSub, Int.reduceEq, Int.reduceLT, Int.reduceLE, Int.reduceGT, Int.reduceGE, Int.reduceSub, Int.reduceAdd, Int.reduceMul, Int.reduceNe, Int.reduceNeg, Int.reduceToNat, Nat.reduceMul, spAbove, spBelow, spR3Make, spI2Mul, n2, d2, m2, e2, p1, p2, q1, q2, q3, nl_bl, Fin, isEnd, resL, res1, iE, rE]
  exact ⟨_, rfl, rfl, fun k hk => by simp only [ne_nb hk, if_false]⟩
end Go.Eng
end
section
set_option linter.unusedVariables false
set_option linter.unusedSimpArgs false
set_option linter.unusedSectionVars false
set_option maxRecDepth 4000
namespace Go.Eng
open Go Go.Proofs Go.IntWalk
def spR3Add : List Value → Option Value
  | [.agg ⟨[.bool s, .string ⟨⟨n⟩⟩, .string ⟨⟨d⟩⟩]⟩, .agg ⟨[.bool t, .string ⟨⟨m⟩⟩, .string ⟨⟨e⟩⟩]⟩] => if n.length ≤ 8589934592 ∧ d.length ≤ 8589934592 ∧ m.length ≤ 8589934592 ∧ e.length ≤ 8589934592 then some (.agg ⟨rE (rv s n d + rv t m e)⟩) else none
  | _ => none
def c83 : ICode :=
  (.seq (.reg [⟨(some 2), none, (.box 47 3 (.t 0))⟩, ⟨(some 3), none, (.box 47 3 (.t 1))⟩, ⟨(some 4), none, (.alloc 47 3 [(.bool false), (.string ⟨⟨[]⟩⟩), (.string ⟨⟨[]⟩⟩)])⟩])
  (.seq (.dreg [⟨(some 8), none, [], (.load true 3 (.t 2))⟩, ⟨(some 9), none, [], (.call 85 [(.t 8)])⟩, ⟨(some 10), none, [1], (.load true 3 (.t 3))⟩, ⟨(some 11), none, [], (.call 88 [(.t 10)])⟩, ⟨(some 12), none, [], (.call 87 [(.t 9), (.t 11)])⟩, ⟨(some 13), none, [1, 3, 4], (.load true 3 (.t 3))⟩, ⟨(some 14), none, [], (.call 85 [(.t 13)])⟩, ⟨(some 15), none, [1, 3, 4, 6], (.load true 3 (.t 2))⟩, ⟨(some 16), none, [], (.call 88 [(.t 15)])⟩, ⟨(some 17), none, [], (.call 87 [(.t 14), (.t 16)])⟩, ⟨(some 18), none, [], (.call 95 [(.t 12), (.t 17)])⟩, ⟨(some 19), none, [1, 3, 4, 6, 8, 9, 10], (.load true 3 (.t 2))⟩, ⟨(some 20), none, [], (.call 88 [(.t 19)])⟩, ⟨(some 21), none, [1, 3, 4, 6, 8, 9, 10, 12], (.load true 3 (.t 3))⟩, ⟨(some 22), none, [], (.call 88 [(.t 21)])⟩, ⟨(some 23), none, [], (.call 87 [(.t 20), (.t 22)])⟩, ⟨(some 24), none, [], (.call 86 [(.t 18), (.t 23)])⟩, ⟨(some 7), none, [], (.mv (.t 24))⟩, ⟨(some 25), none, [], (.ext (.t 7) 0)⟩, ⟨(some 26), none, [], (.ext (.t 7) 1)⟩, ⟨(some 5), none, [], (.alloc 47 3 [(.bool false), (.string ⟨⟨[]⟩⟩), (.string ⟨⟨[]⟩⟩)])⟩, ⟨none, none, [], (.store 3 (.t 5) (.t 25))⟩, ⟨(some 6), none, [], (.mv (.t 26))⟩])
  (.seq (.reg [⟨(some 27), none, (.load true 3 (.t 5))⟩, ⟨none, none, (.store 3 (.t 4) (.t 27))⟩])
  .ret)))
theorem tr83 : trFun Tryz.prog 83 = some ⟨28, [.cell 4 true 3], c83⟩ := by kernel_rfl
theorem ok_r3Add : SpecOK Tryz.prog 83 (flat spR3Add) := by
  refine flat_run (env_cons ok_r3above (env_cons ok_r3below (env_cons ok_r3Make (env_cons ok_r2Mul (env_cons ok_r2Add (env_nil _)))))) mixed tr83 ?_
  intro args v h N hG
  unfold spR3Add at hG
  split at hG
  case h_2 => cases hG
  rename_i s n d t m e
  split at hG
  case isFalse => cases hG
  rename_i hl
  obtain ⟨h1, h2, h3, h4⟩ := hl
  cases hG
  refine ⟨rfl, by simp, ?_⟩
  have n2 : n.length ≤ 1099511627776 := by omega
  have d2 : d.length ≤ 1099511627776 := by omega
  have m2 : m.length ≤ 1099511627776 := by omega
  have e2 : e.length ≤ 1099511627776 := by omega
  have n3 := len_sv (s := s) h1
  have m3 := len_sv (s := t) h3
  have d3 : (bl (dv d).natAbs).length ≤ 8589934593 := len_dv (by omega)
  have e3 : (bl (dv e).natAbs).length ≤ 8589934593 := len_dv (by omega)
  have p1 : (bl (sv s n).natAbs).length + (bl (dv e).natAbs).length ≤ 274877906944 := by omega
  have p2 : (bl (sv t m).natAbs).length + (bl (dv d).natAbs).length ≤ 274877906944 := by omega
  have p3 : (bl (dv d).natAbs).length + (bl (dv e).natAbs).length ≤ 274877906944 := by omega
  have q1 := len_mul n3 e3
  have q2 := len_mul m3 d3
  have q3 : (bl (dv d * dv e).natAbs).length ≤ 68719476736 := Nat.le_trans (len_mul d3 e3) (by omega)
  have q4 : ¬ (dv d * dv e).natAbs = 0 := by have := Int.mul_pos (dv_pos d) (dv_pos e); omega
  have q5 : (bl (sv s n * dv e + sv t m * dv d).natAbs).length ≤ 68719476736 := Nat.le_trans (len_add q1 q2) (by omega)
  have q6 : (bl (sv s n * dv e).natAbs).length ≤ 549755813888 := Nat.le_trans q1 (by omega)
  have q7 : (bl (sv t m * dv d).natAbs).length ≤ 549755813888 := Nat.le_trans q2 (by omega)
  unfold rv
  rw [Rat.divInt_add_divInt _ _ (by have := dv_pos d; omega) (by have := dv_pos e; omega)]
  simp only [c83, initT, List.zipIdx_cons, List.zipIdx_nil, List.map_cons, List.map_nil, Nat.reduceAdd]
  simp only [↓R0, R1, rdL, rdH, isCall, istep, ibin, vcells, fillI, setR, flat, okCell, isBase, List.set, List.drop, List.take, List.append, bnds, bhi, blo, srcOf, ↓reduceIte, Nat.reduceEqDiff, Nat.reduceAdd, Nat.reduceLeDiff, reduceCtorEq, Nat.reduceSub, Int.reduceEq, Int.reduceLT, Int.reduceLE, Int.reduceGT, Int.reduceGE, Int.reduceSub, Int.reduceAdd, Int.reduceMul, Int.reduceNe, Int.reduceNeg, Int.reduceToNat, Nat.reduceMul, spAbove, spBelow, spR3Make, spI2Mul, spI2Add, n2, d2, m2, e2, p1, p2, p3, q3, q4, q5, q6, q7, nl_bl, Fin, isEnd, resL, res1, iE, rE]
  exact ⟨_, rfl, rfl, fun k hk => by simp only [ne_nb hk, if_false]⟩
def spR3Div : List Value → Option Value
  | [.agg ⟨[.bool s, .string ⟨⟨n⟩⟩, .string ⟨⟨d⟩⟩]⟩, .agg ⟨[.bool t, .string ⟨⟨m⟩⟩, .string ⟨⟨e⟩⟩]⟩] => if n.length ≤ 8589934592 ∧ d.length ≤ 8589934592 ∧ m.length ≤ 8589934592 ∧ e.length ≤ 8589934592 then
      (if nl m = 0 then some (.tuple ⟨[.agg ⟨[.bool false, .string ⟨⟨[]⟩⟩, .string ⟨⟨[]⟩⟩]⟩, .bool false]⟩) else some (.tuple ⟨[.agg ⟨rE (rv s n d / rv t m e)⟩, .bool true]⟩)) else none
  | _ => none
def c44 : ICode :=
  (.seq (.reg [⟨(some 2), none, (.box 47 3 (.t 0))⟩, ⟨(some 3), none, (.box 47 3 (.t 1))⟩, ⟨(some 4), none, (.alloc 47 3 [(.bool false), (.string ⟨⟨[]⟩⟩), (.string ⟨⟨[]⟩⟩)])⟩, ⟨(some 5), none, (.mv (.c (.bool false)))⟩])
  (.seq (.dreg [⟨(some 6), none, [], (.load true 3 (.t 2))⟩, ⟨(some 7), none, [], (.call 85 [(.t 6)])⟩, ⟨(some 8), none, [1], (.load true 3 (.t 3))⟩, ⟨(some 9), none, [], (.call 88 [(.t 8)])⟩, ⟨(some 10), none, [], (.call 87 [(.t 7), (.t 9)])⟩, ⟨(some 11), none, [1, 3, 4], (.load true 3 (.t 2))⟩, ⟨(some 12), none, [], (.call 88 [(.t 11)])⟩, ⟨(some 13), none, [1, 3, 4, 6], (.load true 3 (.t 3))⟩, ⟨(some 14), none, [], (.call 85 [(.t 13)])⟩, ⟨(some 15), none, [], (.call 87 [(.t 12), (.t 14)])⟩, ⟨(some 16), none, [], (.call 86 [(.t 10), (.t 15)])⟩, ⟨(some 17), none, [], (.ext (.t 16) 0)⟩, ⟨(some 18), none, [], (.ext (.t 16) 1)⟩, ⟨none, none, [], (.store 3 (.t 4) (.t 17))⟩, ⟨(some 5), none, [], (.mv (.t 18))⟩])
  .ret))
theorem tr44 : trFun Tryz.prog 44 = some ⟨19, [.cell 4 true 3, .t 5], c44⟩ := by kernel_rfl
theorem ok_r3Div : SpecOK Tryz.prog 44 (flat spR3Div) := by
  refine flat_run (env_cons ok_r3above (env_cons ok_r3below (env_cons ok_r3Make (env_cons ok_r2Mul (env_nil _))))) mixed tr44 ?_
  intro args v h N hG
  unfold spR3Div at hG
  split at hG
  case h_2 => cases hG
  rename_i s n d t m e
  split at hG
  case isFalse => cases hG
  rename_i hl
  obtain ⟨h1, h2, h3, h4⟩ := hl
  have n2 : n.length ≤ 1099511627776 := by omega
  have d2 : d.length ≤ 1099511627776 := by omega
  have m2 : m.length ≤ 1099511627776 := by omega
  have e2 : e.length ≤ 1099511627776 := by omega
  have n3 := len_sv (s := s) h1
  have m3 := len_sv (s := t) h3
  have d3 : (bl (dv d).natAbs).length ≤ 8589934593 := len_dv (by omega)
  have e3 : (bl (dv e).natAbs).length ≤ 8589934593 := len_dv (by omega)
  have p1 : (bl (sv s n).natAbs).length + (bl (dv e).natAbs).length ≤ 274877906944 := by omega
  have p3 : (bl (dv d).natAbs).length + (bl (sv t m).natAbs).length ≤ 274877906944 := by omega
  have q1 : (bl (sv s n * dv e).natAbs).length ≤ 68719476736 := Nat.le_trans (len_mul n3 e3) (by omega)
  have q3 : (bl (dv d * sv t m).natAbs).length ≤ 68719476736 := Nat.le_trans (len_mul d3 m3) (by omega)
  have q4 : (dv d * sv t m).natAbs = 0 ↔ nl m = 0 := by
    rw [Int.natAbs_eq_zero, Int.mul_eq_zero, sv_eq_zero]
    have := dv_pos d
    constructor
    · rintro (h | h)
      · omega
      · exact h
    · exact .inr
  split at hG
  · rename_i h0
    cases hG
    refine ⟨rfl, by simp, ?_⟩
    simp only [c44, initT, List.zipIdx_cons, List.zipIdx_nil, List.map_cons, List.map_nil, Nat.reduceAdd]
    simp only [↓R0, R1, rdL, rdH, isCall, istep, ibin, vcells, fillI, setR, flat, okCell, isBase, List.set, List.drop, List.take, List.append, bnds, bhi, blo, srcOf, ↓reduceIte, Nat.reduceEqDiff, Nat.reduceAdd, Nat.reduceLeDiff, reduceCtorEq, Nat.reduceSub, Int.reduceEq, Int.reduceLT, Int.reduceLE, Int.reduceGT, Int.reduceGE, Int.reduceSub, Int.reduceAdd, Int.reduceMul, Int.reduceNe, Int.reduceNeg, Int.reduceToNat, Nat.reduceMul, spAbove, spBelow, spR3Make, spI2Mul, n2, d2, m2, e2, p1, p3, q1, q3, q4, h0, nl_bl, Fin, isEnd, resL, res1, iE, rE]
    exact ⟨_, rfl, rfl, fun k hk => by simp only [ne_nb hk, if_false]⟩
  · rename_i h0
    cases hG
    refine ⟨rfl, by simp, ?_⟩
    unfold rv
    rw [Rat.div_def, Rat.inv_divInt, Rat.divInt_mul_divInt]
    simp only [c44, initT, List.zipIdx_cons, List.zipIdx_nil, List.map_cons, List.map_nil, Nat.reduceAdd]
    simp only [↓R0, R1, rdL, rdH, isCall, istep, ibin, vcells, fillI, setR, flat, okCell, isBase, List.set, List.drop, List.take, List.append, bnds, bhi, blo, srcOf, ↓reduceIte, Nat.reduceEqDiff, Nat.reduceAdd, Nat.reduceLeDiff, reduceCtorEq, Nat.reduceSub, Int.reduceEq, Int.reduceLT, Int.reduceLE, Int.reduceGT, Int.reduceGE, Int.reduceSub, Int.reduceAdd, Int.reduceMul, Int.reduceNe, Int.reduceNeg, Int.reduceToNat, Nat.reduceMul, spAbove, spBelow, spR3Make, spI2Mul, n2, d2, m2, e2, p1, p3, q1, q3, q4, h0, nl_bl, Fin, isEnd, resL, res1, iE, rE]
    exact ⟨_, rfl, rfl, fun k hk => by simp only [ne_nb hk, if_false]⟩
end Go.Eng
end
section
set_option linter.unusedVariables false
set_option linter.unusedSimpArgs false
set_option linter.unusedSectionVars false
set_option maxRecDepth 4000
namespace Go.Eng
open Go Go.Proofs Go.IntWalk
theorem len_rneg (q : Rat) : (-q).num.natAbs = q.num.natAbs ∧ (-q).den = q.den := by
  constructor
  · rw [Rat.neg_num]; simp
  · rw [Rat.neg_den]
theorem len_den (q : Rat) {k : Nat} (h : (bl q.den).length ≤ k) : (if q.den = 1 then ([] : List UInt8) else bl q.den).length ≤ k := by
  split
  · simp
  · exact h
def spR3Parts : List Value → Option Value
  | [.agg ⟨[.bool s, .string ⟨⟨n⟩⟩, .string ⟨⟨d⟩⟩]⟩] => if n.length ≤ 34359738368 ∧ d.length ≤ 34359738368 then some (.tuple ⟨[.agg ⟨iE (rv s n d).num⟩, .agg ⟨iE ((rv s n d).den : Int)⟩]⟩) else none
  | _ => none
def c89 : ICode :=
  (.seq (.reg [⟨(some 1), none, (.box 47 3 (.t 0))⟩, ⟨(some 2), none, (.alloc 23 2 [(.bool false), (.string ⟨⟨[]⟩⟩)])⟩, ⟨(some 3), none, (.alloc 23 2 [(.bool false), (.string ⟨⟨[]⟩⟩)])⟩])
  (.seq (.reg [⟨(some 5), none, (.load true 3 (.t 1))⟩, ⟨(some 6), none, (.call 126 [(.t 5)])⟩, ⟨(some 4), none, (.alloc 47 3 [(.bool false), (.string ⟨⟨[]⟩⟩), (.string ⟨⟨[]⟩⟩)])⟩, ⟨none, none, (.store 3 (.t 4) (.t 6))⟩])
  (.seq (.dreg [⟨(some 7), none, [], (.load true 3 (.t 4))⟩, ⟨(some 8), none, [], (.call 85 [(.t 7)])⟩, ⟨(some 9), none, [1], (.load true 3 (.t 4))⟩, ⟨(some 10), none, [], (.call 88 [(.t 9)])⟩, ⟨none, none, [], (.store 2 (.t 2) (.t 8))⟩, ⟨none, none, [], (.store 2 (.t 3) (.t 10))⟩])
  .ret)))
theorem tr89 : trFun Tryz.prog 89 = some ⟨11, [.cell 2 true 2, .cell 3 true 2], c89⟩ := by kernel_rfl
theorem divInt_le {N D : Int} (hD : 0 < D) : (Rat.divInt N D).num.natAbs ≤ N.natAbs ∧ (Rat.divInt N D).den ≤ D.natAbs := by
  obtain ⟨h1, h2, _⟩ := divInt_cells (N := N) (D := D) (by omega)
  rw [h1, h2]
  exact ⟨Nat.div_le_self _ _, Nat.div_le_self _ _⟩
theorem ok_r3Parts : SpecOK Tryz.prog 89 (flat spR3Parts) := by
  refine flat_run (env_cons ok_r3Norm (env_cons ok_r3above (env_cons ok_r3below (env_nil _)))) mixed tr89 ?_
  intro args v h N hG
  unfold spR3Parts at hG
  split at hG
  case h_2 => cases hG
  rename_i s n d
  split at hG
  case isFalse => cases hG
  rename_i hl
  obtain ⟨h1, h2⟩ := hl
  cases hG
  refine ⟨rfl, by simp, ?_⟩
  obtain ⟨g1, g2⟩ := divInt_le (N := sv s n) (dv_pos d)
  have n2 : (bl (rv s n d).num.natAbs).length ≤ 1099511627776 := Nat.le_trans (bl_length_mono g1) (Nat.le_trans (len_sv h1) (by omega))
  have d2 : (if (rv s n d).den = 1 then ([] : List UInt8) else bl (rv s n d).den).length ≤ 1099511627776 :=
    len_den _ (Nat.le_trans (bl_length_mono g2) (Nat.le_trans (bl_dv d) (by omega)))
  have dc := dv_can (rv s n d)
  simp only [c89, initT, List.zipIdx_cons, List.zipIdx_nil, List.map_cons, List.map_nil, Nat.reduceAdd]
  simp only [↓R0, R1, rdL, rdH, isCall, istep, ibin, vcells, fillI, setR, flat, okCell, isBase, List.set, List.drop, List.take, List.append, bnds, bhi, blo, srcOf, ↓reduceIte, Nat.reduceEqDiff, Nat.reduceAdd, Nat.reduceLeDiff, reduceCtorEq, Nat.reduceSub, Int.reduceEq, Int.reduceLT, Int.reduceLE, Int.reduceGT, Int.reduceGE, Int.reduceSub, Int.reduceAdd, Int.reduceMul, Int.reduceNe, Int.reduceNeg, Int.reduceToNat, Nat.reduceMul, spR3Norm, spAbove, spBelow, h1, h2, n2, d2, dc, Fin, isEnd, resL, res1, iE, rE]
  exact ⟨_, rfl, rfl, fun k hk => by simp only [ne_nb hk, if_false]⟩
def spR3Sub : List Value → Option Value
  | [.agg ⟨[.bool s, .string ⟨⟨n⟩⟩, .string ⟨⟨d⟩⟩]⟩, .agg ⟨[.bool t, .string ⟨⟨m⟩⟩, .string ⟨⟨e⟩⟩]⟩] => if n.length ≤ 8589934592 ∧ d.length ≤ 8589934592 ∧ m.length ≤ 8589934592 ∧ e.length + 1 ≤ 8589934592 then some (.agg ⟨rE (rv s n d - rv t m e)⟩) else none
  | _ => none
def c56 : ICode :=
  (.seq (.reg [⟨(some 2), none, (.box 47 3 (.t 0))⟩, ⟨(some 3), none, (.box 47 3 (.t 1))⟩, ⟨(some 4), none, (.alloc 47 3 [(.bool false), (.string ⟨⟨[]⟩⟩), (.string ⟨⟨[]⟩⟩)])⟩])
  (.seq (.dreg [⟨(some 5), none, [], (.load true 3 (.t 2))⟩, ⟨(some 6), none, [], (.load true 3 (.t 3))⟩, ⟨(some 7), none, [], (.call 98 [(.t 6)])⟩, ⟨(some 8), none, [], (.call 83 [(.t 5), (.t 7)])⟩, ⟨none, none, [], (.store 3 (.t 4) (.t 8))⟩])
  .ret))
theorem tr56 : trFun Tryz.prog 56 = some ⟨9, [.cell 4 true 3], c56⟩ := by kernel_rfl
theorem ok_r3Sub : SpecOK Tryz.prog 56 (flat spR3Sub) := by
  refine flat_run (env_cons ok_r3Neg (env_cons ok_r3Add (env_nil _))) mixed tr56 ?_
  intro args v h N hG
  unfold spR3Sub at hG
  split at hG
  case h_2 => cases hG
  rename_i s n d t m e
  split at hG
  case isFalse => cases hG
  rename_i hl
  obtain ⟨h1, h2, h3, h4⟩ := hl
  cases hG
  refine ⟨rfl, by simp, ?_⟩
  obtain ⟨g1, g2⟩ := divInt_le (N := sv t m) (dv_pos e)
  have m2 : m.length ≤ 34359738368 := by omega
  have e2 : e.length ≤ 34359738368 := by omega
  have m3 : (bl (-rv t m e).num.natAbs).length ≤ 8589934592 := by
    rw [(len_rneg _).1]; exact Nat.le_trans (bl_length_mono g1) (len_sv h3)
  have e3 : (if (-rv t m e).den = 1 then ([] : List UInt8) else bl (-rv t m e).den).length ≤ 8589934592 := by
    refine len_den _ ?_
    rw [(len_rneg _).2]; exact Nat.le_trans (bl_length_mono g2) (Nat.le_trans (bl_dv e) h4)
  rw [Rat.sub_eq_add_neg]
  simp only [c56, initT, List.zipIdx_cons, List.zipIdx_nil, List.map_cons, List.map_nil, Nat.reduceAdd]
  simp only [↓R0, R1, rdL, rdH, isCall, istep, ibin, vcells, fillI, setR, flat, okCell, isBase, List.set, List.drop, List.take, List.append, bnds, bhi, blo, srcOf, ↓reduceIte, Nat.reduceEqDiff, Nat.reduceAdd, Nat.reduceLeDiff, reduceCtorEq, Nat.reduceSub, Int.reduceEq, Int.reduceLT, Int.reduceLE, Int.reduceGT, Int.reduceGE, Int.reduceSub, Int.reduceAdd, Int.reduceMul, Int.reduceNe, Int.reduceNeg, Int.reduceToNat, Nat.reduceMul, spR3Neg, spR3Add, h1, h2, m2, e2, m3, e3, rv_can, Fin, isEnd, resL, res1, iE, rE]
  exact ⟨_, rfl, rfl, fun k hk => by simp only [ne_nb hk, if_false]⟩
def spR3Cmp : List Value → Option Value
  | [.agg ⟨[.bool s, .string ⟨⟨n⟩⟩, .string ⟨⟨d⟩⟩]⟩, .agg ⟨[.bool t, .string ⟨⟨m⟩⟩, .string ⟨⟨e⟩⟩]⟩] => if n.length ≤ 4294967296 ∧ d.length ≤ 4294967296 ∧ m.length ≤ 4294967296 ∧ e.length ≤ 4294967296 then some (.int .i64 (rv s n d - rv t m e).num.sign) else none
  | _ => none
def c107 : ICode :=
  (.seq (.reg [⟨(some 2), none, (.box 47 3 (.t 0))⟩, ⟨(some 3), none, (.box 47 3 (.t 1))⟩, ⟨(some 4), none, (.mv (.c (.int .i64 0)))⟩])
  (.seq (.reg [⟨(some 5), none, (.load true 3 (.t 2))⟩, ⟨(some 6), none, (.load true 3 (.t 3))⟩, ⟨(some 7), none, (.call 56 [(.t 5), (.t 6)])⟩, ⟨(some 8), none, (.call 41 [(.t 7)])⟩, ⟨(some 4), none, (.mv (.t 8))⟩])
  .ret))
theorem tr107 : trFun Tryz.prog 107 = some ⟨9, [.t 4], c107⟩ := by kernel_rfl
theorem ok_r3Cmp : SpecOK Tryz.prog 107 (flat spR3Cmp) := by
  refine flat_run (env_cons ok_r3Sub (env_cons ok_r3Sign (env_nil _))) mixed tr107 ?_
  intro args v h N hG
  unfold spR3Cmp at hG
  split at hG
  case h_2 => cases hG
  rename_i s n d t m e
  split at hG
  case isFalse => cases hG
  rename_i hl
  obtain ⟨h1, h2, h3, h4⟩ := hl
  cases hG
  refine ⟨rfl, by simp, ?_⟩
  have hd := dv_pos d
  have he := dv_pos e
  have eq : rv s n d - rv t m e = Rat.divInt (sv s n * dv e + -sv t m * dv d) (dv d * dv e) := by
    unfold rv
    rw [Rat.sub_eq_add_neg, Rat.neg_divInt, Rat.divInt_add_divInt _ _ (by omega) (by omega)]
  obtain ⟨g1, g2⟩ := divInt_le (N := sv s n * dv e + -sv t m * dv d) (Int.mul_pos hd he)
  rw [← eq] at g1 g2
  have l1 := len_sv (s := s) h1
  have l2 : (bl (-sv t m).natAbs).length ≤ 4294967296 := by rw [Int.natAbs_neg]; exact len_sv h3
  have l3 : (bl (dv d).natAbs).length ≤ 4294967297 := len_dv (by omega)
  have l4 : (bl (dv e).natAbs).length ≤ 4294967297 := len_dv (by omega)
  have k1 : (bl (rv s n d - rv t m e).num.natAbs).length ≤ 34359738368 :=
    Nat.le_trans (bl_length_mono g1) (Nat.le_trans (len_add (len_mul l1 l4) (len_mul l2 l3)) (by omega))
  have k2 : (if (rv s n d - rv t m e).den = 1 then ([] : List UInt8) else bl (rv s n d - rv t m e).den).length ≤ 34359738368 :=
    len_den _ (Nat.le_trans (bl_length_mono g2) (Nat.le_trans (len_mul l3 l4) (by omega)))
  have n2 : n.length ≤ 8589934592 := by omega
  have d2 : d.length ≤ 8589934592 := by omega
  have m2 : m.length ≤ 8589934592 := by omega
  have e2 : e.length + 1 ≤ 8589934592 := by omega
  simp only [c107, initT, List.zipIdx_cons, List.zipIdx_nil, List.map_cons, List.map_nil, Nat.reduceAdd]
  simp only [↓R0, R1, rdL, rdH, isCall, istep, ibin, vcells, fillI, setR, flat, okCell, isBase, List.set, List.drop, List.take, List.append, bnds, bhi, blo, srcOf, ↓reduceIte, Nat.reduceEqDiff, Nat.reduceAdd, Nat.reduceLeDiff, reduceCtorEq, Nat.reduceSub, Int.reduceEq, Int.reduceLT, Int.reduceLE, Int.reduceGT, Int.reduceGE, Int.reduceSub, Int.reduceAdd, Int.reduceMul, Int.reduceNe, Int.reduceNeg, Int.reduceToNat, Nat.reduceMul, spR3Sub, spR3Sign, n2, d2, m2, e2, k1, k2, Fin, isEnd, resL, res1, iE, rE]
  exact ⟨_, rfl, rfl, fun k hk => by simp only [ne_nb hk, if_false]⟩
end Go.Eng
end
section
set_option linter.unusedVariables false
set_option linter.unusedSimpArgs false
set_option linter.unusedSectionVars false
namespace Go.Eng
def pW (w : Int) : Int := if w = 0 then 1 else w
def pG (x y z w : Int) : Nat := Nat.gcd (Nat.gcd (Nat.gcd x.natAbs y.natAbs) z.natAbs) (pW w).natAbs
def pQ (x y z w a : Int) : Int := (if pW w < 0 then -a else a) / (pG x y z w : Int)
def pE (x y z w : Int) : List Value := iE (pQ x y z w x) ++ iE (pQ x y z w y) ++ iE (pQ x y z w z) ++ iE (pQ x y z w (pW w))
theorem pW_ne (w : Int) : pW w ≠ 0 := by unfold pW; split <;> omega
theorem pG_pos (x y z w : Int) : 0 < pG x y z w := Nat.gcd_pos_of_pos_right _ (by have := pW_ne w; omega)
theorem pW_of {w : Int} (h : w ≠ 0) : pW w = w := by unfold pW; rw [if_neg h]
theorem pQ_scale {x y z w a k : Int} (hw : w ≠ 0) (hk : k ≠ 0) : pQ (k * x) (k * y) (k * z) (k * w) (k * a) = pQ x y z w a := by
  have hkw : k * w ≠ 0 := by simp [hk, hw]
  unfold pQ
  rw [pW_of hkw, pW_of hw]
  have hG : pG (k * x) (k * y) (k * z) (k * w) = k.natAbs * pG x y z w := by
    unfold pG
    rw [pW_of hkw, pW_of hw, Int.natAbs_mul, Int.natAbs_mul, Int.natAbs_mul, Int.natAbs_mul, Nat.gcd_mul_left, Nat.gcd_mul_left, Nat.gcd_mul_left]
  rw [hG, Int.natCast_mul]
  have hk0 : 0 < (k.natAbs : Int) := by omega
  rcases Int.lt_trichotomy k 0 with h | h | h
  · have e : k = -(k.natAbs : Int) := by omega
    generalize (k.natAbs : Int) = n at *
    subst e
    rcases Int.lt_trichotomy w 0 with g | g | g
    · have g2 : ¬ -n * w < 0 := by
        have := Int.mul_pos_of_neg_of_neg h g; omega
      rw [if_neg g2, if_pos g, Int.neg_mul, ← Int.mul_neg, Int.mul_ediv_mul_of_pos _ _ hk0]
    · exact absurd g hw
    · have g2 : -n * w < 0 := Int.mul_neg_of_neg_of_pos h g
      rw [if_pos g2, if_neg (by omega), Int.neg_mul, Int.neg_neg, Int.mul_ediv_mul_of_pos _ _ hk0]
  · exact absurd h hk
  · have e : k = (k.natAbs : Int) := by omega
    generalize (k.natAbs : Int) = n at *
    subst e
    rcases Int.lt_trichotomy w 0 with g | g | g
    · have g2 : k * w < 0 := Int.mul_neg_of_pos_of_neg h g
      rw [if_pos g2, if_pos g, ← Int.mul_neg, Int.mul_ediv_mul_of_pos _ _ hk0]
    · exact absurd g hw
    · have g2 : ¬ k * w < 0 := by have := Int.mul_pos h g; omega
      rw [if_neg g2, if_neg (by omega), Int.mul_ediv_mul_of_pos _ _ hk0]
theorem pE_scale {x y z w k : Int} (hw : w ≠ 0) (hk : k ≠ 0) : pE (k * x) (k * y) (k * z) (k * w) = pE x y z w := by
  have hkw : k * w ≠ 0 := by simp [hk, hw]
  unfold pE
  rw [pW_of hkw, pW_of hw, pQ_scale hw hk, pQ_scale hw hk, pQ_scale hw hk, pQ_scale hw hk]
theorem pE_eq {x y z w x' y' z' w' : Int} (hw : w ≠ 0) (hw' : w' ≠ 0) (hx : x * w' = x' * w) (hy : y * w' = y' * w) (hz : z * w' = z' * w) : pE x y z w = pE x' y' z' w' := by
  rw [← pE_scale (k := w') hw hw', ← pE_scale (k := w) hw' hw, Int.mul_comm w' x, Int.mul_comm w' y, Int.mul_comm w' z, Int.mul_comm w' w, hx, hy, hz, Int.mul_comm x', Int.mul_comm y', Int.mul_comm z']
end Go.Eng
end
section
set_option linter.unusedVariables false
set_option linter.unusedSimpArgs false
set_option linter.unusedSectionVars false
set_option maxRecDepth 4000
namespace Go.Eng
open Go Go.Proofs Go.IntWalk
def spR4Norm : List Value → Option Value
  | [.agg ⟨[.bool s1, .string ⟨⟨l1⟩⟩, .bool s2, .string ⟨⟨l2⟩⟩, .bool s3, .string ⟨⟨l3⟩⟩, .bool s4, .string ⟨⟨l4⟩⟩]⟩] =>
    if l1.length ≤ 34359738368 ∧ l2.length ≤ 34359738368 ∧ l3.length ≤ 34359738368 ∧ l4.length ≤ 34359738368 then some (.agg ⟨pE (sv s1 l1) (sv s2 l2) (sv s3 l3) (sv s4 l4)⟩) else none
  | _ => none
def c14 : ICode :=
  (.seq (.reg [⟨(some 1), none, (.box 30 8 (.t 0))⟩, ⟨(some 2), none, (.alloc 30 8 [(.bool false), (.string ⟨⟨[]⟩⟩), (.bool false), (.string ⟨⟨[]⟩⟩), (.bool false), (.string ⟨⟨[]⟩⟩), (.bool false), (.string ⟨⟨[]⟩⟩)])⟩])
  (.seq (.dreg [⟨(some 7), none, [], (.faddr 0 (.t 1))⟩, ⟨(some 8), none, [], (.load true 2 (.t 7))⟩, ⟨(some 9), none, [], (.call 46 [(.t 8)])⟩, ⟨(some 10), none, [], (.faddr 2 (.t 1))⟩, ⟨(some 11), none, [2], (.load true 2 (.t 10))⟩, ⟨(some 12), none, [], (.call 46 [(.t 11)])⟩, ⟨(some 13), none, [], (.faddr 4 (.t 1))⟩, ⟨(some 14), none, [2, 5], (.load true 2 (.t 13))⟩, ⟨(some 15), none, [], (.call 46 [(.t 14)])⟩, ⟨(some 16), none, [], (.faddr 6 (.t 1))⟩, ⟨(some 17), none, [2, 5, 8], (.load true 2 (.t 16))⟩, ⟨(some 18), none, [], (.call 46 [(.t 17)])⟩, ⟨(some 19), none, [], (.bslice 23 2 4 [(.bool false), (.string ⟨⟨[]⟩⟩), (.bool false), (.string ⟨⟨[]⟩⟩), (.bool false), (.string ⟨⟨[]⟩⟩), (.bool false), (.string ⟨⟨[]⟩⟩)] [(0, 2, (.t 9)), (2, 2, (.t 12)), (4, 2, (.t 15)), (6, 2, (.t 18))])⟩, ⟨(some 3), none, [], (.mv (.t 19))⟩])
  (.seq (.seq (.reg [⟨(some 20), none, (.mv (.t 3))⟩, ⟨(some 21), none, (.ixsl 2 (.t 20) (.c (.int .i64 3)))⟩, ⟨(some 22), none, (.load true 2 (.t 21))⟩, ⟨(some 23), none, (.call 47 [(.t 22)])⟩, ⟨(some 24), none, (.bin .eql (.t 23) (.c (.int .i64 0)))⟩])
  (.cond (.t 24)
  (.reg [⟨(some 25), none, (.mv (.t 3))⟩, ⟨(some 26), none, (.call 48 [(.c (.int .i64 1))])⟩, ⟨(some 27), none, (.ixsl 2 (.t 25) (.c (.int .i64 3)))⟩, ⟨none, none, (.store 2 (.t 27) (.t 26))⟩])
  .skip))
  (.seq (.reg [⟨(some 28), none, (.mv (.t 3))⟩, ⟨(some 29), none, (.ixsl 2 (.t 28) (.c (.int .i64 3)))⟩, ⟨(some 30), none, (.load true 2 (.t 29))⟩, ⟨(some 31), none, (.call 47 [(.t 30)])⟩, ⟨(some 32), none, (.bin .lss (.t 31) (.c (.int .i64 0)))⟩, ⟨(some 4), none, (.mv (.t 32))⟩])
  (.seq (.reg [⟨(some 33), none, (.mv (.t 3))⟩, ⟨(some 34), none, (.call 49 [(.t 33)])⟩, ⟨(some 5), none, (.alloc 23 2 [(.bool false), (.string ⟨⟨[]⟩⟩)])⟩, ⟨none, none, (.store 2 (.t 5) (.t 34))⟩])
  (.seq (.seq (.reg [⟨(some 35), none, (.mv (.t 3))⟩, ⟨(some 36), none, (.lensl (.t 35))⟩, ⟨(some 37), none, (.mv (.c (.int .i64 0)))⟩])
  (.block 0 (.loop (.seq (.reg [⟨(some 38), none, (.bin .lss (.t 37) (.t 36))⟩])
  (.seq (.cond (.t 38)
  .skip
  (.exit 0))
  (.seq (.block 1 (.seq (.reg [⟨(some 39), none, (.mv (.t 37))⟩, ⟨(some 6), none, (.mv (.t 39))⟩])
  (.seq (.seq (.reg [⟨(some 40), none, (.mv (.t 4))⟩])
  (.cond (.t 40)
  (.reg [⟨(some 41), none, (.mv (.t 3))⟩, ⟨(some 42), none, (.mv (.t 6))⟩, ⟨(some 43), none, (.mv (.t 3))⟩, ⟨(some 44), none, (.mv (.t 6))⟩, ⟨(some 45), none, (.ixsl 2 (.t 43) (.t 44))⟩, ⟨(some 46), none, (.load true 2 (.t 45))⟩, ⟨(some 47), none, (.call 50 [(.t 46)])⟩, ⟨(some 48), none, (.ixsl 2 (.t 41) (.t 42))⟩, ⟨none, none, (.store 2 (.t 48) (.t 47))⟩])
  .skip))
  (.dreg [⟨(some 50), none, [], (.mv (.t 3))⟩, ⟨(some 51), none, [], (.mv (.t 6))⟩, ⟨(some 52), none, [], (.mv (.t 3))⟩, ⟨(some 53), none, [], (.mv (.t 6))⟩, ⟨(some 54), none, [], (.ixsl 2 (.t 52) (.t 53))⟩, ⟨(some 55), none, [], (.load true 2 (.t 54))⟩, ⟨(some 56), none, [], (.load true 2 (.t 5))⟩, ⟨(some 57), none, [], (.call 51 [(.t 55), (.t 56)])⟩, ⟨(some 49), none, [], (.mv (.t 57))⟩, ⟨(some 58), none, [], (.ext (.t 49) 0)⟩, ⟨(some 59), none, [], (.ext (.t 49) 1)⟩, ⟨(some 60), none, [], (.ext (.t 49) 2)⟩, ⟨(some 61), none, [], (.ixsl 2 (.t 50) (.t 51))⟩, ⟨none, none, [], (.store 2 (.t 61) (.t 58))⟩]))))
  (.reg [⟨(some 62), none, (.bin .add (.t 37) (.c (.int .i64 1)))⟩, ⟨(some 37), none, (.mv (.t 62))⟩])))))))
  (.seq (.dreg [⟨(some 63), none, [], (.mv (.t 3))⟩, ⟨(some 64), none, [], (.ixsl 2 (.t 63) (.c (.int .i64 0)))⟩, ⟨(some 65), none, [], (.load true 2 (.t 64))⟩, ⟨(some 66), none, [], (.mv (.t 3))⟩, ⟨(some 67), none, [], (.ixsl 2 (.t 66) (.c (.int .i64 1)))⟩, ⟨(some 68), none, [], (.load true 2 (.t 67))⟩, ⟨(some 69), none, [], (.mv (.t 3))⟩, ⟨(some 70), none, [], (.ixsl 2 (.t 69) (.c (.int .i64 2)))⟩, ⟨(some 71), none, [], (.load true 2 (.t 70))⟩, ⟨(some 72), none, [], (.mv (.t 3))⟩, ⟨(some 73), none, [], (.ixsl 2 (.t 72) (.c (.int .i64 3)))⟩, ⟨(some 74), none, [], (.load true 2 (.t 73))⟩, ⟨(some 75), none, [], (.build [(.bool false), (.string ⟨⟨[]⟩⟩), (.bool false), (.string ⟨⟨[]⟩⟩), (.bool false), (.string ⟨⟨[]⟩⟩), (.bool false), (.string ⟨⟨[]⟩⟩)] [(0, 2, (.t 65)), (2, 2, (.t 68)), (4, 2, (.t 71)), (6, 2, (.t 74))])⟩, ⟨none, none, [], (.store 8 (.t 2) (.t 75))⟩])
  .ret)))))))
theorem tr14 : trFun Tryz.prog 14 = some ⟨76, [.cell 2 true 8], c14⟩ := by kernel_rfl
set_option maxHeartbeats 1000000 in
theorem ok_r4Norm : SpecOK Tryz.prog 14 (flat spR4Norm) := by
  refine flat_run (env_cons ok_r2Norm (env_cons ok_r2Sign (env_cons ok_r2From (env_cons ok_r2Gcd (env_cons ok_r2Neg (env_cons ok_r2Div (env_nil _))))))) mixed tr14 ?_
  intro args v h N hG
  unfold spR4Norm at hG
  split at hG
  case h_2 => cases hG
  rename_i s1 l1 s2 l2 s3 l3 s4 l4
  split at hG
  case isFalse => cases hG
  rename_i hl
  obtain ⟨h1, h2, h3, h4⟩ := hl
  cases hG
  refine ⟨rfl, by simp, ?_⟩
  have k1 : l1.length ≤ 1099511627776 := by omega
  have k2 : l2.length ≤ 1099511627776 := by omega
  have k3 : l3.length ≤ 1099511627776 := by omega
  have k4 : l4.length ≤ 1099511627776 := by omega
  have n1 := len_sv (s := s1) h1
  have n2 := len_sv (s := s2) h2
  have n3 := len_sv (s := s3) h3
  have n4 := len_sv (s := s4) h4
  have n4' : (bl (sv s4 l4).natAbs).length ≤ 1099511627776 := by omega
  simp only [c14, initT, List.zipIdx_cons, List.zipIdx_nil, List.map_cons, List.map_nil, Nat.reduceAdd]
  simp only [↓R0, R1, rdL, rdH, isCall, istep, ibin, vcells, fillI, setR, flat, okCell, isBase, List.set, List.drop, List.take, List.append, bnds, bhi, blo, srcOf, ↓reduceIte, Nat.reduceEqDiff, Nat.reduceAdd, Nat.reduceLeDiff, reduceCtorEq, Nat.reduceSub, Int.reduceEq, Int.reduceLT, Int.reduceLE, Int.reduceGT, Int.reduceGE, Int.reduceSub, Int.reduceAdd, Int.reduceMul, Int.reduceNe, Int.reduceNeg, Int.reduceToNat, Nat.reduceMul, spI2Norm, k1, k2, k3, k4, iE]
  generalize sv s1 l1 = x at *
  generalize sv s2 l2 = y at *
  generalize sv s3 l3 = z at *
  generalize sv s4 l4 = w at *
  have e1 : (w.sign = 0) = (w = 0) := propext Int.sign_eq_zero_iff_zero
  simp only [↓R0, R1, rdL, rdH, isCall, istep, ibin, vcells, fillI, setR, flat, okCell, isBase, List.set, List.drop, List.take, List.append, bnds, bhi, blo, srcOf, ↓reduceIte, Nat.reduceEqDiff, Nat.reduceAdd, Nat.reduceLeDiff, reduceCtorEq, Nat.reduceSub, Int.reduceEq, Int.reduceLT, Int.reduceLE, Int.reduceGT, Int.reduceGE, Int.reduceSub, Int.reduceAdd, Int.reduceMul, Int.reduceNe, Int.reduceNeg, Int.reduceToNat, Nat.reduceMul, spI2Sign, n4', e1]
  have rest : ∀ W : Int, W = pW w → (bl W.natAbs).length ≤ 34359738368 := by
    intro W e
    subst e
    unfold pW; split
    · exact Nat.le_trans (bl_length_le (k := 1).2 (by decide)) (by omega)
    · exact n4
  unfold pE pQ pG
  generalize hW : pW w = W at *
  have nW := rest W rfl
  have nW2 : (bl W.natAbs).length ≤ 1099511627776 := by omega
  have hWne : W ≠ 0 := by rw [← hW]; exact pW_ne w
  generalize hGG : Nat.gcd (Nat.gcd (Nat.gcd x.natAbs y.natAbs) z.natAbs) W.natAbs = G at *
  have m1 : (bl x.natAbs).length ≤ 68719476736 := by omega
  have m2 : (bl y.natAbs).length ≤ 68719476736 := by omega
  have m3 : (bl z.natAbs).length ≤ 68719476736 := by omega
  have m4 : (bl W.natAbs).length ≤ 68719476736 := by omega
  have hG0 : 0 < G := by rw [← hGG]; exact Nat.gcd_pos_of_pos_right _ (by omega)
  have mG : (bl G).length ≤ 68719476736 := by
    rw [← hGG]; exact Nat.le_trans (bl_length_mono (Nat.gcd_le_right _ (by omega))) m4
  have f1 : ¬ ((G : Int) < 0) := by omega
  have f2 : ¬ (G = 0) := by omega
  have f5 : sv false (bl G) = (G : Int) := by rw [sv_false, nl_bl]
  have k5 : (bl x.natAbs).length ≤ 1099511627776 := by omega
  have k6 : (bl y.natAbs).length ≤ 1099511627776 := by omega
  have k7 : (bl z.natAbs).length ≤ 1099511627776 := by omega
  have k8 := nW2
  have r1 : (bl (-x).natAbs).length ≤ 68719476736 := by rw [Int.natAbs_neg]; exact m1
  have r2 : (bl (-y).natAbs).length ≤ 68719476736 := by rw [Int.natAbs_neg]; exact m2
  have r3 : (bl (-z).natAbs).length ≤ 68719476736 := by rw [Int.natAbs_neg]; exact m3
  have r4 : (bl (-W).natAbs).length ≤ 68719476736 := by rw [Int.natAbs_neg]; exact m4
  have w1 : IntKind.i64.wrap 1 = 1 := i64_in _ (by omega)
  have w2 : IntKind.i64.wrap 2 = 2 := i64_in _ (by omega)
  have w3 : IntKind.i64.wrap 3 = 3 := i64_in _ (by omega)
  have w4 : IntKind.i64.wrap 4 = 4 := i64_in _ (by omega)
  have eW : (W.sign < 0) = (W < 0) := propext Int.sign_neg_iff
  by_cases hw : w = 0
  · have hfrom : spI2From [.int .i64 1] = some (.agg ⟨iE W⟩) := by
      rw [← hW]; unfold pW; rw [if_pos hw]; rfl
    simp only [↓R0, R1, rdL, rdH, isCall, istep, ibin, vcells, fillI, setR, flat, okCell, isBase, List.set, List.drop, List.take, List.append, bnds, bhi, blo, srcOf, ↓reduceIte, Nat.reduceEqDiff, Nat.reduceAdd, Nat.reduceLeDiff, reduceCtorEq, Nat.reduceSub, Int.reduceEq, Int.reduceLT, Int.reduceLE, Int.reduceGT, Int.reduceGE, Int.reduceSub, Int.reduceAdd, Int.reduceMul, Int.reduceNe, Int.reduceNeg, Int.reduceToNat, Nat.reduceMul, hw, hfrom, iE, spI2Sign, nW2, eW, rdS, spI2Gcd, ints, gcds, List.foldl_cons, List.foldl_nil, Nat.gcd_zero_left, nl_bl, List.forall_mem_cons, m1, m2, m3, m4, List.not_mem_nil, false_implies, implies_true, hGG, f1, Int.natAbs_natCast]
    by_cases hn : W < 0
    · have sW : sv true (bl W.natAbs) = W := by rw [sv_true, nl_bl]; omega
      simp only [↓R0, R1, rdL, rdH, isCall, istep, ibin, vcells, fillI, setR, flat, okCell, isBase, List.set, List.drop, List.take, List.append, bnds, bhi, blo, srcOf, ↓reduceIte, Nat.reduceEqDiff, Nat.reduceAdd, Nat.reduceLeDiff, reduceCtorEq, Nat.reduceSub, Int.reduceEq, Int.reduceLT, Int.reduceLE, Int.reduceGT, Int.reduceGE, Int.reduceSub, Int.reduceAdd, Int.reduceMul, Int.reduceNe, Int.reduceNeg, Int.reduceToNat, Nat.reduceMul, hn]
      refine lp_step ?_
      simp only [↓R0, R1, rdL, rdH, isCall, istep, ibin, vcells, fillI, setR, flat, okCell, isBase, List.set, List.drop, List.take, List.append, bnds, bhi, blo, srcOf, ↓reduceIte, Nat.reduceEqDiff, Nat.reduceAdd, Nat.reduceLeDiff, reduceCtorEq, Nat.reduceSub, Int.reduceEq, Int.reduceLT, Int.reduceLE, Int.reduceGT, Int.reduceGE, Int.reduceSub, Int.reduceAdd, Int.reduceMul, Int.reduceNe, Int.reduceNeg, Int.reduceToNat, Nat.reduceMul, hn, spI2Neg, spI2Div, k5, k6, k7, k8, m1, m2, m3, m4, mG, f1, f2, f5, nl_bl, r1, r2, r3, r4, sW, w1, w2, w3, w4, iE]
      refine lp_step ?_
      simp only [↓R0, R1, rdL, rdH, isCall, istep, ibin, vcells, fillI, setR, flat, okCell, isBase, List.set, List.drop, List.take, List.append, bnds, bhi, blo, srcOf, ↓reduceIte, Nat.reduceEqDiff, Nat.reduceAdd, Nat.reduceLeDiff, reduceCtorEq, Nat.reduceSub, Int.reduceEq, Int.reduceLT, Int.reduceLE, Int.reduceGT, Int.reduceGE, Int.reduceSub, Int.reduceAdd, Int.reduceMul, Int.reduceNe, Int.reduceNeg, Int.reduceToNat, Nat.reduceMul, hn, spI2Neg, spI2Div, k5, k6, k7, k8, m1, m2, m3, m4, mG, f1, f2, f5, nl_bl, r1, r2, r3, r4, sW, w1, w2, w3, w4, iE]
      refine lp_step ?_
      simp only [↓R0, R1, rdL, rdH, isCall, istep, ibin, vcells, fillI, setR, flat, okCell, isBase, List.set, List.drop, List.take, List.append, bnds, bhi, blo, srcOf, ↓reduceIte, Nat.reduceEqDiff, Nat.reduceAdd, Nat.reduceLeDiff, reduceCtorEq, Nat.reduceSub, Int.reduceEq, Int.reduceLT, Int.reduceLE, Int.reduceGT, Int.reduceGE, Int.reduceSub, Int.reduceAdd, Int.reduceMul, Int.reduceNe, Int.reduceNeg, Int.reduceToNat, Nat.reduceMul, hn, spI2Neg, spI2Div, k5, k6, k7, k8, m1, m2, m3, m4, mG, f1, f2, f5, nl_bl, r1, r2, r3, r4, sW, w1, w2, w3, w4, iE]
      refine lp_step ?_
      simp only [↓R0, R1, rdL, rdH, isCall, istep, ibin, vcells, fillI, setR, flat, okCell, isBase, List.set, List.drop, List.take, List.append, bnds, bhi, blo, srcOf, ↓reduceIte, Nat.reduceEqDiff, Nat.reduceAdd, Nat.reduceLeDiff, reduceCtorEq, Nat.reduceSub, Int.reduceEq, Int.reduceLT, Int.reduceLE, Int.reduceGT, Int.reduceGE, Int.reduceSub, Int.reduceAdd, Int.reduceMul, Int.reduceNe, Int.reduceNeg, Int.reduceToNat, Nat.reduceMul, hn, spI2Neg, spI2Div, k5, k6, k7, k8, m1, m2, m3, m4, mG, f1, f2, f5, nl_bl, r1, r2, r3, r4, sW, w1, w2, w3, w4, iE]
      refine lp_step ?_
      simp only [↓R0, R1, rdL, rdH, isCall, istep, ibin, vcells, fillI, setR, flat, okCell, isBase, List.set, List.drop, List.take, List.append, bnds, bhi, blo, srcOf, ↓reduceIte, Nat.reduceEqDiff, Nat.reduceAdd, Nat.reduceLeDiff, reduceCtorEq, Nat.reduceSub, Int.reduceEq, Int.reduceLT, Int.reduceLE, Int.reduceGT, Int.reduceGE, Int.reduceSub, Int.reduceAdd, Int.reduceMul, Int.reduceNe, Int.reduceNeg, Int.reduceToNat, Nat.reduceMul, hn, Fin, isEnd, resL, res1, iE, rE]
      exact ⟨_, rfl, rfl, fun k hk => by simp only [ne_nb hk, if_false]⟩
    · have sW : sv false (bl W.natAbs) = W := by rw [sv_false, nl_bl]; omega
      simp only [↓R0, R1, rdL, rdH, isCall, istep, ibin, vcells, fillI, setR, flat, okCell, isBase, List.set, List.drop, List.take, List.append, bnds, bhi, blo, srcOf, ↓reduceIte, Nat.reduceEqDiff, Nat.reduceAdd, Nat.reduceLeDiff, reduceCtorEq, Nat.reduceSub, Int.reduceEq, Int.reduceLT, Int.reduceLE, Int.reduceGT, Int.reduceGE, Int.reduceSub, Int.reduceAdd, Int.reduceMul, Int.reduceNe, Int.reduceNeg, Int.reduceToNat, Nat.reduceMul, hn]
      refine lp_step ?_
      simp only [↓R0, R1, rdL, rdH, isCall, istep, ibin, vcells, fillI, setR, flat, okCell, isBase, List.set, List.drop, List.take, List.append, bnds, bhi, blo, srcOf, ↓reduceIte, Nat.reduceEqDiff, Nat.reduceAdd, Nat.reduceLeDiff, reduceCtorEq, Nat.reduceSub, Int.reduceEq, Int.reduceLT, Int.reduceLE, Int.reduceGT, Int.reduceGE, Int.reduceSub, Int.reduceAdd, Int.reduceMul, Int.reduceNe, Int.reduceNeg, Int.reduceToNat, Nat.reduceMul, hn, spI2Neg, spI2Div, k5, k6, k7, k8, m1, m2, m3, m4, mG, f1, f2, f5, nl_bl, sW, w1, w2, w3, w4, iE]
      refine lp_step ?_
      simp only [↓R0, R1, rdL, rdH, isCall, istep, ibin, vcells, fillI, setR, flat, okCell, isBase, List.set, List.drop, List.take, List.append, bnds, bhi, blo, srcOf, ↓reduceIte, Nat.reduceEqDiff, Nat.reduceAdd, Nat.reduceLeDiff, reduceCtorEq, Nat.reduceSub, Int.reduceEq, Int.reduceLT, Int.reduceLE, Int.reduceGT, Int.reduceGE, Int.reduceSub, Int.reduceAdd, Int.reduceMul, Int.reduceNe, Int.reduceNeg, Int.reduceToNat, Nat.reduceMul, hn, spI2Neg, spI2Div, k5, k6, k7, k8, m1, m2, m3, m4, mG, f1, f2, f5, nl_bl, sW, w1, w2, w3, w4, iE]
      refine lp_step ?_
      simp only [↓R0, R1, rdL, rdH, isCall, istep, ibin, vcells, fillI, setR, flat, okCell, isBase, List.set, List.drop, List.take, List.append, bnds, bhi, blo, srcOf, ↓reduceIte, Nat.reduceEqDiff, Nat.reduceAdd, Nat.reduceLeDiff, reduceCtorEq, Nat.reduceSub, Int.reduceEq, Int.reduceLT, Int.reduceLE, Int.reduceGT, Int.reduceGE, Int.reduceSub, Int.reduceAdd, Int.reduceMul, Int.reduceNe, Int.reduceNeg, Int.reduceToNat, Nat.reduceMul, hn, spI2Neg, spI2Div, k5, k6, k7, k8, m1, m2, m3, m4, mG, f1, f2, f5, nl_bl, sW, w1, w2, w3, w4, iE]
      refine lp_step ?_
      simp only [↓R0, R1, rdL, rdH, isCall, istep, ibin, vcells, fillI, setR, flat, okCell, isBase, List.set, List.drop, List.take, List.append, bnds, bhi, blo, srcOf, ↓reduceIte, Nat.reduceEqDiff, Nat.reduceAdd, Nat.reduceLeDiff, reduceCtorEq, Nat.reduceSub, Int.reduceEq, Int.reduceLT, Int.reduceLE, Int.reduceGT, Int.reduceGE, Int.reduceSub, Int.reduceAdd, Int.reduceMul, Int.reduceNe, Int.reduceNeg, Int.reduceToNat, Nat.reduceMul, hn, spI2Neg, spI2Div, k5, k6, k7, k8, m1, m2, m3, m4, mG, f1, f2, f5, nl_bl, sW, w1, w2, w3, w4, iE]
      refine lp_step ?_
      simp only [↓R0, R1, rdL, rdH, isCall, istep, ibin, vcells, fillI, setR, flat, okCell, isBase, List.set, List.drop, List.take, List.append, bnds, bhi, blo, srcOf, ↓reduceIte, Nat.reduceEqDiff, Nat.reduceAdd, Nat.reduceLeDiff, reduceCtorEq, Nat.reduceSub, Int.reduceEq, Int.reduceLT, Int.reduceLE, Int.reduceGT, Int.reduceGE, Int.reduceSub, Int.reduceAdd, Int.reduceMul, Int.reduceNe, Int.reduceNeg, Int.reduceToNat, Nat.reduceMul, hn, Fin, isEnd, resL, res1, iE, rE]
      exact ⟨_, rfl, rfl, fun k hk => by simp only [ne_nb hk, if_false]⟩
  · have hWw : W = w := by rw [← hW]; unfold pW; rw [if_neg hw]
    subst hWw
    simp only [↓R0, R1, rdL, rdH, isCall, istep, ibin, vcells, fillI, setR, flat, okCell, isBase, List.set, List.drop, List.take, List.append, bnds, bhi, blo, srcOf, ↓reduceIte, Nat.reduceEqDiff, Nat.reduceAdd, Nat.reduceLeDiff, reduceCtorEq, Nat.reduceSub, Int.reduceEq, Int.reduceLT, Int.reduceLE, Int.reduceGT, Int.reduceGE, Int.reduceSub, Int.reduceAdd, Int.reduceMul, Int.reduceNe, Int.reduceNeg, Int.reduceToNat, Nat.reduceMul, hw, iE, spI2Sign, nW2, eW, rdS, spI2Gcd, ints, gcds, List.foldl_cons, List.foldl_nil, Nat.gcd_zero_left, nl_bl, List.forall_mem_cons, m1, m2, m3, m4, List.not_mem_nil, false_implies, implies_true, hGG, f1, Int.natAbs_natCast]
    by_cases hn : W < 0
    · have sW : sv true (bl W.natAbs) = W := by rw [sv_true, nl_bl]; omega
      simp only [↓R0, R1, rdL, rdH, isCall, istep, ibin, vcells, fillI, setR, flat, okCell, isBase, List.set, List.drop, List.take, List.append, bnds, bhi, blo, srcOf, ↓reduceIte, Nat.reduceEqDiff, Nat.reduceAdd, Nat.reduceLeDiff, reduceCtorEq, Nat.reduceSub, Int.reduceEq, Int.reduceLT, Int.reduceLE, Int.reduceGT, Int.reduceGE, Int.reduceSub, Int.reduceAdd, Int.reduceMul, Int.reduceNe, Int.reduceNeg, Int.reduceToNat, Nat.reduceMul, hn]
      refine lp_step ?_
      simp only [↓R0, R1, rdL, rdH, isCall, istep, ibin, vcells, fillI, setR, flat, okCell, isBase, List.set, List.drop, List.take, List.append, bnds, bhi, blo, srcOf, ↓reduceIte, Nat.reduceEqDiff, Nat.reduceAdd, Nat.reduceLeDiff, reduceCtorEq, Nat.reduceSub, Int.reduceEq, Int.reduceLT, Int.reduceLE, Int.reduceGT, Int.reduceGE, Int.reduceSub, Int.reduceAdd, Int.reduceMul, Int.reduceNe, Int.reduceNeg, Int.reduceToNat, Nat.reduceMul, hn, spI2Neg, spI2Div, k5, k6, k7, k8, m1, m2, m3, m4, mG, f1, f2, f5, nl_bl, r1, r2, r3, r4, sW, w1, w2, w3, w4, iE]
      refine lp_step ?_
      simp only [↓R0, R1, rdL, rdH, isCall, istep, ibin, vcells, fillI, setR, flat, okCell, isBase, List.set, List.drop, List.take, List.append, bnds, bhi, blo, srcOf, ↓reduceIte, Nat.reduceEqDiff, Nat.reduceAdd, Nat.reduceLeDiff, reduceCtorEq, Nat.reduceSub, Int.reduceEq, Int.reduceLT, Int.reduceLE, Int.reduceGT, Int.reduceGE, Int.reduceSub, Int.reduceAdd, Int.reduceMul, Int.reduceNe, Int.reduceNeg, Int.reduceToNat, Nat.reduceMul, hn, spI2Neg, spI2Div, k5, k6, k7, k8, m1, m2, m3, m4, mG, f1, f2, f5, nl_bl, r1, r2, r3, r4, sW, w1, w2, w3, w4, iE]
      refine lp_step ?_
      simp only [↓R0, R1, rdL, rdH, isCall, istep, ibin, vcells, fillI, setR, flat, okCell, isBase, List.set, List.drop, List.take, List.append, bnds, bhi, blo, srcOf, ↓reduceIte, Nat.reduceEqDiff, Nat.reduceAdd, Nat.reduceLeDiff, reduceCtorEq, Nat.reduceSub, Int.reduceEq, Int.reduceLT, Int.reduceLE, Int.reduceGT, Int.reduceGE, Int.reduceSub, Int.reduceAdd, Int.reduceMul, Int.reduceNe, Int.reduceNeg, Int.reduceToNat, Nat.reduceMul, hn, spI2Neg, spI2Div, k5, k6, k7, k8, m1, m2, m3, m4, mG, f1, f2, f5, nl_bl, r1, r2, r3, r4, sW, w1, w2, w3, w4, iE]
      refine lp_step ?_
      simp only [↓R0, R1, rdL, rdH, isCall, istep, ibin, vcells, fillI, setR, flat, okCell, isBase, List.set, List.drop, List.take, List.append, bnds, bhi, blo, srcOf, ↓reduceIte, Nat.reduceEqDiff, Nat.reduceAdd, Nat.reduceLeDiff, reduceCtorEq, Nat.reduceSub, Int.reduceEq, Int.reduceLT, Int.reduceLE, Int.reduceGT, Int.reduceGE, Int.reduceSub, Int.reduceAdd, Int.reduceMul, Int.reduceNe, Int.reduceNeg, Int.reduceToNat, Nat.reduceMul, hn, spI2Neg, spI2Div, k5, k6, k7, k8, m1, m2, m3, m4, mG, f1, f2, f5, nl_bl, r1, r2, r3, r4, sW, w1, w2, w3, w4, iE]
      refine lp_step ?_
      simp only [↓R0, R1, rdL, rdH, isCall, istep, ibin, vcells, fillI, setR, flat, okCell, isBase, List.set, List.drop, List.take, List.append, bnds, bhi, blo, srcOf, ↓reduceIte, Nat.reduceEqDiff, Nat.reduceAdd, Nat.reduceLeDiff, reduceCtorEq, Nat.reduceSub, Int.reduceEq, Int.reduceLT, Int.reduceLE, Int.reduceGT, Int.reduceGE, Int.reduceSub, Int.reduceAdd, Int.reduceMul, Int.reduceNe, Int.reduceNeg, Int.reduceToNat, Nat.reduceMul, hn, Fin, isEnd, resL, res1, iE, rE]
      exact ⟨_, rfl, rfl, fun k hk => by simp only [ne_nb hk, if_false]⟩
    · have sW : sv false (bl W.natAbs) = W := by rw [sv_false, nl_bl]; omega
      simp only [↓R0, R1, rdL, rdH, isCall, istep, ibin, vcells, fillI, setR, flat, okCell, isBase, List.set, List.drop, List.take, List.append, bnds, bhi, blo, srcOf, ↓reduceIte, Nat.reduceEqDiff, Nat.reduceAdd, Nat.reduceLeDiff, reduceCtorEq, Nat.reduceSub, Int.reduceEq, Int.reduceLT, Int.reduceLE, Int.reduceGT, Int.reduceGE, Int.reduceSub, Int.reduceAdd, Int.reduceMul, Int.reduceNe, Int.reduceNeg, Int.reduceToNat, Nat.reduceMul, hn]
      refine lp_step ?_
      simp only [↓R0, R1, rdL, rdH, isCall, istep, ibin, vcells, fillI, setR, flat, okCell, isBase, List.set, List.drop, List.take, List.append, bnds, bhi, blo, srcOf, ↓reduceIte, Nat.reduceEqDiff, Nat.reduceAdd, Nat.reduceLeDiff, reduceCtorEq, Nat.reduceSub, Int.reduceEq, Int.reduceLT, Int.reduceLE, Int.reduceGT, Int.reduceGE, Int.reduceSub, Int.reduceAdd, Int.reduceMul, Int.reduceNe, Int.reduceNeg, Int.reduceToNat, Nat.reduceMul, hn, spI2Neg, spI2Div, k5, k6, k7, k8, m1, m2, m3, m4, mG, f1, f2, f5, nl_bl, sW, w1, w2, w3, w4, iE]
      refine lp_step ?_
      simp only [↓R0, R1, rdL, rdH, isCall, istep, ibin, vcells, fillI, setR, flat, okCell, isBase, List.set, List.drop, List.take, List.append, bnds, bhi, blo, srcOf, ↓reduceIte, Nat.reduceEqDiff, Nat.reduceAdd, Nat.reduceLeDiff, reduceCtorEq, Nat.reduceSub, Int.reduceEq, Int.reduceLT, Int.reduceLE, Int.reduceGT, Int.reduceGE, Int.reduceSub, Int.reduceAdd, Int.reduceMul, Int.reduceNe, Int.reduceNeg, Int.reduceToNat, Nat.reduceMul, hn, spI2Neg, spI2Div, k5, k6, k7, k8, m1, m2, m3, m4, mG, f1, f2, f5, nl_bl, sW, w1, w2, w3, w4, iE]
      refine lp_step ?_
      simp only [↓R0, R1, rdL, rdH, isCall, istep, ibin, vcells, fillI, setR, flat, okCell, isBase, List.set, List.drop, List.take, List.append, bnds, bhi, blo, srcOf, ↓reduceIte, Nat.reduceEqDiff, Nat.reduceAdd, Nat.reduceLeDiff, reduceCtorEq, Nat.reduceSub, Int.reduceEq, Int.reduceLT, Int.reduceLE, Int.reduceGT, Int.reduceGE, Int.reduceSub, Int.reduceAdd, Int.reduceMul, Int.reduceNe, Int.reduceNeg, Int.reduceToNat, Nat.reduceMul, hn, spI2Neg, spI2Div, k5, k6, k7, k8, m1, m2, m3, m4, mG, f1, f2, f5, nl_bl, sW, w1, w2, w3, w4, iE]
      refine lp_step ?_
      simp only [↓R0, R1, rdL, rdH, isCall, istep, ibin, vcells, fillI, setR, flat, okCell, isBase, List.set, List.drop, List.take, List.append, bnds, bhi, blo, srcOf, ↓reduceIte, Nat.reduceEqDiff, Nat.reduceAdd, Nat.reduceLeDiff, reduceCtorEq, Nat.reduceSub, Int.reduceEq, Int.reduceLT, Int.reduceLE, Int.reduceGT, Int.reduceGE, Int.reduceSub, Int.reduceAdd, Int.reduceMul, Int.reduceNe, Int.reduceNeg, Int.reduceToNat, Nat.reduceMul, hn, spI2Neg, spI2Div, k5, k6, k7, k8, m1, m2, m3, m4, mG, f1, f2, f5, nl_bl, sW, w1, w2, w3, w4, iE]
      refine lp_step ?_
      simp only [↓R0, R1, rdL, rdH, isCall, istep, ibin, vcells, fillI, setR, flat, okCell, isBase, List.set, List.drop, List.take, List.append, bnds, bhi, blo, srcOf, ↓reduceIte, Nat.reduceEqDiff, Nat.reduceAdd, Nat.reduceLeDiff, reduceCtorEq, Nat.reduceSub, Int.reduceEq, Int.reduceLT, Int.reduceLE, Int.reduceGT, Int.reduceGE, Int.reduceSub, Int.reduceAdd, Int.reduceMul, Int.reduceNe, Int.reduceNeg, Int.reduceToNat, Nat.reduceMul, hn, Fin, isEnd, resL, res1, iE, rE]
      exact ⟨_, rfl, rfl, fun k hk => by simp only [ne_nb hk, if_false]⟩
end Go.Eng
end
section
set_option linter.unusedVariables false
set_option linter.unusedSimpArgs false
set_option linter.unusedSectionVars false
namespace Go.Eng
def RB (q : Rat) (k : Nat) : Prop := (bl q.num.natAbs).length ≤ k ∧ (bl q.den).length ≤ k
theorem divInt_RB {N D : Int} {k : Nat} (hD : D ≠ 0) (h1 : (bl N.natAbs).length ≤ k) (h2 : (bl D.natAbs).length ≤ k) : RB (Rat.divInt N D) k := by
  obtain ⟨g1, g2, _⟩ := divInt_cells (N := N) (D := D) hD
  unfold RB
  rw [g1, g2]
  exact ⟨Nat.le_trans (bl_length_mono (Nat.div_le_self _ _)) h1, Nat.le_trans (bl_length_mono (Nat.div_le_self _ _)) h2⟩
theorem Lmul {a b : Int} {i j : Nat} (ha : (bl a.natAbs).length ≤ i) (hb : (bl b.natAbs).length ≤ j) : (bl (a * b).natAbs).length ≤ i + j := by
  rw [Int.natAbs_mul]; exact Nat.le_trans (bl_length_mul _ _) (by omega)
theorem Ladd {a b : Int} {k : Nat} (ha : (bl a.natAbs).length ≤ k) (hb : (bl b.natAbs).length ≤ k) : (bl (a + b).natAbs).length ≤ k + 1 :=
  Nat.le_trans (bl_length_mono (Int.natAbs_add_le a b)) (bl_length_add ha hb)
theorem RB.mul {p q : Rat} {i j k : Nat} (hp : RB p i) (hq : RB q j) (h : i + j ≤ k) : RB (p * q) k := by
  have hp0 := p.den_nz
  have hq0 := q.den_nz
  conv => lhs; rw [← Rat.num_divInt_den p, ← Rat.num_divInt_den q, Rat.divInt_mul_divInt]
  refine divInt_RB (by rw [← Int.natCast_mul]; simp [hp0, hq0]) (Nat.le_trans (Lmul hp.1 hq.1) h) ?_
  exact Nat.le_trans (Lmul (a := (p.den : Int)) (b := (q.den : Int)) hp.2 hq.2) h
theorem RB.add {p q : Rat} {i j k : Nat} (hp : RB p i) (hq : RB q j) (h : i + j + 1 ≤ k) : RB (p + q) k := by
  have hp0 := p.den_nz
  have hq0 := q.den_nz
  conv => lhs; rw [← Rat.num_divInt_den p, ← Rat.num_divInt_den q, Rat.divInt_add_divInt _ _ (by simp [hp0]) (by simp [hq0])]
  refine divInt_RB (by rw [← Int.natCast_mul]; simp [hp0, hq0]) ?_ ?_
  · refine Nat.le_trans (Ladd (k := i + j) (Lmul (b := (q.den : Int)) hp.1 hq.2) ?_) h
    exact Nat.le_trans (Lmul (b := (p.den : Int)) hq.1 hp.2) (by omega)
  · exact Nat.le_trans (Lmul (a := (p.den : Int)) (b := (q.den : Int)) hp.2 hq.2) (by omega)
theorem RB.neg {p : Rat} {i : Nat} (hp : RB p i) : RB (-p) i := by
  unfold RB; rw [Rat.neg_num, Rat.neg_den, Int.natAbs_neg]; exact hp
theorem RB.sub {p q : Rat} {i j k : Nat} (hp : RB p i) (hq : RB q j) (h : i + j + 1 ≤ k) : RB (p - q) k := by
  rw [Rat.sub_eq_add_neg]; exact hp.add hq.neg h
theorem RB.inv {p : Rat} {i : Nat} (hp : RB p i) (h1 : 1 ≤ i) : RB p⁻¹ i := by
  by_cases h : p = 0
  · subst h
    have e : ((0 : Rat)⁻¹) = 0 := by first | exact Rat.inv_zero | grind
    rw [e]; unfold RB
    refine ⟨?_, ?_⟩
    · rw [show (0 : Rat).num.natAbs = 0 from rfl, bl_zero]; exact Nat.zero_le _
    · exact Nat.le_trans (bl_length_le (k := 1).2 (by decide)) h1
  · have hn : p.num ≠ 0 := fun e => h (Rat.num_eq_zero.1 e)
    conv => lhs; rw [← Rat.num_divInt_den p, Rat.inv_divInt]
    exact divInt_RB hn hp.2 hp.1
theorem RB.div {p q : Rat} {i j k : Nat} (hp : RB p i) (hq : RB q j) (h1 : 1 ≤ j) (h : i + j ≤ k) : RB (p / q) k := by
  rw [Rat.div_def]; exact hp.mul (hq.inv h1) h
theorem RB.le {p : Rat} {i k : Nat} (hp : RB p i) (h : i ≤ k) : RB p k := ⟨Nat.le_trans hp.1 h, Nat.le_trans hp.2 h⟩
theorem RB.num {p : Rat} {i k : Nat} (hp : RB p i) (h : i ≤ k) : (bl p.num.natAbs).length ≤ k := Nat.le_trans hp.1 h
theorem RB.den {p : Rat} {i k : Nat} (hp : RB p i) (h : i ≤ k) : (if p.den = 1 then ([] : List UInt8) else bl p.den).length ≤ k := by
  split
  · simp
  · exact Nat.le_trans hp.2 h
theorem RB.den' {p : Rat} {i k : Nat} (hp : RB p i) (h : i + 1 ≤ k) : (if p.den = 1 then ([] : List UInt8) else bl p.den).length + 1 ≤ k := by
  have := hp.den (k := i) (Nat.le_refl _); omega
theorem RB.raw {s : Bool} {n d : List UInt8} {k : Nat} (hn : n.length ≤ k) (hd : d.length ≤ k) : RB (rv s n d) (k + 1) := by
  unfold rv
  refine divInt_RB (by have := dv_pos d; omega) ?_ ?_
  · rw [sv_natAbs]; exact Nat.le_trans (bl_length_nl n) (by omega)
  · unfold dv; split
    · exact Nat.le_trans (bl_length_le (k := 1).2 (by decide)) (by omega)
    · rw [Int.natAbs_natCast]; exact Nat.le_trans (bl_length_nl d) (by omega)
theorem RB.int {z : Int} {k : Nat} (h : (bl z.natAbs).length ≤ k) (h1 : 1 ≤ k) : RB (z : Rat) k := by
  unfold RB; rw [Rat.num_intCast, Rat.den_intCast]
  exact ⟨h, Nat.le_trans (bl_length_le (k := 1).2 (by decide)) h1⟩
theorem divInt_one (z : Int) : Rat.divInt z 1 = (z : Rat) := by
  rw [Rat.divInt_eq_div]
  have : ((1 : Int) : Rat) = 1 := rfl
  rw [this, Rat.div_def]
  have e : (1 : Rat)⁻¹ = 1 := by grind
  rw [e, Rat.mul_one]
theorem rv_int (z : Int) : rv (decide (z < 0)) (bl z.natAbs) [] = (z : Rat) := by
  unfold rv; rw [sv_can]; exact divInt_one z
theorem rE_int (z : Int) : rE (z : Rat) = [.bool (decide (z < 0)), .string ⟨⟨bl z.natAbs⟩⟩, .string ⟨⟨[]⟩⟩] := rfl
def r3E (x y z : Rat) : List Value := rE x ++ rE y ++ rE z
def mkE (x y z : Rat) : List Value := pE (x.num * ((y.den : Int) * z.den)) (y.num * ((x.den : Int) * z.den)) (z.num * ((x.den : Int) * y.den)) ((x.den : Int) * y.den * z.den)
theorem mkE_pE {x y z w : Int} (hw : w ≠ 0) : mkE (Rat.divInt x w) (Rat.divInt y w) (Rat.divInt z w) = pE x y z w := by
  have key : ∀ n : Int, (Rat.divInt n w).num * w = n * (Rat.divInt n w).den := by
    intro n
    have h := Rat.num_divInt_den (Rat.divInt n w)
    rw [Rat.divInt_eq_divInt_iff (by have := (Rat.divInt n w).den_nz; omega) hw] at h
    exact h
  have hx := (Rat.divInt x w).den_nz
  have hy := (Rat.divInt y w).den_nz
  have hz := (Rat.divInt z w).den_nz
  have kx := key x
  have ky := key y
  have kz := key z
  unfold mkE
  generalize (Rat.divInt x w).den = a at *
  generalize (Rat.divInt y w).den = b at *
  generalize (Rat.divInt z w).den = c at *
  generalize (Rat.divInt x w).num = X at *
  generalize (Rat.divInt y w).num = Y at *
  generalize (Rat.divInt z w).num = Z at *
  refine pE_eq ?_ hw ?_ ?_ ?_
  · have h1 : (a : Int) ≠ 0 := by omega
    have h2 : (b : Int) ≠ 0 := by omega
    have h3 : (c : Int) ≠ 0 := by omega
    exact Int.mul_ne_zero (Int.mul_ne_zero h1 h2) h3
  · grind
  · grind
  · grind
end Go.Eng
end
section
set_option linter.unusedVariables false
set_option linter.unusedSimpArgs false
set_option linter.unusedSectionVars false
set_option maxRecDepth 20000
namespace Go.Eng
open Go Go.Proofs Go.IntWalk
def spR6Whole : List Value → Option Value
  | [.agg ⟨[.bool s, .string ⟨⟨l⟩⟩]⟩] => if l.length ≤ 68719476736 then some (.agg ⟨rE (sv s l : Rat)⟩) else none
  | _ => none
def c82 : ICode :=
  (.seq (.reg [⟨(some 1), none, (.box 23 2 (.t 0))⟩, ⟨(some 2), none, (.alloc 47 3 [(.bool false), (.string ⟨⟨[]⟩⟩), (.string ⟨⟨[]⟩⟩)])⟩])
  (.seq (.dreg [⟨(some 6), none, [], (.load true 2 (.t 1))⟩, ⟨(some 7), none, [], (.call 48 [(.c (.int .i64 1))])⟩, ⟨(some 8), none, [], (.call 86 [(.t 6), (.t 7)])⟩, ⟨(some 5), none, [], (.mv (.t 8))⟩, ⟨(some 9), none, [], (.ext (.t 5) 0)⟩, ⟨(some 10), none, [], (.ext (.t 5) 1)⟩, ⟨(some 3), none, [], (.alloc 47 3 [(.bool false), (.string ⟨⟨[]⟩⟩), (.string ⟨⟨[]⟩⟩)])⟩, ⟨none, none, [], (.store 3 (.t 3) (.t 9))⟩, ⟨(some 4), none, [], (.mv (.t 10))⟩])
  (.seq (.reg [⟨(some 11), none, (.load true 3 (.t 3))⟩, ⟨none, none, (.store 3 (.t 2) (.t 11))⟩])
  .ret)))
theorem tr82 : trFun Tryz.prog 82 = some ⟨12, [.cell 2 true 3], c82⟩ := by kernel_rfl
theorem ok_r6Whole : SpecOK Tryz.prog 82 (flat spR6Whole) := by
  refine flat_run (env_cons ok_r2From (env_cons ok_r3Make (env_nil _))) mixed tr82 ?_
  intro args v h N hG
  unfold spR6Whole at hG
  split at hG
  case h_2 => cases hG
  rename_i s l
  split at hG
  case isFalse => cases hG
  rename_i hl
  cases hG
  refine ⟨rfl, by simp, ?_⟩
  have o1 : sv false (bl (Int.natAbs 1)) = 1 := by rw [sv_false, nl_bl]; rfl
  have o2 : (bl (Int.natAbs 1)).length ≤ 68719476736 := Nat.le_trans (bl_length_le (k := 1).2 (by decide)) (by omega)
  have o3 : ¬ (Int.natAbs 1 = 0) := by decide
  rw [← divInt_one]
  simp only [c82, initT, List.zipIdx_cons, List.zipIdx_nil, List.map_cons, List.map_nil, Nat.reduceAdd]
  simp only [↓R0, R1, rdL, rdH, isCall, istep, ibin, vcells, fillI, setR, flat, okCell, isBase, List.set, List.drop, List.take, List.append, bnds, bhi, blo, srcOf, ↓reduceIte, Nat.reduceEqDiff, Nat.reduceAdd, Nat.reduceLeDiff, reduceCtorEq, Nat.reduceSub, Int.reduceEq, Int.reduceLT, Int.reduceLE, Int.reduceGT, Int.reduceGE, Int.reduceSub, Int.reduceAdd, Int.reduceMul, Int.reduceNe, Int.reduceNeg, Int.reduceToNat, Nat.reduceMul, spI2From, spR3Make, hl, o1, o2, o3, nl_bl, Fin, isEnd, resL, res1, iE, rE]
  exact ⟨_, rfl, rfl, fun k hk => by simp only [ne_nb hk, if_false]⟩
def spR6Normal : List Value → Option Value
  | [.agg ⟨[.bool s1, .string ⟨⟨l1⟩⟩, .bool s2, .string ⟨⟨l2⟩⟩, .bool s3, .string ⟨⟨l3⟩⟩, .bool s4, .string ⟨⟨l4⟩⟩]⟩] =>
    if l1.length ≤ 68719476736 ∧ l2.length ≤ 68719476736 ∧ l3.length ≤ 68719476736 ∧ l4.length ≤ 68719476736 then
      some (.tuple ⟨[.agg ⟨r3E (sv s1 l1 : Rat) (sv s2 l2 : Rat) (sv s3 l3 : Rat)⟩, .agg ⟨rE (sv s4 l4 : Rat)⟩]⟩) else none
  | _ => none
def c38 : ICode :=
  (.seq (.reg [⟨(some 1), none, (.box 25 8 (.t 0))⟩, ⟨(some 2), none, (.alloc 67 9 [(.bool false), (.string ⟨⟨[]⟩⟩), (.string ⟨⟨[]⟩⟩), (.bool false), (.string ⟨⟨[]⟩⟩), (.string ⟨⟨[]⟩⟩), (.bool false), (.string ⟨⟨[]⟩⟩), (.string ⟨⟨[]⟩⟩)])⟩, ⟨(some 3), none, (.alloc 47 3 [(.bool false), (.string ⟨⟨[]⟩⟩), (.string ⟨⟨[]⟩⟩)])⟩])
  (.seq (.dreg [⟨(some 4), none, [], (.faddr 0 (.t 1))⟩, ⟨(some 5), none, [], (.load true 2 (.t 4))⟩, ⟨(some 6), none, [], (.call 82 [(.t 5)])⟩, ⟨(some 7), none, [], (.faddr 2 (.t 1))⟩, ⟨(some 8), none, [2], (.load true 2 (.t 7))⟩, ⟨(some 9), none, [], (.call 82 [(.t 8)])⟩, ⟨(some 10), none, [], (.faddr 4 (.t 1))⟩, ⟨(some 11), none, [2, 5], (.load true 2 (.t 10))⟩, ⟨(some 12), none, [], (.call 82 [(.t 11)])⟩, ⟨(some 13), none, [], (.build [(.bool false), (.string ⟨⟨[]⟩⟩), (.string ⟨⟨[]⟩⟩), (.bool false), (.string ⟨⟨[]⟩⟩), (.string ⟨⟨[]⟩⟩), (.bool false), (.string ⟨⟨[]⟩⟩), (.string ⟨⟨[]⟩⟩)] [(0, 3, (.t 6)), (3, 3, (.t 9)), (6, 3, (.t 12))])⟩, ⟨(some 14), none, [], (.faddr 6 (.t 1))⟩, ⟨(some 15), none, [2, 5, 8], (.load true 2 (.t 14))⟩, ⟨(some 16), none, [], (.call 82 [(.t 15)])⟩, ⟨none, none, [], (.store 9 (.t 2) (.t 13))⟩, ⟨none, none, [], (.store 3 (.t 3) (.t 16))⟩])
  .ret))
theorem tr38 : trFun Tryz.prog 38 = some ⟨17, [.cell 2 true 9, .cell 3 true 3], c38⟩ := by kernel_rfl
theorem ok_r6Normal : SpecOK Tryz.prog 38 (flat spR6Normal) := by
  refine flat_run (env_cons ok_r6Whole (env_nil _)) mixed tr38 ?_
  intro args v h N hG
  unfold spR6Normal at hG
  split at hG
  case h_2 => cases hG
  rename_i s1 l1 s2 l2 s3 l3 s4 l4
  split at hG
  case isFalse => cases hG
  rename_i hl
  obtain ⟨h1, h2, h3, h4⟩ := hl
  cases hG
  refine ⟨rfl, by simp, ?_⟩
  simp only [c38, initT, List.zipIdx_cons, List.zipIdx_nil, List.map_cons, List.map_nil, Nat.reduceAdd]
  simp only [↓R0, R1, rdL, rdH, isCall, istep, ibin, vcells, fillI, setR, flat, okCell, isBase, List.set, List.drop, List.take, List.append, bnds, bhi, blo, srcOf, ↓reduceIte, Nat.reduceEqDiff, Nat.reduceAdd, Nat.reduceLeDiff, reduceCtorEq, Nat.reduceSub, Int.reduceEq, Int.reduceLT, Int.reduceLE, Int.reduceGT, Int.reduceGE, Int.reduceSub, Int.reduceAdd, Int.reduceMul, Int.reduceNe, Int.reduceNeg, Int.reduceToNat, Nat.reduceMul, spR6Whole, h1, h2, h3, h4, r3E, Fin, isEnd, resL, res1, iE, rE]
  exact ⟨_, rfl, rfl, fun k hk => by simp only [ne_nb hk, if_false]⟩
def spR6Dot : List Value → Option Value
  | [.agg ⟨[.bool s1, .string ⟨⟨n1⟩⟩, .string ⟨⟨d1⟩⟩, .bool s2, .string ⟨⟨n2⟩⟩, .string ⟨⟨d2⟩⟩, .bool s3, .string ⟨⟨n3⟩⟩, .string ⟨⟨d3⟩⟩]⟩, .agg ⟨[.bool s4, .string ⟨⟨n4⟩⟩, .string ⟨⟨d4⟩⟩, .bool s5, .string ⟨⟨n5⟩⟩, .string ⟨⟨d5⟩⟩, .bool s6, .string ⟨⟨n6⟩⟩, .string ⟨⟨d6⟩⟩]⟩] =>
    if n1.length ≤ 1073741824 ∧ d1.length ≤ 1073741824 ∧ n2.length ≤ 1073741824 ∧ d2.length ≤ 1073741824 ∧ n3.length ≤ 1073741824 ∧ d3.length ≤ 1073741824 ∧ n4.length ≤ 1073741824 ∧ d4.length ≤ 1073741824 ∧ n5.length ≤ 1073741824 ∧ d5.length ≤ 1073741824 ∧ n6.length ≤ 1073741824 ∧ d6.length ≤ 1073741824 then some (.agg ⟨rE (rv s1 n1 d1 * rv s4 n4 d4 + rv s2 n2 d2 * rv s5 n5 d5 + rv s3 n3 d3 * rv s6 n6 d6)⟩) else none
  | _ => none
def c39 : ICode :=
  (.seq (.reg [⟨(some 2), none, (.box 67 9 (.t 0))⟩, ⟨(some 3), none, (.box 67 9 (.t 1))⟩, ⟨(some 4), none, (.alloc 47 3 [(.bool false), (.string ⟨⟨[]⟩⟩), (.string ⟨⟨[]⟩⟩)])⟩])
  (.seq (.dreg [⟨(some 5), none, [], (.ixarr 3 3 (.t 2) (.c (.int .i64 0)))⟩, ⟨(some 6), none, [], (.load true 3 (.t 5))⟩, ⟨(some 7), none, [], (.ixarr 3 3 (.t 3) (.c (.int .i64 0)))⟩, ⟨(some 8), none, [], (.load true 3 (.t 7))⟩, ⟨(some 9), none, [], (.call 84 [(.t 6), (.t 8)])⟩, ⟨(some 10), none, [], (.ixarr 3 3 (.t 2) (.c (.int .i64 1)))⟩, ⟨(some 11), none, [4], (.load true 3 (.t 10))⟩, ⟨(some 12), none, [], (.ixarr 3 3 (.t 3) (.c (.int .i64 1)))⟩, ⟨(some 13), none, [4], (.load true 3 (.t 12))⟩, ⟨(some 14), none, [], (.call 84 [(.t 11), (.t 13)])⟩, ⟨(some 15), none, [], (.call 83 [(.t 9), (.t 14)])⟩, ⟨(some 16), none, [], (.ixarr 3 3 (.t 2) (.c (.int .i64 2)))⟩, ⟨(some 17), none, [4, 9, 10], (.load true 3 (.t 16))⟩, ⟨(some 18), none, [], (.ixarr 3 3 (.t 3) (.c (.int .i64 2)))⟩, ⟨(some 19), none, [4, 9, 10], (.load true 3 (.t 18))⟩, ⟨(some 20), none, [], (.call 84 [(.t 17), (.t 19)])⟩, ⟨(some 21), none, [], (.call 83 [(.t 15), (.t 20)])⟩, ⟨none, none, [], (.store 3 (.t 4) (.t 21))⟩])
  .ret))
theorem tr39 : trFun Tryz.prog 39 = some ⟨22, [.cell 4 true 3], c39⟩ := by kernel_rfl
set_option maxHeartbeats 4000000 in
theorem ok_r6Dot : SpecOK Tryz.prog 39 (flat spR6Dot) := by
  refine flat_run (env_cons ok_r3Mul (env_cons ok_r3Add (env_nil _))) mixed tr39 ?_
  intro args v h N hG
  unfold spR6Dot at hG
  split at hG
  case h_2 => cases hG
  rename_i s1 n1 d1 s2 n2 d2 s3 n3 d3 s4 n4 d4 s5 n5 d5 s6 n6 d6
  split at hG
  case isFalse => cases hG
  rename_i hl
  obtain ⟨hn1, hd1, hn2, hd2, hn3, hd3, hn4, hd4, hn5, hd5, hn6, hd6⟩ := hl
  cases hG
  refine ⟨rfl, by simp, ?_⟩
  have b1 := RB.raw (s := s1) hn1 hd1
  have mn1 : n1.length ≤ 8589934592 := by omega
  have md1 : d1.length ≤ 8589934592 := by omega
  have b2 := RB.raw (s := s2) hn2 hd2
  have mn2 : n2.length ≤ 8589934592 := by omega
  have md2 : d2.length ≤ 8589934592 := by omega
  have b3 := RB.raw (s := s3) hn3 hd3
  have mn3 : n3.length ≤ 8589934592 := by omega
  have md3 : d3.length ≤ 8589934592 := by omega
  have b4 := RB.raw (s := s4) hn4 hd4
  have mn4 : n4.length ≤ 8589934592 := by omega
  have md4 : d4.length ≤ 8589934592 := by omega
  have b5 := RB.raw (s := s5) hn5 hd5
  have mn5 : n5.length ≤ 8589934592 := by omega
  have md5 : d5.length ≤ 8589934592 := by omega
  have b6 := RB.raw (s := s6) hn6 hd6
  have mn6 : n6.length ≤ 8589934592 := by omega
  have md6 : d6.length ≤ 8589934592 := by omega
  have p0 := RB.mul (k := 2147483650) b1 b4 (by omega)
  have pn0 := p0.num (k := 8589934592) (by omega)
  have pd0 := p0.den (k := 8589934592) (by omega)
  have p1 := RB.mul (k := 2147483650) b2 b5 (by omega)
  have pn1 := p1.num (k := 8589934592) (by omega)
  have pd1 := p1.den (k := 8589934592) (by omega)
  have p2 := RB.mul (k := 2147483650) b3 b6 (by omega)
  have pn2 := p2.num (k := 8589934592) (by omega)
  have pd2 := p2.den (k := 8589934592) (by omega)
  have q := RB.add (k := 8589934592) p0 p1 (by omega)
  have qn := q.num (k := 8589934592) (by omega)
  have qd := q.den (k := 8589934592) (by omega)
  simp only [c39, initT, List.zipIdx_cons, List.zipIdx_nil, List.map_cons, List.map_nil, Nat.reduceAdd]
  simp only [↓R0, R1, rdL, rdH, isCall, istep, ibin, vcells, fillI, setR, flat, okCell, isBase, List.set, List.drop, List.take, List.append, bnds, bhi, blo, srcOf, ↓reduceIte, Nat.reduceEqDiff, Nat.reduceAdd, Nat.reduceLeDiff, reduceCtorEq, Nat.reduceSub, Int.reduceEq, Int.reduceLT, Int.reduceLE, Int.reduceGT, Int.reduceGE, Int.reduceSub, Int.reduceAdd, Int.reduceMul, Int.reduceNe, Int.reduceNeg, Int.reduceToNat, Nat.reduceMul, spR3Mul, spR3Add, rv_can, mn1, md1, mn2, md2, mn3, md3, mn4, md4, mn5, md5, mn6, md6, pn0, pd0, pn1, pd1, pn2, pd2, qn, qd, Fin, isEnd, resL, res1, iE, rE]
  exact ⟨_, rfl, rfl, fun k hk => by simp only [ne_nb hk, if_false]⟩
def spR6Times : List Value → Option Value
  | [.agg ⟨[.bool s1, .string ⟨⟨n1⟩⟩, .string ⟨⟨d1⟩⟩, .bool s2, .string ⟨⟨n2⟩⟩, .string ⟨⟨d2⟩⟩, .bool s3, .string ⟨⟨n3⟩⟩, .string ⟨⟨d3⟩⟩]⟩, .agg ⟨[.bool s4, .string ⟨⟨n4⟩⟩, .string ⟨⟨d4⟩⟩, .bool s5, .string ⟨⟨n5⟩⟩, .string ⟨⟨d5⟩⟩, .bool s6, .string ⟨⟨n6⟩⟩, .string ⟨⟨d6⟩⟩]⟩] =>
    if n1.length ≤ 2147483648 ∧ d1.length ≤ 2147483648 ∧ n2.length ≤ 2147483648 ∧ d2.length ≤ 2147483648 ∧ n3.length ≤ 2147483648 ∧ d3.length ≤ 2147483648 ∧ n4.length ≤ 2147483648 ∧ d4.length ≤ 2147483648 ∧ n5.length ≤ 2147483648 ∧ d5.length ≤ 2147483648 ∧ n6.length ≤ 2147483648 ∧ d6.length ≤ 2147483648 then some (.agg ⟨r3E (rv s2 n2 d2 * rv s6 n6 d6 - rv s3 n3 d3 * rv s5 n5 d5) (rv s3 n3 d3 * rv s4 n4 d4 - rv s1 n1 d1 * rv s6 n6 d6) (rv s1 n1 d1 * rv s5 n5 d5 - rv s2 n2 d2 * rv s4 n4 d4)⟩) else none
  | _ => none
def c40 : ICode :=
  (.seq (.reg [⟨(some 2), none, (.box 67 9 (.t 0))⟩, ⟨(some 3), none, (.box 67 9 (.t 1))⟩, ⟨(some 4), none, (.alloc 67 9 [(.bool false), (.string ⟨⟨[]⟩⟩), (.string ⟨⟨[]⟩⟩), (.bool false), (.string ⟨⟨[]⟩⟩), (.string ⟨⟨[]⟩⟩), (.bool false), (.string ⟨⟨[]⟩⟩), (.string ⟨⟨[]⟩⟩)])⟩])
  (.seq (.reg [⟨(some 9), none, (.build [(.bool false), (.string ⟨⟨[]⟩⟩), (.string ⟨⟨[]⟩⟩), (.bool false), (.string ⟨⟨[]⟩⟩), (.string ⟨⟨[]⟩⟩), (.bool false), (.string ⟨⟨[]⟩⟩), (.string ⟨⟨[]⟩⟩)] [])⟩, ⟨(some 5), none, (.alloc 67 9 [(.bool false), (.string ⟨⟨[]⟩⟩), (.string ⟨⟨[]⟩⟩), (.bool false), (.string ⟨⟨[]⟩⟩), (.string ⟨⟨[]⟩⟩), (.bool false), (.string ⟨⟨[]⟩⟩), (.string ⟨⟨[]⟩⟩)])⟩, ⟨none, none, (.store 9 (.t 5) (.t 9))⟩])
  (.seq (.seq (.reg [⟨(some 6), none, (.mv (.c (.int .i64 0)))⟩])
  (.block 0 (.loop (.seq (.seq (.reg [⟨(some 10), none, (.mv (.t 6))⟩, ⟨(some 11), none, (.bin .lss (.t 10) (.c (.int .i64 3)))⟩])
  (.cond (.t 11)
  .skip
  (.exit 0)))
  (.seq (.block 1 (.seq (.reg [⟨(some 14), none, (.mv (.t 6))⟩, ⟨(some 15), none, (.bin .add (.t 14) (.c (.int .i64 1)))⟩, ⟨(some 16), none, (.bin .rem (.t 15) (.c (.int .i64 3)))⟩, ⟨(some 17), none, (.mv (.t 6))⟩, ⟨(some 18), none, (.bin .add (.t 17) (.c (.int .i64 2)))⟩, ⟨(some 19), none, (.bin .rem (.t 18) (.c (.int .i64 3)))⟩, ⟨(some 7), none, (.mv (.t 16))⟩, ⟨(some 8), none, (.mv (.t 19))⟩])
  (.dreg [⟨(some 20), none, [], (.mv (.t 6))⟩, ⟨(some 21), none, [], (.mv (.t 7))⟩, ⟨(some 22), none, [], (.ixarr 3 3 (.t 2) (.t 21))⟩, ⟨(some 23), none, [], (.load true 3 (.t 22))⟩, ⟨(some 24), none, [], (.mv (.t 8))⟩, ⟨(some 25), none, [], (.ixarr 3 3 (.t 3) (.t 24))⟩, ⟨(some 26), none, [], (.load true 3 (.t 25))⟩, ⟨(some 27), none, [], (.call 84 [(.t 23), (.t 26)])⟩, ⟨(some 28), none, [], (.mv (.t 8))⟩, ⟨(some 29), none, [], (.ixarr 3 3 (.t 2) (.t 28))⟩, ⟨(some 30), none, [7], (.load true 3 (.t 29))⟩, ⟨(some 31), none, [], (.mv (.t 7))⟩, ⟨(some 32), none, [], (.ixarr 3 3 (.t 3) (.t 31))⟩, ⟨(some 33), none, [7], (.load true 3 (.t 32))⟩, ⟨(some 34), none, [], (.call 84 [(.t 30), (.t 33)])⟩, ⟨(some 35), none, [], (.call 56 [(.t 27), (.t 34)])⟩, ⟨(some 36), none, [], (.ixarr 3 3 (.t 5) (.t 20))⟩, ⟨none, none, [], (.store 3 (.t 36) (.t 35))⟩])))
  (.reg [⟨(some 12), none, (.mv (.t 6))⟩, ⟨(some 13), none, (.bin .add (.t 12) (.c (.int .i64 1)))⟩, ⟨(some 6), none, (.mv (.t 13))⟩]))))))
  (.seq (.reg [⟨(some 37), none, (.load true 9 (.t 5))⟩, ⟨none, none, (.store 9 (.t 4) (.t 37))⟩])
  .ret))))
theorem tr40 : trFun Tryz.prog 40 = some ⟨38, [.cell 4 true 9], c40⟩ := by kernel_rfl
set_option maxHeartbeats 4000000 in
theorem ok_r6Times : SpecOK Tryz.prog 40 (flat spR6Times) := by
  refine flat_run (env_cons ok_r3Mul (env_cons ok_r3Sub (env_nil _))) mixed tr40 ?_
  intro args v h N hG
  unfold spR6Times at hG
  split at hG
  case h_2 => cases hG
  rename_i s1 n1 d1 s2 n2 d2 s3 n3 d3 s4 n4 d4 s5 n5 d5 s6 n6 d6
  split at hG
  case isFalse => cases hG
  rename_i hl
  obtain ⟨hn1, hd1, hn2, hd2, hn3, hd3, hn4, hd4, hn5, hd5, hn6, hd6⟩ := hl
  cases hG
  refine ⟨rfl, by simp, ?_⟩
  have b1 := RB.raw (s := s1) hn1 hd1
  have mn1 : n1.length ≤ 8589934592 := by omega
  have md1 : d1.length ≤ 8589934592 := by omega
  have b2 := RB.raw (s := s2) hn2 hd2
  have mn2 : n2.length ≤ 8589934592 := by omega
  have md2 : d2.length ≤ 8589934592 := by omega
  have b3 := RB.raw (s := s3) hn3 hd3
  have mn3 : n3.length ≤ 8589934592 := by omega
  have md3 : d3.length ≤ 8589934592 := by omega
  have b4 := RB.raw (s := s4) hn4 hd4
  have mn4 : n4.length ≤ 8589934592 := by omega
  have md4 : d4.length ≤ 8589934592 := by omega
  have b5 := RB.raw (s := s5) hn5 hd5
  have mn5 : n5.length ≤ 8589934592 := by omega
  have md5 : d5.length ≤ 8589934592 := by omega
  have b6 := RB.raw (s := s6) hn6 hd6
  have mn6 : n6.length ≤ 8589934592 := by omega
  have md6 : d6.length ≤ 8589934592 := by omega
  have p0 := RB.mul (k := 4294967298) b2 b6 (by omega)
  have pn0 := p0.num (k := 8589934592) (by omega)
  have pd0 := p0.den (k := 8589934592) (by omega)
  have pe0 := p0.den' (k := 8589934592) (by omega)
  have p1 := RB.mul (k := 4294967298) b3 b5 (by omega)
  have pn1 := p1.num (k := 8589934592) (by omega)
  have pd1 := p1.den (k := 8589934592) (by omega)
  have pe1 := p1.den' (k := 8589934592) (by omega)
  have p2 := RB.mul (k := 4294967298) b3 b4 (by omega)
  have pn2 := p2.num (k := 8589934592) (by omega)
  have pd2 := p2.den (k := 8589934592) (by omega)
  have pe2 := p2.den' (k := 8589934592) (by omega)
  have p3 := RB.mul (k := 4294967298) b1 b6 (by omega)
  have pn3 := p3.num (k := 8589934592) (by omega)
  have pd3 := p3.den (k := 8589934592) (by omega)
  have pe3 := p3.den' (k := 8589934592) (by omega)
  have p4 := RB.mul (k := 4294967298) b1 b5 (by omega)
  have pn4 := p4.num (k := 8589934592) (by omega)
  have pd4 := p4.den (k := 8589934592) (by omega)
  have pe4 := p4.den' (k := 8589934592) (by omega)
  have p5 := RB.mul (k := 4294967298) b2 b4 (by omega)
  have pn5 := p5.num (k := 8589934592) (by omega)
  have pd5 := p5.den (k := 8589934592) (by omega)
  have pe5 := p5.den' (k := 8589934592) (by omega)
  have w1 : IntKind.i64.wrap 1 = 1 := i64_in _ (by omega)
  have w2 : IntKind.i64.wrap 2 = 2 := i64_in _ (by omega)
  have w3 : IntKind.i64.wrap 3 = 3 := i64_in _ (by omega)
  have w4 : IntKind.i64.wrap 4 = 4 := i64_in _ (by omega)
  have r1 : Int.tmod 1 3 = 1 := rfl
  have r2 : Int.tmod 2 3 = 2 := rfl
  have r3 : Int.tmod 3 3 = 0 := rfl
  have r4 : Int.tmod 4 3 = 1 := rfl
  simp only [c40, initT, List.zipIdx_cons, List.zipIdx_nil, List.map_cons, List.map_nil, Nat.reduceAdd]
  simp only [↓R0, R1, rdL, rdH, isCall, istep, ibin, vcells, fillI, setR, flat, okCell, isBase, List.set, List.drop, List.take, List.append, bnds, bhi, blo, srcOf, ↓reduceIte, Nat.reduceEqDiff, Nat.reduceAdd, Nat.reduceLeDiff, reduceCtorEq, Nat.reduceSub, Int.reduceEq, Int.reduceLT, Int.reduceLE, Int.reduceGT, Int.reduceGE, Int.reduceSub, Int.reduceAdd, Int.reduceMul, Int.reduceNe, Int.reduceNeg, Int.reduceToNat, Nat.reduceMul]
  refine lp_step ?_
  simp only [↓R0, R1, rdL, rdH, isCall, istep, ibin, vcells, fillI, setR, flat, okCell, isBase, List.set, List.drop, List.take, List.append, bnds, bhi, blo, srcOf, ↓reduceIte, Nat.reduceEqDiff, Nat.reduceAdd, Nat.reduceLeDiff, reduceCtorEq, Nat.reduceSub, Int.reduceEq, Int.reduceLT, Int.reduceLE, Int.reduceGT, Int.reduceGE, Int.reduceSub, Int.reduceAdd, Int.reduceMul, Int.reduceNe, Int.reduceNeg, Int.reduceToNat, Nat.reduceMul, spR3Mul, spR3Sub, rv_can, w1, w2, w3, w4, r1, r2, r3, r4, rE, mn1, md1, mn2, md2, mn3, md3, mn4, md4, mn5, md5, mn6, md6, pn0, pd0, pe0, pn1, pd1, pe1, pn2, pd2, pe2, pn3, pd3, pe3, pn4, pd4, pe4, pn5, pd5, pe5]
  refine lp_step ?_
  simp only [↓R0, R1, rdL, rdH, isCall, istep, ibin, vcells, fillI, setR, flat, okCell, isBase, List.set, List.drop, List.take, List.append, bnds, bhi, blo, srcOf, ↓reduceIte, Nat.reduceEqDiff, Nat.reduceAdd, Nat.reduceLeDiff, reduceCtorEq, Nat.reduceSub, Int.reduceEq, Int.reduceLT, Int.reduceLE, Int.reduceGT, Int.reduceGE, Int.reduceSub, Int.reduceAdd, Int.reduceMul, Int.reduceNe, Int.reduceNeg, Int.reduceToNat, Nat.reduceMul, spR3Mul, spR3Sub, rv_can, w1, w2, w3, w4, r1, r2, r3, r4, rE, mn1, md1, mn2, md2, mn3, md3, mn4, md4, mn5, md5, mn6, md6, pn0, pd0, pe0, pn1, pd1, pe1, pn2, pd2, pe2, pn3, pd3, pe3, pn4, pd4, pe4, pn5, pd5, pe5]
  refine lp_step ?_
  simp only [↓R0, R1, rdL, rdH, isCall, istep, ibin, vcells, fillI, setR, flat, okCell, isBase, List.set, List.drop, List.take, List.append, bnds, bhi, blo, srcOf, ↓reduceIte, Nat.reduceEqDiff, Nat.reduceAdd, Nat.reduceLeDiff, reduceCtorEq, Nat.reduceSub, Int.reduceEq, Int.reduceLT, Int.reduceLE, Int.reduceGT, Int.reduceGE, Int.reduceSub, Int.reduceAdd, Int.reduceMul, Int.reduceNe, Int.reduceNeg, Int.reduceToNat, Nat.reduceMul, spR3Mul, spR3Sub, rv_can, w1, w2, w3, w4, r1, r2, r3, r4, rE, mn1, md1, mn2, md2, mn3, md3, mn4, md4, mn5, md5, mn6, md6, pn0, pd0, pe0, pn1, pd1, pe1, pn2, pd2, pe2, pn3, pd3, pe3, pn4, pd4, pe4, pn5, pd5, pe5]
  refine lp_step ?_
  simp only [↓R0, R1, rdL, rdH, isCall, istep, ibin, vcells, fillI, setR, flat, okCell, isBase, List.set, List.drop, List.take, List.append, bnds, bhi, blo, srcOf, ↓reduceIte, Nat.reduceEqDiff, Nat.reduceAdd, Nat.reduceLeDiff, reduceCtorEq, Nat.reduceSub, Int.reduceEq, Int.reduceLT, Int.reduceLE, Int.reduceGT, Int.reduceGE, Int.reduceSub, Int.reduceAdd, Int.reduceMul, Int.reduceNe, Int.reduceNeg, Int.reduceToNat, Nat.reduceMul, r3E, Fin, isEnd, resL, res1, iE, rE]
  exact ⟨_, rfl, rfl, fun k hk => by simp only [ne_nb hk, if_false]⟩
def spR6Plus : List Value → Option Value
  | [.agg ⟨[.bool s1, .string ⟨⟨n1⟩⟩, .string ⟨⟨d1⟩⟩, .bool s2, .string ⟨⟨n2⟩⟩, .string ⟨⟨d2⟩⟩, .bool s3, .string ⟨⟨n3⟩⟩, .string ⟨⟨d3⟩⟩]⟩, .agg ⟨[.bool s4, .string ⟨⟨n4⟩⟩, .string ⟨⟨d4⟩⟩, .bool s5, .string ⟨⟨n5⟩⟩, .string ⟨⟨d5⟩⟩, .bool s6, .string ⟨⟨n6⟩⟩, .string ⟨⟨d6⟩⟩]⟩] =>
    if n1.length ≤ 8589934592 ∧ d1.length ≤ 8589934592 ∧ n2.length ≤ 8589934592 ∧ d2.length ≤ 8589934592 ∧ n3.length ≤ 8589934592 ∧ d3.length ≤ 8589934592 ∧ n4.length ≤ 8589934592 ∧ d4.length ≤ 8589934592 ∧ n5.length ≤ 8589934592 ∧ d5.length ≤ 8589934592 ∧ n6.length ≤ 8589934592 ∧ d6.length ≤ 8589934592 then some (.agg ⟨r3E (rv s1 n1 d1 + rv s4 n4 d4) (rv s2 n2 d2 + rv s5 n5 d5) (rv s3 n3 d3 + rv s6 n6 d6)⟩) else none
  | _ => none
def c42 : ICode :=
  (.seq (.reg [⟨(some 2), none, (.box 67 9 (.t 0))⟩, ⟨(some 3), none, (.box 67 9 (.t 1))⟩, ⟨(some 4), none, (.alloc 67 9 [(.bool false), (.string ⟨⟨[]⟩⟩), (.string ⟨⟨[]⟩⟩), (.bool false), (.string ⟨⟨[]⟩⟩), (.string ⟨⟨[]⟩⟩), (.bool false), (.string ⟨⟨[]⟩⟩), (.string ⟨⟨[]⟩⟩)])⟩])
  (.seq (.dreg [⟨(some 5), none, [], (.ixarr 3 3 (.t 2) (.c (.int .i64 0)))⟩, ⟨(some 6), none, [], (.load true 3 (.t 5))⟩, ⟨(some 7), none, [], (.ixarr 3 3 (.t 3) (.c (.int .i64 0)))⟩, ⟨(some 8), none, [], (.load true 3 (.t 7))⟩, ⟨(some 9), none, [], (.call 83 [(.t 6), (.t 8)])⟩, ⟨(some 10), none, [], (.ixarr 3 3 (.t 2) (.c (.int .i64 1)))⟩, ⟨(some 11), none, [4], (.load true 3 (.t 10))⟩, ⟨(some 12), none, [], (.ixarr 3 3 (.t 3) (.c (.int .i64 1)))⟩, ⟨(some 13), none, [4], (.load true 3 (.t 12))⟩, ⟨(some 14), none, [], (.call 83 [(.t 11), (.t 13)])⟩, ⟨(some 15), none, [], (.ixarr 3 3 (.t 2) (.c (.int .i64 2)))⟩, ⟨(some 16), none, [4, 9], (.load true 3 (.t 15))⟩, ⟨(some 17), none, [], (.ixarr 3 3 (.t 3) (.c (.int .i64 2)))⟩, ⟨(some 18), none, [4, 9], (.load true 3 (.t 17))⟩, ⟨(some 19), none, [], (.call 83 [(.t 16), (.t 18)])⟩, ⟨(some 20), none, [], (.build [(.bool false), (.string ⟨⟨[]⟩⟩), (.string ⟨⟨[]⟩⟩), (.bool false), (.string ⟨⟨[]⟩⟩), (.string ⟨⟨[]⟩⟩), (.bool false), (.string ⟨⟨[]⟩⟩), (.string ⟨⟨[]⟩⟩)] [(0, 3, (.t 9)), (3, 3, (.t 14)), (6, 3, (.t 19))])⟩, ⟨none, none, [], (.store 9 (.t 4) (.t 20))⟩])
  .ret))
theorem tr42 : trFun Tryz.prog 42 = some ⟨21, [.cell 4 true 9], c42⟩ := by kernel_rfl
set_option maxHeartbeats 4000000 in
theorem ok_r6Plus : SpecOK Tryz.prog 42 (flat spR6Plus) := by
  refine flat_run (env_cons ok_r3Add (env_nil _)) mixed tr42 ?_
  intro args v h N hG
  unfold spR6Plus at hG
  split at hG
  case h_2 => cases hG
  rename_i s1 n1 d1 s2 n2 d2 s3 n3 d3 s4 n4 d4 s5 n5 d5 s6 n6 d6
  split at hG
  case isFalse => cases hG
  rename_i hl
  obtain ⟨hn1, hd1, hn2, hd2, hn3, hd3, hn4, hd4, hn5, hd5, hn6, hd6⟩ := hl
  cases hG
  refine ⟨rfl, by simp, ?_⟩
  simp only [c42, initT, List.zipIdx_cons, List.zipIdx_nil, List.map_cons, List.map_nil, Nat.reduceAdd]
  simp only [↓R0, R1, rdL, rdH, isCall, istep, ibin, vcells, fillI, setR, flat, okCell, isBase, List.set, List.drop, List.take, List.append, bnds, bhi, blo, srcOf, ↓reduceIte, Nat.reduceEqDiff, Nat.reduceAdd, Nat.reduceLeDiff, reduceCtorEq, Nat.reduceSub, Int.reduceEq, Int.reduceLT, Int.reduceLE, Int.reduceGT, Int.reduceGE, Int.reduceSub, Int.reduceAdd, Int.reduceMul, Int.reduceNe, Int.reduceNeg, Int.reduceToNat, Nat.reduceMul, spR3Add, rv_can, r3E, hn1, hd1, hn2, hd2, hn3, hd3, hn4, hd4, hn5, hd5, hn6, hd6, Fin, isEnd, resL, res1, iE, rE]
  exact ⟨_, rfl, rfl, fun k hk => by simp only [ne_nb hk, if_false]⟩
def spR6Scale : List Value → Option Value
  | [.agg ⟨[.bool s1, .string ⟨⟨n1⟩⟩, .string ⟨⟨d1⟩⟩, .bool s2, .string ⟨⟨n2⟩⟩, .string ⟨⟨d2⟩⟩, .bool s3, .string ⟨⟨n3⟩⟩, .string ⟨⟨d3⟩⟩]⟩, .agg ⟨[.bool s4, .string ⟨⟨n4⟩⟩, .string ⟨⟨d4⟩⟩]⟩] =>
    if n1.length ≤ 8589934592 ∧ d1.length ≤ 8589934592 ∧ n2.length ≤ 8589934592 ∧ d2.length ≤ 8589934592 ∧ n3.length ≤ 8589934592 ∧ d3.length ≤ 8589934592 ∧ n4.length ≤ 8589934592 ∧ d4.length ≤ 8589934592 then some (.agg ⟨r3E (rv s1 n1 d1 * rv s4 n4 d4) (rv s2 n2 d2 * rv s4 n4 d4) (rv s3 n3 d3 * rv s4 n4 d4)⟩) else none
  | _ => none
def c43 : ICode :=
  (.seq (.reg [⟨(some 2), none, (.box 67 9 (.t 0))⟩, ⟨(some 3), none, (.box 47 3 (.t 1))⟩, ⟨(some 4), none, (.alloc 67 9 [(.bool false), (.string ⟨⟨[]⟩⟩), (.string ⟨⟨[]⟩⟩), (.bool false), (.string ⟨⟨[]⟩⟩), (.string ⟨⟨[]⟩⟩), (.bool false), (.string ⟨⟨[]⟩⟩), (.string ⟨⟨[]⟩⟩)])⟩])
  (.seq (.dreg [⟨(some 5), none, [], (.ixarr 3 3 (.t 2) (.c (.int .i64 0)))⟩, ⟨(some 6), none, [], (.load true 3 (.t 5))⟩, ⟨(some 7), none, [], (.load true 3 (.t 3))⟩, ⟨(some 8), none, [], (.call 84 [(.t 6), (.t 7)])⟩, ⟨(some 9), none, [], (.ixarr 3 3 (.t 2) (.c (.int .i64 1)))⟩, ⟨(some 10), none, [3], (.load true 3 (.t 9))⟩, ⟨(some 11), none, [3], (.load true 3 (.t 3))⟩, ⟨(some 12), none, [], (.call 84 [(.t 10), (.t 11)])⟩, ⟨(some 13), none, [], (.ixarr 3 3 (.t 2) (.c (.int .i64 2)))⟩, ⟨(some 14), none, [3, 7], (.load true 3 (.t 13))⟩, ⟨(some 15), none, [3, 7], (.load true 3 (.t 3))⟩, ⟨(some 16), none, [], (.call 84 [(.t 14), (.t 15)])⟩, ⟨(some 17), none, [], (.build [(.bool false), (.string ⟨⟨[]⟩⟩), (.string ⟨⟨[]⟩⟩), (.bool false), (.string ⟨⟨[]⟩⟩), (.string ⟨⟨[]⟩⟩), (.bool false), (.string ⟨⟨[]⟩⟩), (.string ⟨⟨[]⟩⟩)] [(0, 3, (.t 8)), (3, 3, (.t 12)), (6, 3, (.t 16))])⟩, ⟨none, none, [], (.store 9 (.t 4) (.t 17))⟩])
  .ret))
theorem tr43 : trFun Tryz.prog 43 = some ⟨18, [.cell 4 true 9], c43⟩ := by kernel_rfl
set_option maxHeartbeats 4000000 in
theorem ok_r6Scale : SpecOK Tryz.prog 43 (flat spR6Scale) := by
  refine flat_run (env_cons ok_r3Mul (env_nil _)) mixed tr43 ?_
  intro args v h N hG
  unfold spR6Scale at hG
  split at hG
  case h_2 => cases hG
  rename_i s1 n1 d1 s2 n2 d2 s3 n3 d3 s4 n4 d4
  split at hG
  case isFalse => cases hG
  rename_i hl
  obtain ⟨hn1, hd1, hn2, hd2, hn3, hd3, hn4, hd4⟩ := hl
  cases hG
  refine ⟨rfl, by simp, ?_⟩
  simp only [c43, initT, List.zipIdx_cons, List.zipIdx_nil, List.map_cons, List.map_nil, Nat.reduceAdd]
  simp only [↓R0, R1, rdL, rdH, isCall, istep, ibin, vcells, fillI, setR, flat, okCell, isBase, List.set, List.drop, List.take, List.append, bnds, bhi, blo, srcOf, ↓reduceIte, Nat.reduceEqDiff, Nat.reduceAdd, Nat.reduceLeDiff, reduceCtorEq, Nat.reduceSub, Int.reduceEq, Int.reduceLT, Int.reduceLE, Int.reduceGT, Int.reduceGE, Int.reduceSub, Int.reduceAdd, Int.reduceMul, Int.reduceNe, Int.reduceNeg, Int.reduceToNat, Nat.reduceMul, spR3Mul, rv_can, r3E, hn1, hd1, hn2, hd2, hn3, hd3, hn4, hd4, Fin, isEnd, resL, res1, iE, rE]
  exact ⟨_, rfl, rfl, fun k hk => by simp only [ne_nb hk, if_false]⟩
def spR4Make : List Value → Option Value
  | [.agg ⟨[.bool s1, .string ⟨⟨n1⟩⟩, .string ⟨⟨d1⟩⟩, .bool s2, .string ⟨⟨n2⟩⟩, .string ⟨⟨d2⟩⟩, .bool s3, .string ⟨⟨n3⟩⟩, .string ⟨⟨d3⟩⟩]⟩] =>
    if n1.length ≤ 2147483648 ∧ d1.length ≤ 2147483648 ∧ n2.length ≤ 2147483648 ∧ d2.length ≤ 2147483648 ∧ n3.length ≤ 2147483648 ∧ d3.length ≤ 2147483648 then some (.agg ⟨mkE (rv s1 n1 d1) (rv s2 n2 d2) (rv s3 n3 d3)⟩) else none
  | _ => none
def c45 : ICode :=
  (.seq (.reg [⟨(some 1), none, (.box 67 9 (.t 0))⟩, ⟨(some 2), none, (.alloc 30 8 [(.bool false), (.string ⟨⟨[]⟩⟩), (.bool false), (.string ⟨⟨[]⟩⟩), (.bool false), (.string ⟨⟨[]⟩⟩), (.bool false), (.string ⟨⟨[]⟩⟩)])⟩])
  (.seq (.reg [⟨(some 11), none, (.ixarr 3 3 (.t 1) (.c (.int .i64 0)))⟩, ⟨(some 12), none, (.load true 3 (.t 11))⟩, ⟨(some 13), none, (.call 89 [(.t 12)])⟩, ⟨(some 10), none, (.mv (.t 13))⟩, ⟨(some 14), none, (.ext (.t 10) 0)⟩, ⟨(some 15), none, (.ext (.t 10) 1)⟩, ⟨(some 3), none, (.alloc 23 2 [(.bool false), (.string ⟨⟨[]⟩⟩)])⟩, ⟨(some 4), none, (.alloc 23 2 [(.bool false), (.string ⟨⟨[]⟩⟩)])⟩, ⟨none, none, (.store 2 (.t 3) (.t 14))⟩, ⟨none, none, (.store 2 (.t 4) (.t 15))⟩])
  (.seq (.reg [⟨(some 17), none, (.ixarr 3 3 (.t 1) (.c (.int .i64 1)))⟩, ⟨(some 18), none, (.load true 3 (.t 17))⟩, ⟨(some 19), none, (.call 89 [(.t 18)])⟩, ⟨(some 16), none, (.mv (.t 19))⟩, ⟨(some 20), none, (.ext (.t 16) 0)⟩, ⟨(some 21), none, (.ext (.t 16) 1)⟩, ⟨(some 5), none, (.alloc 23 2 [(.bool false), (.string ⟨⟨[]⟩⟩)])⟩, ⟨(some 6), none, (.alloc 23 2 [(.bool false), (.string ⟨⟨[]⟩⟩)])⟩, ⟨none, none, (.store 2 (.t 5) (.t 20))⟩, ⟨none, none, (.store 2 (.t 6) (.t 21))⟩])
  (.seq (.reg [⟨(some 23), none, (.ixarr 3 3 (.t 1) (.c (.int .i64 2)))⟩, ⟨(some 24), none, (.load true 3 (.t 23))⟩, ⟨(some 25), none, (.call 89 [(.t 24)])⟩, ⟨(some 22), none, (.mv (.t 25))⟩, ⟨(some 26), none, (.ext (.t 22) 0)⟩, ⟨(some 27), none, (.ext (.t 22) 1)⟩, ⟨(some 7), none, (.alloc 23 2 [(.bool false), (.string ⟨⟨[]⟩⟩)])⟩, ⟨(some 8), none, (.alloc 23 2 [(.bool false), (.string ⟨⟨[]⟩⟩)])⟩, ⟨none, none, (.store 2 (.t 7) (.t 26))⟩, ⟨none, none, (.store 2 (.t 8) (.t 27))⟩])
  (.seq (.reg [⟨(some 28), none, (.load true 2 (.t 4))⟩, ⟨(some 29), none, (.load true 2 (.t 6))⟩, ⟨(some 30), none, (.call 87 [(.t 28), (.t 29)])⟩, ⟨(some 9), none, (.alloc 23 2 [(.bool false), (.string ⟨⟨[]⟩⟩)])⟩, ⟨none, none, (.store 2 (.t 9) (.t 30))⟩])
  (.seq (.dreg [⟨(some 31), none, [], (.load true 2 (.t 3))⟩, ⟨(some 32), none, [], (.load true 2 (.t 6))⟩, ⟨(some 33), none, [], (.load true 2 (.t 8))⟩, ⟨(some 34), none, [], (.call 87 [(.t 32), (.t 33)])⟩, ⟨(some 35), none, [], (.call 87 [(.t 31), (.t 34)])⟩, ⟨(some 36), none, [3, 4], (.load true 2 (.t 5))⟩, ⟨(some 37), none, [3, 4], (.load true 2 (.t 4))⟩, ⟨(some 38), none, [3, 4], (.load true 2 (.t 8))⟩, ⟨(some 39), none, [], (.call 87 [(.t 37), (.t 38)])⟩, ⟨(some 40), none, [], (.call 87 [(.t 36), (.t 39)])⟩, ⟨(some 41), none, [3, 4, 8, 9], (.load true 2 (.t 7))⟩, ⟨(some 42), none, [3, 4, 8, 9], (.load true 2 (.t 9))⟩, ⟨(some 43), none, [], (.call 87 [(.t 41), (.t 42)])⟩, ⟨(some 44), none, [3, 4, 8, 9, 12], (.load true 2 (.t 9))⟩, ⟨(some 45), none, [3, 4, 8, 9, 12], (.load true 2 (.t 8))⟩, ⟨(some 46), none, [], (.call 87 [(.t 44), (.t 45)])⟩, ⟨(some 47), none, [], (.build [(.bool false), (.string ⟨⟨[]⟩⟩), (.bool false), (.string ⟨⟨[]⟩⟩), (.bool false), (.string ⟨⟨[]⟩⟩), (.bool false), (.string ⟨⟨[]⟩⟩)] [(0, 2, (.t 35)), (2, 2, (.t 40)), (4, 2, (.t 43)), (6, 2, (.t 46))])⟩, ⟨(some 48), none, [], (.call 14 [(.t 47)])⟩, ⟨none, none, [], (.store 8 (.t 2) (.t 48))⟩])
  .ret))))))
theorem tr45 : trFun Tryz.prog 45 = some ⟨49, [.cell 2 true 8], c45⟩ := by kernel_rfl
set_option maxHeartbeats 4000000 in
theorem ok_r4Make : SpecOK Tryz.prog 45 (flat spR4Make) := by
  refine flat_run (env_cons ok_r3Parts (env_cons ok_r2Mul (env_cons ok_r4Norm (env_nil _)))) mixed tr45 ?_
  intro args v h N hG
  unfold spR4Make at hG
  split at hG
  case h_2 => cases hG
  rename_i s1 n1 d1 s2 n2 d2 s3 n3 d3
  split at hG
  case isFalse => cases hG
  rename_i hl
  obtain ⟨hn1, hd1, hn2, hd2, hn3, hd3⟩ := hl
  cases hG
  refine ⟨rfl, by simp, ?_⟩
  have b1 := RB.raw (s := s1) hn1 hd1
  have mn1 : n1.length ≤ 34359738368 := by omega
  have md1 : d1.length ≤ 34359738368 := by omega
  have b2 := RB.raw (s := s2) hn2 hd2
  have mn2 : n2.length ≤ 34359738368 := by omega
  have md2 : d2.length ≤ 34359738368 := by omega
  have b3 := RB.raw (s := s3) hn3 hd3
  have mn3 : n3.length ≤ 34359738368 := by omega
  have md3 : d3.length ≤ 34359738368 := by omega
  obtain ⟨q1, e1⟩ : ∃ q, rv s1 n1 d1 = q := ⟨_, rfl⟩
  rw [e1] at b1
  rw [e1]
  have zn1 := b1.1
  have zd1 : (bl (q1.den : Int).natAbs).length ≤ 2147483649 := b1.2
  have sd1 : sv false (bl q1.den) = (q1.den : Int) := by rw [sv_false, nl_bl]
  have nd1 : ((q1.den : Int) < 0) = False := eq_false (by omega)
  obtain ⟨D1, eD1⟩ : ∃ z : Int, (q1.den : Int) = z := ⟨_, rfl⟩
  obtain ⟨q2, e2⟩ : ∃ q, rv s2 n2 d2 = q := ⟨_, rfl⟩
  rw [e2] at b2
  rw [e2]
  have zn2 := b2.1
  have zd2 : (bl (q2.den : Int).natAbs).length ≤ 2147483649 := b2.2
  have sd2 : sv false (bl q2.den) = (q2.den : Int) := by rw [sv_false, nl_bl]
  have nd2 : ((q2.den : Int) < 0) = False := eq_false (by omega)
  obtain ⟨D2, eD2⟩ : ∃ z : Int, (q2.den : Int) = z := ⟨_, rfl⟩
  obtain ⟨q3, e3⟩ : ∃ q, rv s3 n3 d3 = q := ⟨_, rfl⟩
  rw [e3] at b3
  rw [e3]
  have zn3 := b3.1
  have zd3 : (bl (q3.den : Int).natAbs).length ≤ 2147483649 := b3.2
  have sd3 : sv false (bl q3.den) = (q3.den : Int) := by rw [sv_false, nl_bl]
  have nd3 : ((q3.den : Int) < 0) = False := eq_false (by omega)
  obtain ⟨D3, eD3⟩ : ∃ z : Int, (q3.den : Int) = z := ⟨_, rfl⟩
  have y12 := Lmul (a := (q1.den : Int)) (b := (q2.den : Int)) zd1 zd2
  have s12 : (bl (q1.den : Int).natAbs).length + (bl (q2.den : Int).natAbs).length ≤ 274877906944 := by omega
  have y23 := Lmul (a := (q2.den : Int)) (b := (q3.den : Int)) zd2 zd3
  have s23 : (bl (q2.den : Int).natAbs).length + (bl (q3.den : Int).natAbs).length ≤ 274877906944 := by omega
  have y13 := Lmul (a := (q1.den : Int)) (b := (q3.den : Int)) zd1 zd3
  have s13 : (bl (q1.den : Int).natAbs).length + (bl (q3.den : Int).natAbs).length ≤ 274877906944 := by omega
  have x0 := Lmul zn1 y23
  have t0 : (bl q1.num.natAbs).length + (bl ((q2.den : Int) * (q3.den : Int)).natAbs).length ≤ 274877906944 := by omega
  have u0 : (bl (q1.num * ((q2.den : Int) * (q3.den : Int))).natAbs).length ≤ 34359738368 := by omega
  have x1 := Lmul zn2 y13
  have t1 : (bl q2.num.natAbs).length + (bl ((q1.den : Int) * (q3.den : Int)).natAbs).length ≤ 274877906944 := by omega
  have u1 : (bl (q2.num * ((q1.den : Int) * (q3.den : Int))).natAbs).length ≤ 34359738368 := by omega
  have x2 := Lmul zn3 y12
  have t2 : (bl q3.num.natAbs).length + (bl ((q1.den : Int) * (q2.den : Int)).natAbs).length ≤ 274877906944 := by omega
  have u2 : (bl (q3.num * ((q1.den : Int) * (q2.den : Int))).natAbs).length ≤ 34359738368 := by omega
  have x3 := Lmul y12 zd3
  have t3 : (bl ((q1.den : Int) * (q2.den : Int)).natAbs).length + (bl (q3.den : Int).natAbs).length ≤ 274877906944 := by omega
  have u3 : (bl ((q1.den : Int) * (q2.den : Int) * (q3.den : Int)).natAbs).length ≤ 34359738368 := by omega
  simp only [c45, initT, List.zipIdx_cons, List.zipIdx_nil, List.map_cons, List.map_nil, Nat.reduceAdd]
  simp only [↓R0, R1, rdL, rdH, isCall, istep, ibin, vcells, fillI, setR, flat, okCell, isBase, List.set, List.drop, List.take, List.append, bnds, bhi, blo, srcOf, ↓reduceIte, Nat.reduceEqDiff, Nat.reduceAdd, Nat.reduceLeDiff, reduceCtorEq, Nat.reduceSub, Int.reduceEq, Int.reduceLT, Int.reduceLE, Int.reduceGT, Int.reduceGE, Int.reduceSub, Int.reduceAdd, Int.reduceMul, Int.reduceNe, Int.reduceNeg, Int.reduceToNat, Nat.reduceMul, spR3Parts, spI2Mul, spR4Norm, mkE, pE, mn1, md1, mn2, md2, mn3, md3, e1, e2, e3, s12, s23, s13, t0, u0, t1, u1, t2, u2, t3, u3, Fin, isEnd, resL, res1, iE, rE]
  exact ⟨_, rfl, rfl, fun k hk => by simp only [ne_nb hk, if_false]⟩
end Go.Eng
end
section
set_option linter.unusedVariables false
set_option linter.unusedSimpArgs false
set_option linter.unusedSectionVars false
set_option maxRecDepth 20000
namespace Go.Eng
open Go Go.Proofs Go.IntWalk
def spR5Part : List Value → Option Value
  | [.agg ⟨[.bool s, .string ⟨⟨l⟩⟩]⟩, .agg ⟨[.bool t, .string ⟨⟨m⟩⟩]⟩] => if l.length ≤ 68719476736 ∧ m.length ≤ 68719476736 ∧ nl m ≠ 0 then some (.agg ⟨iE (sv s l / sv t m)⟩) else none
  | _ => none
def c77 : ICode :=
  (.seq (.reg [⟨(some 2), none, (.box 23 2 (.t 0))⟩, ⟨(some 3), none, (.box 23 2 (.t 1))⟩, ⟨(some 4), none, (.alloc 23 2 [(.bool false), (.string ⟨⟨[]⟩⟩)])⟩])
  (.seq (.reg [⟨(some 9), none, (.load true 2 (.t 2))⟩, ⟨(some 10), none, (.load true 2 (.t 3))⟩, ⟨(some 11), none, (.call 51 [(.t 9), (.t 10)])⟩, ⟨(some 8), none, (.mv (.t 11))⟩, ⟨(some 12), none, (.ext (.t 8) 0)⟩, ⟨(some 13), none, (.ext (.t 8) 1)⟩, ⟨(some 14), none, (.ext (.t 8) 2)⟩, ⟨(some 5), none, (.alloc 23 2 [(.bool false), (.string ⟨⟨[]⟩⟩)])⟩, ⟨(some 6), none, (.alloc 23 2 [(.bool false), (.string ⟨⟨[]⟩⟩)])⟩, ⟨none, none, (.store 2 (.t 5) (.t 12))⟩, ⟨none, none, (.store 2 (.t 6) (.t 13))⟩, ⟨(some 7), none, (.mv (.t 14))⟩])
  (.seq (.reg [⟨(some 15), none, (.load true 2 (.t 5))⟩, ⟨none, none, (.store 2 (.t 4) (.t 15))⟩])
  .ret)))
theorem tr77 : trFun Tryz.prog 77 = some ⟨16, [.cell 4 true 2], c77⟩ := by kernel_rfl
theorem ok_r5Part : SpecOK Tryz.prog 77 (flat spR5Part) := by
  refine flat_run (env_cons ok_r2Div (env_nil _)) mixed tr77 ?_
  intro args v h N hG
  unfold spR5Part at hG
  split at hG
  case h_2 => cases hG
  rename_i s l t m
  split at hG
  case isFalse => cases hG
  rename_i hl
  obtain ⟨h1, h2, h3⟩ := hl
  cases hG
  refine ⟨rfl, by simp, ?_⟩
  have h3' : ¬ (nl m = 0) := h3
  simp only [c77, initT, List.zipIdx_cons, List.zipIdx_nil, List.map_cons, List.map_nil, Nat.reduceAdd]
  simp only [↓R0, R1, rdL, rdH, isCall, istep, ibin, vcells, fillI, setR, flat, okCell, isBase, List.set, List.drop, List.take, List.append, bnds, bhi, blo, srcOf, ↓reduceIte, Nat.reduceEqDiff, Nat.reduceAdd, Nat.reduceLeDiff, reduceCtorEq, Nat.reduceSub, Int.reduceEq, Int.reduceLT, Int.reduceLE, Int.reduceGT, Int.reduceGE, Int.reduceSub, Int.reduceAdd, Int.reduceMul, Int.reduceNe, Int.reduceNeg, Int.reduceToNat, Nat.reduceMul, spI2Div, h1, h2, h3', Fin, isEnd, resL, res1, iE, rE]
  exact ⟨_, rfl, rfl, fun k hk => by simp only [ne_nb hk, if_false]⟩
def lG (a b c d : Int) : Nat := Nat.gcd (Nat.gcd (Nat.gcd a.natAbs b.natAbs) c.natAbs) d.natAbs
def lE (a b c d : Int) : List Value := iE (a / (lG a b c d : Int)) ++ iE (b / (lG a b c d : Int)) ++ iE (c / (lG a b c d : Int)) ++ iE (d / (lG a b c d : Int))
theorem lG_pos {a b c d : Int} (h : ¬ (a = 0 ∧ b = 0 ∧ c = 0)) : 0 < lG a b c d := by
  unfold lG
  refine Nat.gcd_pos_of_pos_left _ ?_
  by_cases hc : c = 0
  · refine Nat.gcd_pos_of_pos_left _ ?_
    by_cases hb : b = 0
    · exact Nat.gcd_pos_of_pos_left _ (by omega)
    · exact Nat.gcd_pos_of_pos_right _ (by omega)
  · exact Nat.gcd_pos_of_pos_right _ (by omega)
theorem lG_le {a b c d : Int} {k : Nat} (h1 : (bl a.natAbs).length ≤ k) (h2 : (bl b.natAbs).length ≤ k) (h3 : (bl c.natAbs).length ≤ k) (h : ¬ (a = 0 ∧ b = 0 ∧ c = 0)) : (bl (lG a b c d)).length ≤ k := by
  have hle : lG a b c d ≤ max a.natAbs (max b.natAbs c.natAbs) := by
    unfold lG
    have g : 0 < Nat.gcd (Nat.gcd a.natAbs b.natAbs) c.natAbs := by
      by_cases hc : c = 0
      · refine Nat.gcd_pos_of_pos_left _ ?_
        by_cases hb : b = 0
        · exact Nat.gcd_pos_of_pos_left _ (by omega)
        · exact Nat.gcd_pos_of_pos_right _ (by omega)
      · exact Nat.gcd_pos_of_pos_right _ (by omega)
    refine Nat.le_trans (Nat.gcd_le_left _ g) ?_
    by_cases hc : c = 0
    · subst hc
      rw [show Int.natAbs 0 = 0 from rfl, Nat.gcd_zero_right] at g ⊢
      by_cases hb : b = 0
      · subst hb
        rw [show Int.natAbs 0 = 0 from rfl, Nat.gcd_zero_right]; omega
      · exact Nat.le_trans (Nat.gcd_le_right _ (by omega)) (by omega)
    · exact Nat.le_trans (Nat.gcd_le_right _ (by omega)) (by omega)
  refine Nat.le_trans (bl_length_mono hle) ?_
  rw [Nat.max_def, Nat.max_def]
  split <;> (try split) <;> assumption
def spR5Norm : List Value → Option Value
  | [.agg ⟨[.bool s1, .string ⟨⟨l1⟩⟩, .bool s2, .string ⟨⟨l2⟩⟩, .bool s3, .string ⟨⟨l3⟩⟩, .bool s4, .string ⟨⟨l4⟩⟩]⟩] =>
    if l1.length ≤ 68719476736 ∧ l2.length ≤ 68719476736 ∧ l3.length ≤ 68719476736 ∧ l4.length ≤ 68719476736 then
      (if sv s1 l1 = 0 ∧ sv s2 l2 = 0 ∧ sv s3 l3 = 0 then some (.tuple ⟨[.agg ⟨[.bool false, .string ⟨⟨[]⟩⟩, .bool false, .string ⟨⟨[]⟩⟩, .bool false, .string ⟨⟨[]⟩⟩, .bool false, .string ⟨⟨[]⟩⟩]⟩, .bool false]⟩)
        else some (.tuple ⟨[.agg ⟨lE (sv s1 l1) (sv s2 l2) (sv s3 l3) (sv s4 l4)⟩, .bool true]⟩)) else none
  | _ => none
def c29 : ICode :=
  (.seq (.reg [⟨(some 1), none, (.box 25 8 (.t 0))⟩, ⟨(some 2), none, (.alloc 25 8 [(.bool false), (.string ⟨⟨[]⟩⟩), (.bool false), (.string ⟨⟨[]⟩⟩), (.bool false), (.string ⟨⟨[]⟩⟩), (.bool false), (.string ⟨⟨[]⟩⟩)])⟩, ⟨(some 3), none, (.mv (.c (.bool false)))⟩])
  (.seq (.seq (.reg [⟨(some 5), none, (.faddr 0 (.t 1))⟩, ⟨(some 6), none, (.load true 2 (.t 5))⟩, ⟨(some 7), none, (.call 47 [(.t 6)])⟩, ⟨(some 8), none, (.bin .eql (.t 7) (.c (.int .i64 0)))⟩, ⟨(some 9), none, (.mv (.t 8))⟩, ⟨(some 10), (some (9, true)), (.faddr 2 (.t 1))⟩, ⟨(some 11), (some (9, true)), (.load true 2 (.t 10))⟩, ⟨(some 12), (some (9, true)), (.call 47 [(.t 11)])⟩, ⟨(some 13), (some (9, true)), (.bin .eql (.t 12) (.c (.int .i64 0)))⟩, ⟨(some 14), none, (.pick (.t 9) (.t 13) (.c (.bool false)))⟩, ⟨(some 15), none, (.mv (.t 14))⟩, ⟨(some 16), (some (15, true)), (.faddr 4 (.t 1))⟩, ⟨(some 17), (some (15, true)), (.load true 2 (.t 16))⟩, ⟨(some 18), (some (15, true)), (.call 47 [(.t 17)])⟩, ⟨(some 19), (some (15, true)), (.bin .eql (.t 18) (.c (.int .i64 0)))⟩, ⟨(some 20), none, (.pick (.t 15) (.t 19) (.c (.bool false)))⟩])
  (.cond (.t 20)
  (.seq (.reg [⟨(some 21), none, (.build [(.bool false), (.string ⟨⟨[]⟩⟩), (.bool false), (.string ⟨⟨[]⟩⟩), (.bool false), (.string ⟨⟨[]⟩⟩), (.bool false), (.string ⟨⟨[]⟩⟩)] [])⟩, ⟨none, none, (.store 8 (.t 2) (.t 21))⟩, ⟨(some 3), none, (.mv (.c (.bool false)))⟩])
  .ret)
  .skip))
  (.seq (.reg [⟨(some 22), none, (.faddr 0 (.t 1))⟩, ⟨(some 23), none, (.load true 2 (.t 22))⟩, ⟨(some 24), none, (.faddr 2 (.t 1))⟩, ⟨(some 25), none, (.load true 2 (.t 24))⟩, ⟨(some 26), none, (.faddr 4 (.t 1))⟩, ⟨(some 27), none, (.load true 2 (.t 26))⟩, ⟨(some 28), none, (.faddr 6 (.t 1))⟩, ⟨(some 29), none, (.load true 2 (.t 28))⟩, ⟨(some 30), none, (.bslice 23 2 4 [(.bool false), (.string ⟨⟨[]⟩⟩), (.bool false), (.string ⟨⟨[]⟩⟩), (.bool false), (.string ⟨⟨[]⟩⟩), (.bool false), (.string ⟨⟨[]⟩⟩)] [(0, 2, (.t 23)), (2, 2, (.t 25)), (4, 2, (.t 27)), (6, 2, (.t 29))])⟩, ⟨(some 31), none, (.call 49 [(.t 30)])⟩, ⟨(some 4), none, (.alloc 23 2 [(.bool false), (.string ⟨⟨[]⟩⟩)])⟩, ⟨none, none, (.store 2 (.t 4) (.t 31))⟩])
  (.seq (.dreg [⟨(some 32), none, [], (.faddr 0 (.t 1))⟩, ⟨(some 33), none, [], (.load true 2 (.t 32))⟩, ⟨(some 34), none, [], (.load true 2 (.t 4))⟩, ⟨(some 35), none, [], (.call 77 [(.t 33), (.t 34)])⟩, ⟨(some 36), none, [], (.faddr 2 (.t 1))⟩, ⟨(some 37), none, [3], (.load true 2 (.t 36))⟩, ⟨(some 38), none, [3], (.load true 2 (.t 4))⟩, ⟨(some 39), none, [], (.call 77 [(.t 37), (.t 38)])⟩, ⟨(some 40), none, [], (.faddr 4 (.t 1))⟩, ⟨(some 41), none, [3, 7], (.load true 2 (.t 40))⟩, ⟨(some 42), none, [3, 7], (.load true 2 (.t 4))⟩, ⟨(some 43), none, [], (.call 77 [(.t 41), (.t 42)])⟩, ⟨(some 44), none, [], (.faddr 6 (.t 1))⟩, ⟨(some 45), none, [3, 7, 11], (.load true 2 (.t 44))⟩, ⟨(some 46), none, [3, 7, 11], (.load true 2 (.t 4))⟩, ⟨(some 47), none, [], (.call 77 [(.t 45), (.t 46)])⟩, ⟨(some 48), none, [], (.build [(.bool false), (.string ⟨⟨[]⟩⟩), (.bool false), (.string ⟨⟨[]⟩⟩), (.bool false), (.string ⟨⟨[]⟩⟩), (.bool false), (.string ⟨⟨[]⟩⟩)] [(0, 2, (.t 35)), (2, 2, (.t 39)), (4, 2, (.t 43)), (6, 2, (.t 47))])⟩, ⟨none, none, [], (.store 8 (.t 2) (.t 48))⟩, ⟨(some 3), none, [], (.mv (.c (.bool true)))⟩])
  .ret))))
theorem tr29 : trFun Tryz.prog 29 = some ⟨49, [.cell 2 true 8, .t 3], c29⟩ := by kernel_rfl
set_option maxHeartbeats 4000000 in
theorem ok_r5Norm : SpecOK Tryz.prog 29 (flat spR5Norm) := by
  refine flat_run (env_cons ok_r2Sign (env_cons ok_r2Gcd (env_cons ok_r5Part (env_nil _)))) mixed tr29 ?_
  intro args v h N hG
  unfold spR5Norm at hG
  split at hG
  case h_2 => cases hG
  rename_i s1 l1 s2 l2 s3 l3 s4 l4
  split at hG
  case isFalse => cases hG
  rename_i hl
  obtain ⟨h1, h2, h3, h4⟩ := hl
  have k1 : l1.length ≤ 1099511627776 := by omega
  have k2 : l2.length ≤ 1099511627776 := by omega
  have k3 : l3.length ≤ 1099511627776 := by omega
  have e1 : ((sv s1 l1).sign = 0) = (sv s1 l1 = 0) := propext Int.sign_eq_zero_iff_zero
  have e2 : ((sv s2 l2).sign = 0) = (sv s2 l2 = 0) := propext Int.sign_eq_zero_iff_zero
  have e3 : ((sv s3 l3).sign = 0) = (sv s3 l3 = 0) := propext Int.sign_eq_zero_iff_zero
  split at hG
  · rename_i h0
    obtain ⟨z1, z2, z3⟩ := h0
    cases hG
    refine ⟨rfl, by simp, ?_⟩
    simp only [c29, initT, List.zipIdx_cons, List.zipIdx_nil, List.map_cons, List.map_nil, Nat.reduceAdd]
    simp only [↓R0, R1, rdL, rdH, isCall, istep, ibin, vcells, fillI, setR, flat, okCell, isBase, List.set, List.drop, List.take, List.append, bnds, bhi, blo, srcOf, ↓reduceIte, Nat.reduceEqDiff, Nat.reduceAdd, Nat.reduceLeDiff, reduceCtorEq, Nat.reduceSub, Int.reduceEq, Int.reduceLT, Int.reduceLE, Int.reduceGT, Int.reduceGE, Int.reduceSub, Int.reduceAdd, Int.reduceMul, Int.reduceNe, Int.reduceNeg, Int.reduceToNat, Nat.reduceMul, spI2Sign, k1, k2, k3, z1, z2, z3, Int.sign_zero, Fin, isEnd, resL, res1, iE, rE]
    exact ⟨_, rfl, rfl, fun k hk => by simp only [ne_nb hk, if_false]⟩
  rename_i h0
  cases hG
  refine ⟨rfl, by simp, ?_⟩
  have hG0 := lG_pos (d := sv s4 l4) h0
  have hGl := lG_le (d := sv s4 l4) (k := 68719476736) (len_sv h1) (len_sv h2) (len_sv h3) h0
  have hGG : Nat.gcd (Nat.gcd (Nat.gcd (nl l1) (nl l2)) (nl l3)) (nl l4) = lG (sv s1 l1) (sv s2 l2) (sv s3 l3) (sv s4 l4) := by
    unfold lG; rw [sv_natAbs, sv_natAbs, sv_natAbs, sv_natAbs]
  have f5 : ∀ G : Nat, sv false (bl G) = (G : Int) := fun G => by rw [sv_false, nl_bl]
  unfold lE
  generalize lG (sv s1 l1) (sv s2 l2) (sv s3 l3) (sv s4 l4) = G at *
  have f1 : ¬ ((G : Int) < 0) := by omega
  have f2 : ¬ (G = 0) := by omega
  have f6 := f5 G
  simp only [c29, initT, List.zipIdx_cons, List.zipIdx_nil, List.map_cons, List.map_nil, Nat.reduceAdd]
  by_cases z1 : sv s1 l1 = 0
  · by_cases z2 : sv s2 l2 = 0
    · have z3 : ¬ (sv s3 l3 = 0) := fun e => h0 ⟨z1, z2, e⟩
      simp only [↓R0, R1, rdL, rdH, isCall, istep, ibin, vcells, fillI, setR, flat, okCell, isBase, List.set, List.drop, List.take, List.append, bnds, bhi, blo, srcOf, ↓reduceIte, Nat.reduceEqDiff, Nat.reduceAdd, Nat.reduceLeDiff, reduceCtorEq, Nat.reduceSub, Int.reduceEq, Int.reduceLT, Int.reduceLE, Int.reduceGT, Int.reduceGE, Int.reduceSub, Int.reduceAdd, Int.reduceMul, Int.reduceNe, Int.reduceNeg, Int.reduceToNat, Nat.reduceMul, spI2Sign, k1, k2, k3, e1, e2, e3, z1, z2, z3, Int.sign_zero]
      simp only [↓R0, R1, rdL, rdH, isCall, istep, ibin, vcells, fillI, setR, flat, okCell, isBase, List.set, List.drop, List.take, List.append, bnds, bhi, blo, srcOf, ↓reduceIte, Nat.reduceEqDiff, Nat.reduceAdd, Nat.reduceLeDiff, reduceCtorEq, Nat.reduceSub, Int.reduceEq, Int.reduceLT, Int.reduceLE, Int.reduceGT, Int.reduceGE, Int.reduceSub, Int.reduceAdd, Int.reduceMul, Int.reduceNe, Int.reduceNeg, Int.reduceToNat, Nat.reduceMul, rdS, spI2Gcd, ints, gcds, List.foldl_cons, List.foldl_nil, Nat.gcd_zero_left, List.forall_mem_cons, h1, h2, h3, h4, List.not_mem_nil, false_implies, implies_true, hGG, hGl, f1, f2, f6, nl_bl, Int.natAbs_natCast, spR5Part, Fin, isEnd, resL, res1, iE, rE]
      exact ⟨_, rfl, rfl, fun k hk => by simp only [ne_nb hk, if_false]⟩
    · simp only [↓R0, R1, rdL, rdH, isCall, istep, ibin, vcells, fillI, setR, flat, okCell, isBase, List.set, List.drop, List.take, List.append, bnds, bhi, blo, srcOf, ↓reduceIte, Nat.reduceEqDiff, Nat.reduceAdd, Nat.reduceLeDiff, reduceCtorEq, Nat.reduceSub, Int.reduceEq, Int.reduceLT, Int.reduceLE, Int.reduceGT, Int.reduceGE, Int.reduceSub, Int.reduceAdd, Int.reduceMul, Int.reduceNe, Int.reduceNeg, Int.reduceToNat, Nat.reduceMul, spI2Sign, k1, k2, k3, e1, e2, e3, z1, z2, Int.sign_zero]
      simp only [↓R0, R1, rdL, rdH, isCall, istep, ibin, vcells, fillI, setR, flat, okCell, isBase, List.set, List.drop, List.take, List.append, bnds, bhi, blo, srcOf, ↓reduceIte, Nat.reduceEqDiff, Nat.reduceAdd, Nat.reduceLeDiff, reduceCtorEq, Nat.reduceSub, Int.reduceEq, Int.reduceLT, Int.reduceLE, Int.reduceGT, Int.reduceGE, Int.reduceSub, Int.reduceAdd, Int.reduceMul, Int.reduceNe, Int.reduceNeg, Int.reduceToNat, Nat.reduceMul, rdS, spI2Gcd, ints, gcds, List.foldl_cons, List.foldl_nil, Nat.gcd_zero_left, List.forall_mem_cons, h1, h2, h3, h4, List.not_mem_nil, false_implies, implies_true, hGG, hGl, f1, f2, f6, nl_bl, Int.natAbs_natCast, spR5Part, Fin, isEnd, resL, res1, iE, rE]
      exact ⟨_, rfl, rfl, fun k hk => by simp only [ne_nb hk, if_false]⟩
  · simp only [↓R0, R1, rdL, rdH, isCall, istep, ibin, vcells, fillI, setR, flat, okCell, isBase, List.set, List.drop, List.take, List.append, bnds, bhi, blo, srcOf, ↓reduceIte, Nat.reduceEqDiff, Nat.reduceAdd, Nat.reduceLeDiff, reduceCtorEq, Nat.reduceSub, Int.reduceEq, Int.reduceLT, Int.reduceLE, Int.reduceGT, Int.reduceGE, Int.reduceSub, Int.reduceAdd, Int.reduceMul, Int.reduceNe, Int.reduceNeg, Int.reduceToNat, Nat.reduceMul, spI2Sign, k1, k2, k3, e1, e2, e3, z1, Int.sign_zero]
    simp only [↓R0, R1, rdL, rdH, isCall, istep, ibin, vcells, fillI, setR, flat, okCell, isBase, List.set, List.drop, List.take, List.append, bnds, bhi, blo, srcOf, ↓reduceIte, Nat.reduceEqDiff, Nat.reduceAdd, Nat.reduceLeDiff, reduceCtorEq, Nat.reduceSub, Int.reduceEq, Int.reduceLT, Int.reduceLE, Int.reduceGT, Int.reduceGE, Int.reduceSub, Int.reduceAdd, Int.reduceMul, Int.reduceNe, Int.reduceNeg, Int.reduceToNat, Nat.reduceMul, rdS, spI2Gcd, ints, gcds, List.foldl_cons, List.foldl_nil, Nat.gcd_zero_left, List.forall_mem_cons, h1, h2, h3, h4, List.not_mem_nil, false_implies, implies_true, hGG, hGl, f1, f2, f6, nl_bl, Int.natAbs_natCast, spR5Part, Fin, isEnd, resL, res1, iE, rE]
    exact ⟨_, rfl, rfl, fun k hk => by simp only [ne_nb hk, if_false]⟩
end Go.Eng
end
section
set_option linter.unusedVariables false
set_option linter.unusedSimpArgs false
set_option linter.unusedSectionVars false
namespace Go.Eng
def lm (n j : Nat) : Nat := n / 4294967296 ^ j % 4294967296
theorem lm_lt (n j : Nat) : lm n j < 4294967296 := Nat.mod_lt _ (by omega)
theorem lm_zero (n : Nat) : lm n 0 = n % 4294967296 := by unfold lm; rw [Nat.pow_zero, Nat.div_one]
theorem lm_succ (n j : Nat) : lm n (j + 1) = lm (n / 4294967296) j := by
  unfold lm; rw [Nat.pow_succ, Nat.mul_comm, Nat.div_div_eq_div_mul]
theorem pB (j : Nat) : 0 < 4294967296 ^ j := Nat.pow_pos (by omega)
theorem lm_of_lt {n j : Nat} (h : n < 4294967296 ^ j) : lm n j = 0 := by
  unfold lm; rw [Nat.div_eq_of_lt h]
theorem lm_of_lt' {n k j : Nat} (h : n < 4294967296 ^ k) (hj : k ≤ j) : lm n j = 0 :=
  lm_of_lt (Nat.lt_of_lt_of_le h (Nat.pow_le_pow_right (by omega) hj))
theorem lm_top {n j : Nat} (h : n < 4294967296 ^ (j + 1)) : lm n j = n / 4294967296 ^ j := by
  unfold lm
  rw [Nat.mod_eq_of_lt]
  rw [Nat.pow_succ] at h
  exact Nat.div_lt_of_lt_mul h
theorem lm_mod {n k j : Nat} (h : j < k) : lm (n % 4294967296 ^ k) j = lm n j := by
  unfold lm
  have e : 4294967296 ^ k = 4294967296 ^ j * (4294967296 * 4294967296 ^ (k - j - 1)) := by
    rw [← Nat.pow_add_one', ← Nat.pow_add]; congr 1; omega
  rw [e, Nat.mod_mul_right_div_self, Nat.mod_mul_right_mod]
theorem lm_add_mul {n x i j : Nat} (h : j < i) : lm (n + x * 4294967296 ^ i) j = lm n j := by
  rw [← lm_mod (n := n + x * 4294967296 ^ i) h, Nat.add_mul_mod_self_right, lm_mod h]
theorem lm_congr {n m i j : Nat} (h : n % 4294967296 ^ i = m % 4294967296 ^ i) (hj : j < i) : lm n j = lm m j := by
  rw [← lm_mod hj, h, lm_mod hj]
theorem mod_step (n i : Nat) : n % 4294967296 ^ (i + 1) = n % 4294967296 ^ i + 4294967296 ^ i * lm n i := by
  rw [Nat.pow_succ, Nat.mod_mul]; rfl
theorem div_step (n i : Nat) : n / 4294967296 ^ i = 4294967296 * (n / 4294967296 ^ (i + 1)) + lm n i := by
  unfold lm
  rw [Nat.pow_succ, ← Nat.div_div_eq_div_mul, Nat.div_add_mod]
def tb (k : Nat) (f : Nat → Nat) : List Value := (List.range k).map fun j => .int .u32 (f j : Nat)
theorem tb_length (k : Nat) (f : Nat → Nat) : (tb k f).length = k := by simp [tb]
theorem tb_get (k : Nat) (f : Nat → Nat) (i : Nat) : (tb k f)[i]? = if i < k then some (.int .u32 (f i : Nat)) else none := by
  unfold tb
  rw [List.getElem?_map]
  by_cases h : i < k
  · rw [if_pos h, List.getElem?_range h]; rfl
  · rw [if_neg h, List.getElem?_eq_none (by simp; omega)]; rfl
theorem tb_get' {k i : Nat} (f : Nat → Nat) (h : i < k) : (tb k f)[i]? = some (.int .u32 (f i : Nat)) := by rw [tb_get, if_pos h]
theorem tb_congr {k : Nat} {f g : Nat → Nat} (h : ∀ j, j < k → f j = g j) : tb k f = tb k g := by
  apply List.ext_getElem?
  intro i
  rw [tb_get, tb_get]
  split
  · rename_i hi; rw [h i hi]
  · rfl
theorem tb_set (k : Nat) (f : Nat → Nat) (i v : Nat) : (tb k f).set i (.int .u32 (v : Nat)) = tb k (fun j => if j = i then v else f j) := by
  apply List.ext_getElem?
  intro j
  rw [tb_get, List.getElem?_set, tb_get, tb_length]
  by_cases h : i = j
  · subst h
    simp
  · rw [if_neg h]
    by_cases h2 : j < k
    · rw [if_pos h2, if_pos h2, if_neg (by omega)]
    · rw [if_neg h2, if_neg h2]
theorem tb_setR (k : Nat) (f : Nat → Nat) (i v : Nat) : setR (tb k f) i [.int .u32 (v : Nat)] = tb k (fun j => if j = i then v else f j) := by
  simp only [setR, tb_set]
theorem tb_slice {k a b : Nat} (f : Nat → Nat) (h : a + b ≤ k) : ((tb k f).drop a).take b = tb b (fun j => f (a + j)) := by
  apply List.ext_getElem?
  intro j
  rw [tb_get, List.getElem?_take, List.getElem?_drop, tb_get]
  by_cases h1 : j < b
  · rw [if_pos h1, if_pos h1, if_pos (by omega)]
  · rw [if_neg h1, if_neg h1]
theorem tb_take {k b : Nat} (f : Nat → Nat) (h : b ≤ k) : (tb k f).take b = tb b f := by
  have := tb_slice (k := k) (a := 0) (b := b) f (by omega)
  rw [List.drop_zero] at this
  rw [this]; apply tb_congr; intro j _; rw [Nat.zero_add]
theorem tb_all (k : Nat) (f : Nat → Nat) : (tb k f).take k = tb k f := tb_take f (Nat.le_refl _)
theorem tb_zero (f : Nat → Nat) : tb 0 f = [] := rfl
theorem tb_succ (k : Nat) (f : Nat → Nat) : tb (k + 1) f = .int .u32 (f 0 : Nat) :: tb k (fun j => f (j + 1)) := by
  unfold tb; rw [List.range_succ_eq_map]; simp
theorem tb_rep (k : Nat) : (List.replicate k [Value.int .u32 0]).flatten = tb k (fun _ => 0) := by
  induction k with
  | zero => rfl
  | succ k ih => rw [List.replicate_succ, List.flatten_cons, ih, tb_succ]; rfl
theorem tb_base (k : Nat) (f : Nat → Nat) : (tb k f).all isBase = true := by
  unfold tb; rw [List.all_map, List.all_eq_true]; intro x _; rfl
theorem tb_ok (k : Nat) (f : Nat → Nat) : (tb k f).all okCell = true := by
  unfold tb; rw [List.all_map, List.all_eq_true]; intro x _; rfl
def ud : List Value → Nat
  | .int _ i :: r => i.toNat + 4294967296 * ud r
  | _ => 0
def uok : List Value → Bool
  | [] => true
  | .int .u32 i :: r => decide (0 ≤ i) && decide (i < 4294967296) && uok r
  | _ => false
theorem uok_tb : ∀ (k : Nat) (f : Nat → Nat), (∀ j, j < k → f j < 4294967296) → uok (tb k f) = true
  | 0, f, h => rfl
  | k + 1, f, h => by
    rw [tb_succ]
    have h0 := h 0 (by omega)
    simp only [uok, Bool.and_eq_true, decide_eq_true_eq]
    refine ⟨⟨by omega, by omega⟩, uok_tb k _ fun j hj => h (j + 1) (by omega)⟩
theorem uok_lm (k n : Nat) : uok (tb k (lm n)) = true := uok_tb k _ fun j _ => lm_lt n j
theorem ud_tb : ∀ (k n : Nat), ud (tb k (lm n)) = n % 4294967296 ^ k
  | 0, n => by simp [tb_zero, ud, Nat.mod_one]
  | k + 1, n => by
    rw [tb_succ]
    have e : (fun j => lm n (j + 1)) = lm (n / 4294967296) := by funext j; rw [lm_succ]
    rw [e, ud, ud_tb k, lm_zero, Nat.pow_succ, Nat.mul_comm (4294967296 ^ k), Nat.mod_mul, Int.toNat_natCast]
theorem ud_lt : ∀ {cells : List Value}, uok cells = true → ud cells < 4294967296 ^ cells.length
  | [], _ => by simp [ud]
  | c :: r, h => by
    unfold uok at h
    split at h
    · rename_i heq; cases heq
    · rename_i a i r' heq
      cases heq
      simp only [Bool.and_eq_true, decide_eq_true_eq] at h
      have := ud_lt h.2
      simp only [ud, List.length_cons, Nat.pow_succ]
      omega
    · cases h
theorem tb_ud : ∀ {cells : List Value}, uok cells = true → cells = tb cells.length (lm (ud cells))
  | [], _ => rfl
  | c :: r, h => by
    unfold uok at h
    split at h
    · rename_i heq; cases heq
    · rename_i a i r' heq
      cases heq
      simp only [Bool.and_eq_true, decide_eq_true_eq] at h
      rw [List.length_cons, tb_succ]
      have e : (fun j => lm (ud (.int .u32 i :: r)) (j + 1)) = lm (ud r) := by
        funext j; rw [lm_succ, ud]; congr 1; omega
      rw [e, ← tb_ud h.2, lm_zero, ud]
      congr 2
      omega
    · cases h
def cyA (a b i : Nat) : Nat := (a % 4294967296 ^ i + b % 4294967296 ^ i) / 4294967296 ^ i
theorem cyA_zero (a b : Nat) : cyA a b 0 = 0 := by simp [cyA, Nat.mod_one]
theorem cyA_le (a b i : Nat) : cyA a b i ≤ 1 := by
  unfold cyA
  have h1 := Nat.mod_lt a (pB i)
  have h2 := Nat.mod_lt b (pB i)
  rw [← Nat.lt_succ_iff, Nat.div_lt_iff_lt_mul (pB i)]
  omega
theorem add_limb (a b i : Nat) : lm (a + b) i = (lm a i + lm b i + cyA a b i) % 4294967296 := by
  have h : (a + b) / 4294967296 ^ i = a / 4294967296 ^ i + b / 4294967296 ^ i + cyA a b i := by
    unfold cyA
    have ea := Nat.div_add_mod a (4294967296 ^ i)
    have eb := Nat.div_add_mod b (4294967296 ^ i)
    have e : a + b = 4294967296 ^ i * (a / 4294967296 ^ i + b / 4294967296 ^ i) + (a % 4294967296 ^ i + b % 4294967296 ^ i) := by rw [Nat.mul_add]; omega
    rw [e, Nat.mul_add_div (pB i)]
  unfold lm
  rw [h]; omega
theorem cyA_succ (a b i : Nat) : cyA a b (i + 1) = (lm a i + lm b i + cyA a b i) / 4294967296 := by
  unfold cyA
  rw [mod_step, mod_step, Nat.pow_succ, ← Nat.div_div_eq_div_mul]
  have e : a % 4294967296 ^ i + 4294967296 ^ i * lm a i + (b % 4294967296 ^ i + 4294967296 ^ i * lm b i) = 4294967296 ^ i * (lm a i + lm b i) + (a % 4294967296 ^ i + b % 4294967296 ^ i) := by rw [Nat.mul_add]; omega
  rw [e, Nat.mul_add_div (pB i)]
def cyS (a b i : Nat) : Nat := if a % 4294967296 ^ i < b % 4294967296 ^ i then 1 else 0
theorem cyS_zero (a b : Nat) : cyS a b 0 = 0 := by simp [cyS, Nat.mod_one]
theorem cyS_le (a b i : Nat) : cyS a b i ≤ 1 := by unfold cyS; split <;> omega
theorem cyS_succ (a b i : Nat) : cyS a b (i + 1) = if lm a i < lm b i + cyS a b i then 1 else 0 := by
  unfold cyS
  rw [mod_step, mod_step]
  have h1 := Nat.mod_lt a (pB i)
  have h2 := Nat.mod_lt b (pB i)
  generalize a % 4294967296 ^ i = r at *
  generalize b % 4294967296 ^ i = s at *
  generalize 4294967296 ^ i = P at *
  generalize lm a i = x
  generalize lm b i = y
  by_cases c : x < y
  · have : P * (x + 1) ≤ P * y := Nat.mul_le_mul_left _ (by omega)
    rw [Nat.mul_add, Nat.mul_one] at this
    rw [if_pos (by omega), if_pos (by split <;> omega)]
  · by_cases c2 : y < x
    · have : P * (y + 1) ≤ P * x := Nat.mul_le_mul_left _ (by omega)
      rw [Nat.mul_add, Nat.mul_one] at this
      rw [if_neg (by omega), if_neg (by split <;> omega)]
    · have : x = y := by omega
      subst this
      by_cases c3 : r < s
      · rw [if_pos (by omega), if_pos (by rw [if_pos c3]; omega)]
      · rw [if_neg (by omega), if_neg (by rw [if_neg c3]; omega)]
theorem sub_limb {a b c : Nat} {i : Nat} (h : c % 4294967296 ^ (i + 1) + b % 4294967296 ^ (i + 1) = a % 4294967296 ^ (i + 1) ∨ c % 4294967296 ^ (i + 1) + b % 4294967296 ^ (i + 1) = a % 4294967296 ^ (i + 1) + 4294967296 ^ (i + 1)) :
    (lm c i : Int) = ((lm a i : Int) - lm b i - cyS a b i) % 4294967296 := by
  unfold cyS
  rw [mod_step, mod_step, mod_step, Nat.pow_succ] at h
  have h1 := Nat.mod_lt a (pB i)
  have h2 := Nat.mod_lt b (pB i)
  have h3 := Nat.mod_lt c (pB i)
  have l3 := lm_lt c i
  generalize a % 4294967296 ^ i = r at *
  generalize b % 4294967296 ^ i = s at *
  generalize c % 4294967296 ^ i = t at *
  generalize 4294967296 ^ i = P at *
  generalize lm a i = x at *
  generalize lm b i = y at *
  generalize lm c i = z at *
  have key : ∀ u v : Nat, P * u + t + s = P * v + r → (r < s → u + 1 = v) ∧ (¬ r < s → u = v) := by
    intro u v e
    constructor
    · intro hr
      rcases Nat.lt_trichotomy (u + 1) v with g | g | g
      · have : P * (u + 2) ≤ P * v := Nat.mul_le_mul_left _ (by omega)
        rw [Nat.mul_add] at this; omega
      · exact g
      · have : P * v ≤ P * u := Nat.mul_le_mul_left _ (by omega)
        omega
    · intro hr
      rcases Nat.lt_trichotomy u v with g | g | g
      · have : P * (u + 1) ≤ P * v := Nat.mul_le_mul_left _ (by omega)
        rw [Nat.mul_add, Nat.mul_one] at this; omega
      · exact g
      · have : P * (v + 1) ≤ P * u := Nat.mul_le_mul_left _ (by omega)
        rw [Nat.mul_add, Nat.mul_one] at this; omega
  rcases h with h | h
  · have := key (z + y) x (by rw [Nat.mul_add]; omega)
    by_cases c : r < s
    · rw [if_pos c]; have := this.1 c; omega
    · rw [if_neg c]; have := this.2 c; omega
  · have := key (z + y) (x + 4294967296) (by rw [Nat.mul_add, Nat.mul_add]; omega)
    by_cases c : r < s
    · rw [if_pos c]; have := this.1 c; omega
    · rw [if_neg c]; have := this.2 c; omega
theorem pow4 (k : Nat) : (256 : Nat) ^ (4 * k) = 4294967296 ^ k := by rw [Nat.pow_mul]
def lk (n : Nat) : Nat := ((bl n).length + 3) / 4
theorem lk_lt (n : Nat) : n < 4294967296 ^ lk n := by
  rw [← pow4, ← bl_length_le]; unfold lk; omega
theorem lk_le {n k : Nat} (h : n < 4294967296 ^ k) : lk n ≤ k := by
  rw [← pow4, ← bl_length_le] at h; unfold lk; omega
theorem lk_zero {n : Nat} : lk n = 0 ↔ n = 0 := by
  constructor
  · intro h; have := lk_lt n; rw [h] at this; omega
  · intro h; subst h; unfold lk; rw [bl_zero]; rfl
theorem lk_top {n k : Nat} (h : lk n = k + 1) : 4294967296 ^ k ≤ n := by
  refine Nat.le_of_not_lt fun hlt => ?_
  have := lk_le hlt
  omega
end Go.Eng
end
section
set_option linter.unusedVariables false
set_option linter.unusedSimpArgs false
set_option linter.unusedSectionVars false
namespace Go.Eng
open Go Go.IntWalk
theorem or_nat {x c s : Nat} (h : x < 2 ^ s) : x ||| c * 2 ^ s = x + c * 2 ^ s := by
  rw [Nat.or_comm, ← Nat.shiftLeft_eq, ← Nat.shiftLeft_add_eq_or_of_lt h, Nat.add_comm]
theorem u32_nat {n : Nat} (h : n < 4294967296) : IntKind.u32.wrap (n : Int) = (n : Int) := by
  have : IntKind.u32.wrap (n : Int) = ((n : Int) % 4294967296) := rfl
  rw [this]; omega
theorem u64_nat {n : Nat} (h : n < 18446744073709551616) : IntKind.u64.wrap (n : Int) = (n : Int) := by
  have : IntKind.u64.wrap (n : Int) = ((n : Int) % 18446744073709551616) := rfl
  rw [this]; omega
theorem u32_mod (n : Nat) : IntKind.u32.wrap (n : Int) = ((n % 4294967296 : Nat) : Int) := by
  have : IntKind.u32.wrap (n : Int) = ((n : Int) % 4294967296) := rfl
  rw [this]; omega
theorem u32_int (n : Int) : IntKind.u32.wrap n = n % 4294967296 := rfl
theorem bv32 {n : Nat} (h : n < 4294967296) : (BitVec.ofInt IntKind.u32.bits (n : Int)).toNat = n := by
  have : (BitVec.ofInt 32 (n : Int)).toNat = n := by
    rw [BitVec.ofInt_natCast, BitVec.toNat_ofNat]; omega
  exact this
theorem bv64 {n : Nat} (h : n < 18446744073709551616) : (BitVec.ofInt IntKind.u64.bits (n : Int)).toNat = n := by
  have : (BitVec.ofInt 64 (n : Int)).toNat = n := by
    rw [BitVec.ofInt_natCast, BitVec.toNat_ofNat]; omega
  exact this
theorem or_u32 {x c s : Nat} (hx : x < 2 ^ s) (h : x + c * 2 ^ s < 4294967296) : IntKind.u32.wrap ((BitVec.ofInt IntKind.u32.bits (x : Int) ||| BitVec.ofInt IntKind.u32.bits ((c * 2 ^ s : Nat) : Int)).toNat : Int) = ((x + c * 2 ^ s : Nat) : Int) := by
  rw [BitVec.toNat_or, bv32 (by omega), bv32 (by omega), or_nat hx, u32_nat h]
theorem or_u64 {x c s : Nat} (hx : x < 2 ^ s) (h : x + c * 2 ^ s < 18446744073709551616) : IntKind.u64.wrap ((BitVec.ofInt IntKind.u64.bits (x : Int) ||| BitVec.ofInt IntKind.u64.bits ((c * 2 ^ s : Nat) : Int)).toNat : Int) = ((x + c * 2 ^ s : Nat) : Int) := by
  rw [BitVec.toNat_or, bv64 (by omega), bv64 (by omega), or_nat hx, u64_nat h]
theorem borrow32 (X Y D : BitVec 32) (b : Nat) (hb : b ≤ 1) (hD : (D.toNat : Int) = ((X.toNat : Int) - Y.toNat - b) % 4294967296) :
    ((~~~X &&& Y) ||| (~~~(X ^^^ Y) &&& D)).toNat / 2147483648 = if X.toNat < Y.toNat + b then 1 else 0 := by
  have top : ∀ V : BitVec 32, V.toNat / 2147483648 = if V.msb then 1 else 0 := by
    intro V
    have := V.isLt
    rw [BitVec.msb_eq_decide]
    by_cases h : 2 ^ (32 - 1) ≤ V.toNat
    · simp only [h, decide_true, if_true]; omega
    · simp only [h, decide_false]; simp at h ⊢; omega
  rw [top]
  have hx := X.isLt
  have hy := Y.isLt
  have hd := D.isLt
  simp only [BitVec.msb_or, BitVec.msb_and, BitVec.msb_not, BitVec.msb_xor]
  rw [BitVec.msb_eq_decide, BitVec.msb_eq_decide, BitVec.msb_eq_decide]
  by_cases h1 : 2 ^ (32 - 1) ≤ X.toNat <;> by_cases h2 : 2 ^ (32 - 1) ≤ Y.toNat <;> by_cases h3 : 2 ^ (32 - 1) ≤ D.toNat <;> simp only [h1, h2, h3, decide_true, decide_false] <;> simp <;> simp at h1 h2 h3 <;> omega
end Go.Eng
end
section
set_option linter.unusedVariables false
set_option linter.unusedSimpArgs false
set_option linter.unusedSectionVars false
namespace Go.Eng
theorem lm_shift (n k j : Nat) : lm (n / 4294967296 ^ k) j = lm n (k + j) := by
  unfold lm; rw [Nat.div_div_eq_div_mul, ← Nat.pow_add]
theorem kn_step {front top d2 u2 q r qd B : Nat} (h : qd * (top * B + d2) ≤ front * B + u2) (hr : q * top + r = front) (hq : qd ≤ q) (hB : qd < B) (c : q ≥ B ∨ r * B + u2 < q * d2) : qd + 1 ≤ q := by
  rcases Nat.lt_or_ge qd q with g | g
  · exact g
  · have e : q = qd := by omega
    subst e
    rcases c with c | c
    · omega
    · rw [← hr, Nat.mul_add, Nat.add_mul, Nat.mul_assoc q top B] at h
      omega
theorem kn_end {front top d2 u2 q r dl P B : Nat} (hr : q * top + r = front) (c : q * d2 ≤ r * B + u2) (hq : q < B) (ht : 1 ≤ top) (hdl : dl < P) : (q - 1) * ((top * B + d2) * P + dl) ≤ (front * B + u2) * P := by
  rcases Nat.eq_zero_or_pos q with e | e
  · subst e; simp
  · obtain ⟨p, rfl⟩ : ∃ p, q = p + 1 := ⟨q - 1, by omega⟩
    rw [Nat.add_sub_cancel]
    have h1 : (p + 1) * (top * B + d2) ≤ front * B + u2 := by
      rw [← hr, Nat.mul_add, Nat.add_mul ((p + 1) * top), Nat.mul_assoc (p + 1) top B]; omega
    have h2 : (p + 1) * (top * B + d2) * P ≤ (front * B + u2) * P := Nat.mul_le_mul_right _ h1
    refine Nat.le_trans ?_ h2
    have h3 : p * dl ≤ (top * B + d2) * P := Nat.mul_le_mul (by have : 1 * B ≤ top * B := Nat.mul_le_mul_right _ ht; omega) (by omega)
    generalize top * B + d2 = X at *
    rw [Nat.mul_add, Nat.add_mul p 1 X, Nat.add_mul, Nat.one_mul, ← Nat.mul_assoc]
    omega
theorem kn_break {front top d2 u2 q r B : Nat} (hr : q * top + r = front) (hf : front < (top + 1) * B) (h : B ≤ r) (hd : d2 < B) : q < B ∧ q * d2 ≤ r * B + u2 := by
  have hq : q < B := by
    refine Nat.lt_of_not_le fun hle => ?_
    have : B * top ≤ q * top := Nat.mul_le_mul_right _ hle
    rw [Nat.add_mul, Nat.one_mul, Nat.mul_comm top] at hf
    omega
  refine ⟨hq, ?_⟩
  have h1 : q * d2 ≤ r * B := Nat.mul_le_mul (by omega) (by omega)
  omega
theorem kn_parts {n m : Nat} (h : n < 4294967296 ^ (m + 2)) : n = (lm n (m + 1) * 4294967296 + lm n m) * 4294967296 ^ m + n % 4294967296 ^ m := by
  have h1 := div_step n m
  have h2 := Nat.div_add_mod n (4294967296 ^ m)
  rw [h1, lm_top (j := m + 1) h] at *
  rw [← Nat.mul_comm] at h2
  rw [Nat.mul_comm (n / 4294967296 ^ (m + 1))]
  omega
theorem kn_front {n m : Nat} (h : n < 4294967296 ^ (m + 3)) : n = ((lm n (m + 2) * 4294967296 + lm n (m + 1)) * 4294967296 + lm n m) * 4294967296 ^ m + n % 4294967296 ^ m := by
  have h1 := div_step n m
  have h0 := div_step n (m + 1)
  have h2 := Nat.div_add_mod n (4294967296 ^ m)
  rw [← Nat.mul_comm, h1, h0, ← lm_top (j := m + 2) h] at h2
  rw [Nat.mul_comm (lm n (m + 2)), Nat.mul_comm _ 4294967296]
  omega
theorem kn_true {dv seg top d2 dl X u2 sl P B qd : Nat} (hd : dv = (top * B + d2) * P + dl) (hs : seg = (X * B + u2) * P + sl) (hsl : sl < P) (h : qd * dv ≤ seg) : qd * (top * B + d2) ≤ X * B + u2 := by
  refine Nat.le_of_not_lt fun hlt => ?_
  have h1 : (X * B + u2 + 1) * P ≤ qd * (top * B + d2) * P := Nat.mul_le_mul_right _ hlt
  rw [Nat.add_mul, Nat.one_mul] at h1
  have h2 : qd * (top * B + d2) * P ≤ qd * dv := by
    rw [hd, Nat.mul_assoc]; exact Nat.mul_le_mul_left _ (by omega)
  omega
theorem kn_lt {dv seg top d2 dl X u2 sl P B : Nat} (hd : dv = (top * B + d2) * P + dl) (hd2 : d2 < B) (hdl : dl < P) (hs : seg = (X * B + u2) * P + sl) (h : seg < dv * B) (hB : 0 < B) : X < (top + 1) * B := by
  refine Nat.lt_of_not_le fun hle => ?_
  have h0 : dv < (top + 1) * B * P := by
    rw [hd]
    have : (top * B + d2 + 1) * P ≤ (top + 1) * B * P := Nat.mul_le_mul_right _ (by rw [Nat.add_mul]; omega)
    rw [Nat.add_mul, Nat.one_mul] at this
    omega
  have h1 : dv * B ≤ (top + 1) * B * P * B := Nat.mul_le_mul_right _ (by omega)
  have h2 : (top + 1) * B * B * P ≤ (X * B + u2) * P := Nat.mul_le_mul_right _ (by
    have := Nat.mul_le_mul_right B hle; omega)
  have e : (top + 1) * B * P * B = (top + 1) * B * B * P := by rw [Nat.mul_assoc, Nat.mul_comm P B, ← Nat.mul_assoc]
  omega
theorem dig_lm (u dv k : Nat) (hd : 0 < dv) : (u % (dv * 4294967296 ^ (k + 1))) / 4294967296 ^ k / dv = lm (u / dv) k := by
  unfold lm
  rw [Nat.div_div_eq_div_mul, Nat.mul_comm _ dv, Nat.pow_succ, ← Nat.mul_assoc, Nat.mod_mul_right_div_self, ← Nat.div_div_eq_div_mul]
theorem dig_rest (u dv k : Nat) (hd : 0 < dv) : u % (dv * 4294967296 ^ k) = (u % (dv * 4294967296 ^ (k + 1))) - lm (u / dv) k * (dv * 4294967296 ^ k) := by
  have e : u % (dv * 4294967296 ^ (k + 1)) % (dv * 4294967296 ^ k) = u % (dv * 4294967296 ^ k) := by
    rw [Nat.pow_succ, ← Nat.mul_assoc, Nat.mod_mul_right_mod]
  rw [← e, ← dig_lm u dv k hd, Nat.div_div_eq_div_mul, Nat.mul_comm (4294967296 ^ k) dv]
  generalize u % (dv * 4294967296 ^ (k + 1)) = R
  have := Nat.div_add_mod R (dv * 4294967296 ^ k)
  rw [Nat.mul_comm] at this
  omega
theorem limb_byte {v c i : Nat} (hv : v < 256 ^ i) (hc : c < 256) :
    (∀ j, lm (v + 256 ^ i * c) j = if j = i / 4 then lm v (i / 4) + c * 2 ^ (8 * (i % 4)) else lm v j) ∧ lm v (i / 4) < 2 ^ (8 * (i % 4)) ∧ lm v (i / 4) + c * 2 ^ (8 * (i % 4)) < 4294967296 := by
  have e2 : 2 ^ (8 * (i % 4)) = 256 ^ (i % 4) := by rw [Nat.pow_mul]
  have ei : 256 ^ i = 4294967296 ^ (i / 4) * 256 ^ (i % 4) := by rw [← pow4, ← Nat.pow_add]; congr 1; omega
  have hW : 256 ^ (i % 4) * 256 ≤ 4294967296 := by
    have : i % 4 = 0 ∨ i % 4 = 1 ∨ i % 4 = 2 ∨ i % 4 = 3 := by omega
    rcases this with h | h | h | h <;> rw [h] <;> decide
  rw [e2]
  rw [ei] at hv ⊢
  generalize 256 ^ (i % 4) = W at *
  have hq : v / 4294967296 ^ (i / 4) < W := Nat.div_lt_of_lt_mul hv
  have hlq : lm v (i / 4) = v / 4294967296 ^ (i / 4) := by unfold lm; rw [Nat.mod_eq_of_lt (by omega)]
  have hb : v / 4294967296 ^ (i / 4) + c * W < 4294967296 := by
    have : (c + 1) * W ≤ 256 * W := Nat.mul_le_mul_right _ (by omega)
    rw [Nat.add_mul, Nat.one_mul] at this
    omega
  refine ⟨fun j => ?_, by rw [hlq]; exact hq, by rw [hlq]; exact hb⟩
  have es : v + 4294967296 ^ (i / 4) * W * c = v + W * c * 4294967296 ^ (i / 4) := by rw [Nat.mul_assoc, Nat.mul_comm]
  rcases Nat.lt_trichotomy j (i / 4) with g | g | g
  · rw [if_neg (by omega), es, lm_add_mul g]
  · rw [if_pos g, g, hlq]
    unfold lm
    rw [es, Nat.add_mul_div_right _ _ (pB _), Nat.mul_comm W c, Nat.mod_eq_of_lt hb]
  · rw [if_neg (by omega)]
    have h1 : v < 4294967296 ^ (i / 4 + 1) := by
      rw [Nat.pow_succ]
      exact Nat.lt_of_lt_of_le hv (Nat.mul_le_mul_left _ (by omega))
    have h2 : v + 4294967296 ^ (i / 4) * W * c < 4294967296 ^ (i / 4 + 1) := by
      have hd := Nat.div_add_mod v (4294967296 ^ (i / 4))
      have hm := Nat.mod_lt v (pB (i / 4))
      have : 4294967296 ^ (i / 4) * (v / 4294967296 ^ (i / 4) + c * W + 1) ≤ 4294967296 ^ (i / 4) * 4294967296 := Nat.mul_le_mul_left _ (by omega)
      rw [Nat.mul_add, Nat.mul_add, Nat.mul_one, ← Nat.mul_assoc, ← Nat.pow_succ] at this
      have e3 : 4294967296 ^ (i / 4) * c * W = 4294967296 ^ (i / 4) * W * c := by rw [Nat.mul_assoc, Nat.mul_comm c W, ← Nat.mul_assoc]
      omega
    rw [lm_of_lt' h1 (by omega), lm_of_lt' h2 (by omega)]
theorem byte_limb (n i k : Nat) (hk : k < 4) : lm n i / 2 ^ (8 * k) % 256 = n / 256 ^ (4 * i + k) % 256 := by
  have e2 : 2 ^ (8 * k) = 256 ^ k := by rw [Nat.pow_mul]
  rw [e2, Nat.pow_add, pow4, ← Nat.div_div_eq_div_mul]
  unfold lm
  have hk' : k = 0 ∨ k = 1 ∨ k = 2 ∨ k = 3 := by omega
  rcases hk' with h | h | h | h <;> subst h <;> simp only [Nat.pow_zero, Nat.reducePow] <;> omega
theorem byte_step (n p : Nat) : n % 256 ^ (p + 1) = n % 256 ^ p + 256 ^ p * (n / 256 ^ p % 256) := by
  rw [Nat.pow_succ, Nat.mod_mul]
theorem mod_add_cases (b c : Nat) {P : Nat} (hP : 0 < P) : c % P + b % P = (b + c) % P ∨ c % P + b % P = (b + c) % P + P := by
  rw [Nat.add_mod b c]
  have u1 := Nat.mod_lt b hP
  have u2 := Nat.mod_lt c hP
  generalize b % P = x at *
  generalize c % P = y at *
  by_cases g : x + y < P
  · rw [Nat.mod_eq_of_lt g]; omega
  · rw [Nat.mod_eq_sub_mod (by omega), Nat.mod_eq_of_lt (by omega)]; omega
theorem sub_mods {a b : Nat} (h : b ≤ a) (i : Nat) : (a - b) % 4294967296 ^ (i + 1) + b % 4294967296 ^ (i + 1) = a % 4294967296 ^ (i + 1) ∨ (a - b) % 4294967296 ^ (i + 1) + b % 4294967296 ^ (i + 1) = a % 4294967296 ^ (i + 1) + 4294967296 ^ (i + 1) := by
  obtain ⟨c, rfl⟩ : ∃ c, a = b + c := ⟨a - b, by omega⟩
  rw [Nat.add_sub_cancel_left]
  exact mod_add_cases b c (pB _)
end Go.Eng
end
section
set_option linter.unusedVariables false
set_option linter.unusedSimpArgs false
set_option linter.unusedSectionVars false
namespace Go.Eng
variable {P : Program} {E : Env}
theorem iota1 (n k N k' : Nat) : iotaE [(n, k)] N k' = if n = k' then some ⟨k, 0, []⟩ else if k' < N then some ⟨k', 0, []⟩ else none := by
  unfold iotaE
  by_cases h : n = k'
  · simp [h]
  · simp [h]
theorem iota2 (n k m l N k' : Nat) : iotaE [(n, k), (m, l)] N k' = if n = k' then some ⟨k, 0, []⟩ else if m = k' then some ⟨l, 0, []⟩ else if k' < N then some ⟨k', 0, []⟩ else none := by
  unfold iotaE
  by_cases h : n = k'
  · simp [h]
  · by_cases h2 : m = k'
    · simp [h, h2]
    · simp [h, h2]
theorem iota0 (N k' : Nat) : iotaE [] N k' = if k' < N then some ⟨k', 0, []⟩ else none := by
  simp [iotaE]
def vr1 (vf : Nat → Value) : Prop := ∀ (β : Emb) i j, β i = some ⟨j, 0, []⟩ → VR β (vf i) (vf j)
theorem vr1_sl (off len cap : Nat) : vr1 fun k => .slice (some ⟨k, off, none⟩) len cap := fun β i j h => .sl i off len cap ⟨j, 0, []⟩ h
theorem vr1_flat {v : Value} (h : flatV v = true) : vr1 fun _ => v := fun β i j _ => flatV_vr h
theorem vr1_pair {f g : Nat → Value} (hf : vr1 f) (hg : vr1 g) : vr1 fun k => .tuple ⟨[f k, g k]⟩ :=
  fun β i j h => .tup _ _ (.cons _ _ _ _ (hf β i j h) (.cons _ _ _ _ (hg β i j h) .nil))
def nwS (F : List Value → Heap → Option ((Nat → Value) × Blk)) : Spec := fun args h n => (F args h).map fun r => (r.1 n, [(n, some r.2)], 1)
def FinN (res : List IRes) (vf : Nat → Value) (b : Blk) (h : Heap) (N : Nat) (e : IExit) (s : St) : Prop :=
  isEnd e ∧ ∃ vs k x, resL s res = some vs ∧ one vs = vf k ∧ N ≤ k ∧ hget s.hp k = some ⟨b.elem, b.sz, x, b.cells⟩ ∧ ∀ k, k < N → hget s.hp k = hget h k
theorem nw_run (hE : EnvOK P E) (hm : P.follows .mixedOrders = true) {f : Nat} {nt : Nat} {res : List IRes} {c : ICode} (ht : trFun P f = some ⟨nt, res, c⟩) {F : List Value → Heap → Option ((Nat → Value) × Blk)}
    (mono : ∀ args h h' v, hle h h' → F args h = some v → F args h' = some v)
    (hrun : ∀ args vf b h N, F args h = some (vf, b) → (∀ k b, hget h k = some b → k < N) → b.x = false ∧ b.cells.all isBase = true ∧ vr1 vf ∧ args.length ≤ nt ∧ wpI E c (FinN res vf b h N) ⟨initT args, h, N + 0⟩) : SpecOK P f (nwS F) := by
  refine spec_ok hE hm ht ?_ ?_
  · intro args h h' n o hl e
    simp only [nwS, Option.map_eq_some_iff] at e ⊢
    obtain ⟨v, e1, e2⟩ := e
    exact ⟨v, mono args h h' v hl e1, e2⟩
  · intro args h n v δ m N e hn hN
    simp only [nwS, Option.map_eq_some_iff, Prod.mk.injEq] at e
    obtain ⟨⟨vf, b⟩, e1, rfl, rfl, rfl⟩ := e
    obtain ⟨hx, hb, hv, h2, h3⟩ := hrun args vf b h N e1 hN
    refine ⟨h2, wpI_mono _ ?_ h3⟩
    rintro e s ⟨he, vs, k, x, hvs, hvk, hNk, hk, hh⟩
    refine ⟨he, vs, hvs, [(n, k)], ?_, ?_, ?_, ?_⟩
    · intro p hp
      rw [List.mem_singleton] at hp; subst hp
      simp only; omega
    · rw [hvk]; exact hv _ n k (by rw [iota1, if_pos rfl])
    · intro k' blk e
      simp only [List.cons_append, List.nil_append, hget] at e
      by_cases c : n = k'
      · rw [if_pos c] at e; cases e
        refine .inr ⟨⟨k, 0, []⟩, _, by rw [iota1, if_pos c], hk, rfl, rfl, fun h => ?_, VRs.of_base hb⟩
        rw [hx] at h; cases h
      · rw [if_neg c] at e
        have hlt := hN k' blk e
        exact .inl ⟨hlt, e, by rw [hh k' hlt]; exact e⟩
    · intro k1 k2 L1 L2 a1 a2 b1 b2 e
      rw [iota1] at b1 b2
      by_cases c1 : n = k1
      · by_cases c2 : n = k2
        · omega
        · rw [if_pos c1] at b1; cases b1
          rw [if_neg c2] at b2
          by_cases c3 : k2 < N
          · rw [if_pos c3] at b2; cases b2; simp only at e; omega
          · rw [if_neg c3] at b2; cases b2
      · rw [if_neg c1] at b1
        by_cases c3 : k1 < N
        · rw [if_pos c3] at b1; cases b1
          by_cases c2 : n = k2
          · rw [if_pos c2] at b2; cases b2; simp only at e; omega
          · rw [if_neg c2] at b2
            by_cases c4 : k2 < N
            · rw [if_pos c4] at b2; cases b2; exact e
            · rw [if_neg c4] at b2; cases b2
        · rw [if_neg c3] at b1; cases b1
def vr2 (vf : Nat → Nat → Value) : Prop := ∀ (β : Emb) i j i' j', β i = some ⟨j, 0, []⟩ → β i' = some ⟨j', 0, []⟩ → VR β (vf i i') (vf j j')
def nw2S (F : List Value → Heap → Option ((Nat → Nat → Value) × Blk × Blk)) : Spec := fun args h n => (F args h).map fun r => (r.1 n (n + 1), [(n, some r.2.1), (n + 1, some r.2.2)], 2)
def Fin2 (res : List IRes) (vf : Nat → Nat → Value) (b b' : Blk) (h : Heap) (N : Nat) (e : IExit) (s : St) : Prop :=
  isEnd e ∧ ∃ vs k k' x x', resL s res = some vs ∧ one vs = vf k k' ∧ N ≤ k ∧ N ≤ k' ∧ k ≠ k' ∧ hget s.hp k = some ⟨b.elem, b.sz, x, b.cells⟩ ∧ hget s.hp k' = some ⟨b'.elem, b'.sz, x', b'.cells⟩ ∧ ∀ k, k < N → hget s.hp k = hget h k
theorem nw2_run (hE : EnvOK P E) (hm : P.follows .mixedOrders = true) {f : Nat} {nt : Nat} {res : List IRes} {c : ICode} (ht : trFun P f = some ⟨nt, res, c⟩) {F : List Value → Heap → Option ((Nat → Nat → Value) × Blk × Blk)}
    (mono : ∀ args h h' v, hle h h' → F args h = some v → F args h' = some v)
    (hrun : ∀ args vf b b' h N, F args h = some (vf, b, b') → (∀ k b, hget h k = some b → k < N) → b.x = false ∧ b'.x = false ∧ b.cells.all isBase = true ∧ b'.cells.all isBase = true ∧ vr2 vf ∧ args.length ≤ nt ∧ wpI E c (Fin2 res vf b b' h N) ⟨initT args, h, N + 0⟩) : SpecOK P f (nw2S F) := by
  refine spec_ok hE hm ht ?_ ?_
  · intro args h h' n o hl e
    simp only [nw2S, Option.map_eq_some_iff] at e ⊢
    obtain ⟨v, e1, e2⟩ := e
    exact ⟨v, mono args h h' v hl e1, e2⟩
  · intro args h n v δ m N e hn hN
    simp only [nw2S, Option.map_eq_some_iff, Prod.mk.injEq] at e
    obtain ⟨⟨vf, b, b'⟩, e1, rfl, rfl, rfl⟩ := e
    obtain ⟨hx, hx', hb, hb', hv, h2, h3⟩ := hrun args vf b b' h N e1 hN
    refine ⟨h2, wpI_mono _ ?_ h3⟩
    rintro e s ⟨he, vs, k, l, x, x', hvs, hvk, hNk, hNl, hkl, hk, hl, hh⟩
    refine ⟨he, vs, hvs, [(n, k), (n + 1, l)], ?_, ?_, ?_, ?_⟩
    · intro p hp
      rw [List.mem_cons, List.mem_singleton] at hp
      rcases hp with rfl | rfl
      · simp only; omega
      · simp only; omega
    · rw [hvk]; exact hv _ n k (n + 1) l (by rw [iota2, if_pos rfl]) (by rw [iota2, if_neg (by omega), if_pos rfl])
    · intro k' blk e
      simp only [List.cons_append, List.nil_append, hget] at e
      by_cases c : n = k'
      · rw [if_pos c] at e; cases e
        refine .inr ⟨⟨k, 0, []⟩, _, by rw [iota2, if_pos c], hk, rfl, rfl, fun h => ?_, VRs.of_base hb⟩
        rw [hx] at h; cases h
      · rw [if_neg c] at e
        by_cases c' : n + 1 = k'
        · rw [if_pos c'] at e; cases e
          refine .inr ⟨⟨l, 0, []⟩, _, by rw [iota2, if_neg c, if_pos c'], hl, rfl, rfl, fun h => ?_, VRs.of_base hb'⟩
          rw [hx'] at h; cases h
        · rw [if_neg c'] at e
          have hlt := hN k' blk e
          exact .inl ⟨hlt, e, by rw [hh k' hlt]; exact e⟩
    · have tell : ∀ k1 L1, iotaE [(n, k), (n + 1, l)] N k1 = some L1 → (k1 = n ∧ L1.b = k) ∨ (k1 = n + 1 ∧ L1.b = l) ∨ (k1 ≠ n ∧ k1 ≠ n + 1 ∧ L1.b = k1 ∧ k1 < N) := by
        intro k1 L1 b1
        rw [iota2] at b1
        by_cases c1 : n = k1
        · rw [if_pos c1] at b1; cases b1; exact .inl ⟨c1.symm, rfl⟩
        · rw [if_neg c1] at b1
          by_cases c2 : n + 1 = k1
          · rw [if_pos c2] at b1; cases b1; exact .inr (.inl ⟨c2.symm, rfl⟩)
          · rw [if_neg c2] at b1
            by_cases c3 : k1 < N
            · rw [if_pos c3] at b1; cases b1; exact .inr (.inr ⟨fun h => c1 h.symm, fun h => c2 h.symm, rfl, c3⟩)
            · rw [if_neg c3] at b1; cases b1
      intro k1 k2 L1 L2 a1 a2 b1 b2 e
      have t1 := tell k1 L1 b1
      have t2 := tell k2 L2 b2
      omega
def upS (F : List Value → Heap → Option (Value × Nat × Blk)) : Spec := fun args h n => (F args h).map fun r => (r.1, [(r.2.1, some r.2.2)], 0)
def FinU (res : List IRes) (v : Value) (k : Nat) (b : Blk) (h : Heap) (N : Nat) (e : IExit) (s : St) : Prop :=
  isEnd e ∧ ∃ vs, resL s res = some vs ∧ one vs = v ∧ hget s.hp k = some b ∧ ∀ k', k' < N → k' ≠ k → hget s.hp k' = hget h k'
theorem up_run (hE : EnvOK P E) (hm : P.follows .mixedOrders = true) {f : Nat} {nt : Nat} {res : List IRes} {c : ICode} (ht : trFun P f = some ⟨nt, res, c⟩) {F : List Value → Heap → Option (Value × Nat × Blk)}
    (mono : ∀ args h h' v, hle h h' → F args h = some v → F args h' = some v)
    (hrun : ∀ args v k b h N, F args h = some (v, k, b) → (∀ k b, hget h k = some b → k < N) → k < N ∧ b.cells.all isBase = true ∧ flatW v = true ∧ args.length ≤ nt ∧ wpI E c (FinU res v k b h N) ⟨initT args, h, N + 0⟩) : SpecOK P f (upS F) := by
  refine spec_ok hE hm ht ?_ ?_
  · intro args h h' n o hl e
    simp only [upS, Option.map_eq_some_iff] at e ⊢
    obtain ⟨v, e1, e2⟩ := e
    exact ⟨v, mono args h h' v hl e1, e2⟩
  · intro args h n v δ m N e hn hN
    simp only [upS, Option.map_eq_some_iff, Prod.mk.injEq] at e
    obtain ⟨⟨v0, k, b⟩, e1, rfl, rfl, rfl⟩ := e
    obtain ⟨hk, hb, hv, h2, h3⟩ := hrun args v0 k b h N e1 hN
    refine ⟨h2, wpI_mono _ ?_ h3⟩
    rintro e s ⟨he, vs, hvs, hvk, hbk, hh⟩
    refine ⟨he, vs, hvs, [], fun p hp => (by simp at hp), by rw [hvk]; exact flatW_vr hv, ?_, ?_⟩
    · intro k' blk e
      simp only [List.cons_append, List.nil_append, hget] at e
      by_cases c : k = k'
      · rw [if_pos c] at e; cases e
        refine .inr ⟨⟨k, 0, []⟩, b, by rw [iota0, if_pos (by omega), c], hbk, rfl, rfl, id, VRs.of_base hb⟩
      · rw [if_neg c] at e
        have hlt := hN k' blk e
        exact .inl ⟨hlt, e, by rw [hh k' hlt (fun e => c e.symm)]; exact e⟩
    · intro k1 k2 L1 L2 a1 a2 b1 b2 e
      rw [iota0] at b1 b2
      by_cases c1 : k1 < N
      · by_cases c2 : k2 < N
        · rw [if_pos c1] at b1; rw [if_pos c2] at b2
          cases b1; cases b2; exact e
        · rw [if_neg c2] at b2; cases b2
      · rw [if_neg c1] at b1; cases b1
theorem a_call2 {tm : List (Nat × Value)} {hp : Heap} {N k d : Nat} {v : Value} {x y : Nat × Option Blk} {K : St → Prop} :
    @aft (some d) (some (v, [x, y], 2)) ⟨(⟨tm, hp, N + k⟩, K)⟩ = K ⟨(d, v) :: tm, x :: y :: hp, N + (k + 2)⟩ := propext Iff.rfl
def shows (h : Heap) : Value → Option (List Value)
  | .slice (some ⟨k, off, none⟩) len _ => match hget h k with
    | some blk => if off + len ≤ blk.cells.length then some ((blk.cells.drop off).take len) else none
    | none => none
  | _ => none
theorem shows_mono {h h' : Heap} {v : Value} {cs : List Value} (hl : hle h h') (e : shows h v = some cs) : shows h' v = some cs := by
  unfold shows at e ⊢
  split at e
  · split at e
    · rename_i blk hb
      simp only [hl _ _ hb]; exact e
    · cases e
  · cases e
theorem shows_inv {h : Heap} {v : Value} {cs : List Value} (e : shows h v = some cs) : ∃ k off len cap blk, v = .slice (some ⟨k, off, none⟩) len cap ∧ hget h k = some blk ∧ off + len ≤ blk.cells.length ∧ cs = (blk.cells.drop off).take len ∧ cs.length = len := by
  unfold shows at e
  split at e
  · rename_i k off len cap
    split at e
    · rename_i blk hb
      split at e
      · rename_i hl
        cases e
        refine ⟨k, off, len, cap, blk, rfl, hb, hl, rfl, ?_⟩
        rw [List.length_take, List.length_drop]; omega
      · cases e
    · cases e
  · cases e
end Go.Eng
end
section
set_option linter.unusedVariables false
set_option linter.unusedSimpArgs false
set_option linter.unusedSectionVars false
set_option maxRecDepth 4000
namespace Go.Eng
open Go Go.Proofs Go.IntWalk
def spTrB : List Value → Option Value
  | [.string ⟨⟨l⟩⟩, .int .u8 0] => if l.length ≤ 1099511627776 then some (.string ⟨⟨bl (nl l)⟩⟩) else none
  | _ => none
def c141 : ICode :=
  (.seq (.reg [⟨(some 4), none, (.mv (.c (.string ⟨⟨[]⟩⟩)))⟩])
  (.seq (.block 0 (.loop (.seq (.seq (.reg [⟨(some 5), none, (.mv (.t 0))⟩, ⟨(some 6), none, (.lens (.t 5))⟩, ⟨(some 7), none, (.bin .gtr (.t 6) (.c (.int .i64 0)))⟩, ⟨(some 8), none, (.mv (.t 7))⟩, ⟨(some 9), (some (8, true)), (.mv (.t 0))⟩, ⟨(some 10), (some (8, true)), (.mv (.t 0))⟩, ⟨(some 11), (some (8, true)), (.lens (.t 10))⟩, ⟨(some 12), (some (8, true)), (.bin .sub (.t 11) (.c (.int .i64 1)))⟩, ⟨(some 13), (some (8, true)), (.idstr (.t 9) (.t 12))⟩, ⟨(some 14), (some (8, true)), (.mv (.t 1))⟩, ⟨(some 15), (some (8, true)), (.bin .eql (.t 13) (.t 14))⟩, ⟨(some 16), none, (.pick (.t 8) (.t 15) (.c (.bool false)))⟩])
  (.cond (.t 16)
  .skip
  (.exit 0)))
  (.block 1 (.reg [⟨(some 17), none, (.mv (.t 0))⟩, ⟨(some 18), none, (.mv (.t 0))⟩, ⟨(some 19), none, (.lens (.t 18))⟩, ⟨(some 20), none, (.bin .sub (.t 19) (.c (.int .i64 1)))⟩, ⟨(some 21), none, (.slstr (.t 17) none (some (.t 20)))⟩, ⟨(some 0), none, (.mv (.t 21))⟩])))))
  (.seq (.reg [⟨(some 22), none, (.mv (.t 0))⟩, ⟨(some 4), none, (.mv (.t 22))⟩])
  .ret)))
theorem tr141 : trFun Tryz.prog 141 = some ⟨23, [.t 4], c141⟩ := by kernel_rfl
theorem ok_trB : SpecOK Tryz.prog 141 (flat spTrB) := by
  refine flat_run (env_nil _) mixed tr141 ?_
  intro args v h N hG
  unfold spTrB at hG
  split at hG
  case h_2 => cases hG
  rename_i l
  split at hG
  case isFalse => cases hG
  rename_i hl
  cases hG
  refine ⟨rfl, by simp, ?_⟩
  simp only [c141, initT, List.zipIdx_cons, List.zipIdx_nil, List.map_cons, List.map_nil, Nat.reduceAdd]
  simp only [↓R0, R1, rdL, rdH, isCall, istep, ibin, vcells, fillI, setR, flat, okCell, isBase, List.set, List.drop, List.take, List.append, bnds, bhi, blo, srcOf, ↓reduceIte, Nat.reduceEqDiff, Nat.reduceAdd, Nat.reduceLeDiff, reduceCtorEq, Nat.reduceSub, Int.reduceEq, Int.reduceLT, Int.reduceLE, Int.reduceGT, Int.reduceGE, Int.reduceSub, Int.reduceAdd, Int.reduceMul, Int.reduceNe, Int.reduceNeg, Int.reduceToNat, Nat.reduceMul]
  refine lp_parts (fun n tm hp nx => tmget tm 0 = .string ⟨⟨l.take n⟩⟩ ∧ tmget tm 1 = .int .u8 0 ∧ n ≤ l.length ∧ (∀ i, n ≤ i → i < l.length → l[i]? = some 0) ∧ hp = h ∧ nx = N + 0) ?_ l.length ⟨?_, ?_, Nat.le_refl _, fun i h1 h2 => by omega, rfl, rfl⟩
  · intro n tm hp nx ⟨h0, h1, hn, hz, rfl, rfl⟩
    have hlen : (l.take n).length = n := by rw [List.length_take]; omega
    simp only [↓R0, R1, rdL, rdH, isCall, istep, ibin, vcells, fillI, setR, flat, okCell, isBase, List.set, List.drop, List.take, List.append, bnds, bhi, blo, srcOf, ↓reduceIte, Nat.reduceEqDiff, Nat.reduceAdd, Nat.reduceLeDiff, reduceCtorEq, Nat.reduceSub, Int.reduceEq, Int.reduceLT, Int.reduceLE, Int.reduceGT, Int.reduceGE, Int.reduceSub, Int.reduceAdd, Int.reduceMul, Int.reduceNe, Int.reduceNeg, Int.reduceToNat, Nat.reduceMul, h0, h1, hlen]
    by_cases hb : 0 < n
    · obtain ⟨n, rfl⟩ : ∃ n', n = n' + 1 := ⟨n - 1, by omega⟩
      have e1 : IntKind.i64.wrap (((n + 1 : Nat) : Int) - 1) = (n : Int) := by rw [i64_in _ (by omega)]; omega
      obtain ⟨b, hbb⟩ : ∃ b, l[n]? = some b := ⟨_, List.getElem?_eq_getElem (by omega)⟩
      have ht : (l.take (n + 1))[n]? = some b := by rw [List.getElem?_take, if_pos (by omega), hbb]
      have ht2 : (l.take (n + 1)).take n = l.take n := by rw [List.take_take]; congr 1; omega
      have hb2 : (((n + 1 : Nat) : Int) > 0) = True := eq_true (by omega)
      have hb3 : n ≤ n + 1 := by omega
      simp only [↓R0, R1, rdL, rdH, isCall, istep, ibin, vcells, fillI, setR, flat, okCell, isBase, List.set, List.drop, List.take, List.append, bnds, bhi, blo, srcOf, ↓reduceIte, Nat.reduceEqDiff, Nat.reduceAdd, Nat.reduceLeDiff, reduceCtorEq, Nat.reduceSub, Int.reduceEq, Int.reduceLT, Int.reduceLE, Int.reduceGT, Int.reduceGE, Int.reduceSub, Int.reduceAdd, Int.reduceMul, Int.reduceNe, Int.reduceNeg, Int.reduceToNat, Nat.reduceMul, h0, h1, hb2, hlen, e1, ht]
      refine cd_case (fun hc => ?_) (fun hc => ?_)
      · simp only [↓R0, R1, rdL, rdH, isCall, istep, ibin, vcells, fillI, setR, flat, okCell, isBase, List.set, List.drop, List.take, List.append, bnds, bhi, blo, srcOf, ↓reduceIte, Nat.reduceEqDiff, Nat.reduceAdd, Nat.reduceLeDiff, reduceCtorEq, Nat.reduceSub, Int.reduceEq, Int.reduceLT, Int.reduceLE, Int.reduceGT, Int.reduceGE, Int.reduceSub, Int.reduceAdd, Int.reduceMul, Int.reduceNe, Int.reduceNeg, Int.reduceToNat, Nat.reduceMul, h0, h1, e1, hlen, hb3, ht2]
        refine ⟨n, by omega, rfl, by omega, fun i h1 h2 => ?_⟩
        by_cases e : i = n
        · subst e; rw [hbb]; congr 1; apply UInt8.toNat_inj.1; simp at hc ⊢; omega
        · exact hz i (by omega) h2
      · simp only [↓R0, R1, rdL, rdH, isCall, istep, ibin, vcells, fillI, setR, flat, okCell, isBase, List.set, List.drop, List.take, List.append, bnds, bhi, blo, srcOf, ↓reduceIte, Nat.reduceEqDiff, Nat.reduceAdd, Nat.reduceLeDiff, reduceCtorEq, Nat.reduceSub, Int.reduceEq, Int.reduceLT, Int.reduceLE, Int.reduceGT, Int.reduceGE, Int.reduceSub, Int.reduceAdd, Int.reduceMul, Int.reduceNe, Int.reduceNeg, Int.reduceToNat, Nat.reduceMul, h0]
        refine fin_t trivial ?_ (fun k hk => rfl)
        simp only [↓R0, R1, rdL, rdH, isCall, istep, ibin, vcells, fillI, setR, flat, okCell, isBase, List.set, List.drop, List.take, List.append, bnds, bhi, blo, srcOf, ↓reduceIte, Nat.reduceEqDiff, Nat.reduceAdd, Nat.reduceLeDiff, reduceCtorEq, Nat.reduceSub, Int.reduceEq, Int.reduceLT, Int.reduceLE, Int.reduceGT, Int.reduceGE, Int.reduceSub, Int.reduceAdd, Int.reduceMul, Int.reduceNe, Int.reduceNeg, Int.reduceToNat, Nat.reduceMul, h0]
        rw [take_norm hn hz (.inr ⟨b, hbb, fun e => by subst e; simp at hc⟩)]
    · have e : n = 0 := by omega
      subst e
      simp only [↓R0, R1, rdL, rdH, isCall, istep, ibin, vcells, fillI, setR, flat, okCell, isBase, List.set, List.drop, List.take, List.append, bnds, bhi, blo, srcOf, ↓reduceIte, Nat.reduceEqDiff, Nat.reduceAdd, Nat.reduceLeDiff, reduceCtorEq, Nat.reduceSub, Int.reduceEq, Int.reduceLT, Int.reduceLE, Int.reduceGT, Int.reduceGE, Int.reduceSub, Int.reduceAdd, Int.reduceMul, Int.reduceNe, Int.reduceNeg, Int.reduceToNat, Nat.reduceMul, h0, Int.natCast_zero]
      refine fin_t trivial ?_ (fun k hk => rfl)
      simp only [↓R0, R1, rdL, rdH, isCall, istep, ibin, vcells, fillI, setR, flat, okCell, isBase, List.set, List.drop, List.take, List.append, bnds, bhi, blo, srcOf, ↓reduceIte, Nat.reduceEqDiff, Nat.reduceAdd, Nat.reduceLeDiff, reduceCtorEq, Nat.reduceSub, Int.reduceEq, Int.reduceLT, Int.reduceLE, Int.reduceGT, Int.reduceGE, Int.reduceSub, Int.reduceAdd, Int.reduceMul, Int.reduceNe, Int.reduceNeg, Int.reduceToNat, Nat.reduceMul, h0]
      have := take_norm hn hz (.inl rfl)
      rw [List.take_zero] at this
      rw [← this]
  · simp only [↓R0, R1, rdL, rdH, isCall, istep, ibin, vcells, fillI, setR, flat, okCell, isBase, List.set, List.drop, List.take, List.append, bnds, bhi, blo, srcOf, ↓reduceIte, Nat.reduceEqDiff, Nat.reduceAdd, Nat.reduceLeDiff, reduceCtorEq, Nat.reduceSub, Int.reduceEq, Int.reduceLT, Int.reduceLE, Int.reduceGT, Int.reduceGE, Int.reduceSub, Int.reduceAdd, Int.reduceMul, Int.reduceNe, Int.reduceNeg, Int.reduceToNat, Nat.reduceMul, List.take_length]
  · simp only [↓R0, R1, rdL, rdH, isCall, istep, ibin, vcells, fillI, setR, flat, okCell, isBase, List.set, List.drop, List.take, List.append, bnds, bhi, blo, srcOf, ↓reduceIte, Nat.reduceEqDiff, Nat.reduceAdd, Nat.reduceLeDiff, reduceCtorEq, Nat.reduceSub, Int.reduceEq, Int.reduceLT, Int.reduceLE, Int.reduceGT, Int.reduceGE, Int.reduceSub, Int.reduceAdd, Int.reduceMul, Int.reduceNe, Int.reduceNeg, Int.reduceToNat, Nat.reduceMul]
def spTrR : List Value → Option Value
  | [.string ⟨⟨l⟩⟩, .string ⟨⟨[0]⟩⟩] => if l.length ≤ 1099511627776 then some (.string ⟨⟨bl (nl l)⟩⟩) else none
  | _ => none
def c133 : ICode :=
  (.seq (.reg [⟨(some 4), none, (.mv (.c (.string ⟨⟨[]⟩⟩)))⟩])
  (.seq (.seq (.reg [⟨(some 7), none, (.mv (.t 0))⟩, ⟨(some 8), none, (.bin .eql (.t 7) (.c (.string ⟨⟨[]⟩⟩)))⟩, ⟨(some 9), none, (.mv (.t 8))⟩, ⟨(some 10), (some (9, false)), (.mv (.t 1))⟩, ⟨(some 11), (some (9, false)), (.bin .eql (.t 10) (.c (.string ⟨⟨[]⟩⟩)))⟩, ⟨(some 12), none, (.pick (.t 9) (.c (.bool true)) (.t 11))⟩])
  (.cond (.t 12)
  (.seq (.reg [⟨(some 13), none, (.mv (.t 0))⟩, ⟨(some 4), none, (.mv (.t 13))⟩])
  .ret)
  .skip))
  (.seq (.seq (.reg [⟨(some 14), none, (.mv (.t 1))⟩, ⟨(some 15), none, (.lens (.t 14))⟩, ⟨(some 16), none, (.bin .eql (.t 15) (.c (.int .i64 1)))⟩, ⟨(some 17), none, (.mv (.t 16))⟩, ⟨(some 18), (some (17, true)), (.mv (.t 1))⟩, ⟨(some 19), (some (17, true)), (.idstr (.t 18) (.c (.int .i64 0)))⟩, ⟨(some 20), (some (17, true)), (.bin .lss (.t 19) (.c (.int .u8 128)))⟩, ⟨(some 21), none, (.pick (.t 17) (.t 20) (.c (.bool false)))⟩])
  (.cond (.t 21)
  (.seq (.reg [⟨(some 22), none, (.mv (.t 0))⟩, ⟨(some 23), none, (.mv (.t 1))⟩, ⟨(some 24), none, (.idstr (.t 23) (.c (.int .i64 0)))⟩, ⟨(some 25), none, (.call 141 [(.t 22), (.t 24)])⟩, ⟨(some 4), none, (.mv (.t 25))⟩])
  .ret)
  .skip))
  (.seq (.seq (.reg [⟨(some 27), none, (.mv (.t 1))⟩, ⟨(some 28), none, (.call 142 [(.t 27)])⟩, ⟨(some 26), none, (.mv (.t 28))⟩, ⟨(some 29), none, (.ext (.t 26) 0)⟩, ⟨(some 30), none, (.ext (.t 26) 1)⟩, ⟨(some 5), none, (.alloc 142 256 [(.bool false), (.bool false), (.bool false), (.bool false), (.bool false), (.bool false), (.bool false), (.bool false), (.bool false), (.bool false), (.bool false), (.bool false), (.bool false), (.bool false), (.bool false), (.bool false), (.bool false), (.bool false), (.bool false), (.bool false), (.bool false), (.bool false), (.bool false), (.bool false), (.bool false), (.bool false), (.bool false), (.bool false), (.bool false), (.bool false), (.bool false), (.bool false), (.bool false), (.bool false), (.bool false), (.bool false), (.bool false), (.bool false), (.bool false), (.bool false), (.bool false), (.bool false), (.bool false), (.bool false), (.bool false), (.bool false), (.bool false), (.bool false), (.bool false), (.bool false), (.bool false), (.bool false), (.bool false), (.bool false), (.bool false), (.bool false), (.bool false), (.bool false), (.bool false), (.bool false), (.bool false), (.bool false), (.bool false), (.bool false), (.bool false), (.bool false), (.bool false), (.bool false), (.bool false), (.bool false), (.bool false), (.bool false), (.bool false), (.bool false), (.bool false), (.bool false), (.bool false), (.bool false), (.bool false), (.bool false), (.bool false), (.bool false), (.bool false), (.bool false), (.bool false), (.bool false), (.bool false), (.bool false), (.bool false), (.bool false), (.bool false), (.bool false), (.bool false), (.bool false), (.bool false), (.bool false), (.bool false), (.bool false), (.bool false), (.bool false), (.bool false), (.bool false), (.bool false), (.bool false), (.bool false), (.bool false), (.bool false), (.bool false), (.bool false), (.bool false), (.bool false), (.bool false), (.bool false), (.bool false), (.bool false), (.bool false), (.bool false), (.bool false), (.bool false), (.bool false), (.bool false), (.bool false), (.bool false), (.bool false), (.bool false), (.bool false), (.bool false), (.bool false), (.bool false), (.bool false), (.bool false), (.bool false), (.bool false), (.bool false), (.bool false), (.bool false), (.bool false), (.bool false), (.bool false), (.bool false), (.bool false), (.bool false), (.bool false), (.bool false), (.bool false), (.bool false), (.bool false), (.bool false), (.bool false), (.bool false), (.bool false), (.bool false), (.bool false), (.bool false), (.bool false), (.bool false), (.bool false), (.bool false), (.bool false), (.bool false), (.bool false), (.bool false), (.bool false), (.bool false), (.bool false), (.bool false), (.bool false), (.bool false), (.bool false), (.bool false), (.bool false), (.bool false), (.bool false), (.bool false), (.bool false), (.bool false), (.bool false), (.bool false), (.bool false), (.bool false), (.bool false), (.bool false), (.bool false), (.bool false), (.bool false), (.bool false), (.bool false), (.bool false), (.bool false), (.bool false), (.bool false), (.bool false), (.bool false), (.bool false), (.bool false), (.bool false), (.bool false), (.bool false), (.bool false), (.bool false), (.bool false), (.bool false), (.bool false), (.bool false), (.bool false), (.bool false), (.bool false), (.bool false), (.bool false), (.bool false), (.bool false), (.bool false), (.bool false), (.bool false), (.bool false), (.bool false), (.bool false), (.bool false), (.bool false), (.bool false), (.bool false), (.bool false), (.bool false), (.bool false), (.bool false), (.bool false), (.bool false), (.bool false), (.bool false), (.bool false), (.bool false), (.bool false), (.bool false), (.bool false), (.bool false), (.bool false), (.bool false), (.bool false), (.bool false), (.bool false), (.bool false), (.bool false), (.bool false), (.bool false), (.bool false), (.bool false), (.bool false), (.bool false), (.bool false), (.bool false), (.bool false), (.bool false), (.bool false), (.bool false), (.bool false), (.bool false)])⟩, ⟨none, none, (.store 256 (.t 5) (.t 29))⟩, ⟨(some 6), none, (.mv (.t 30))⟩])
  (.seq (.reg [⟨(some 31), none, (.mv (.t 6))⟩])
  (.cond (.t 31)
  (.seq (.reg [⟨(some 32), none, (.mv (.t 0))⟩, ⟨(some 33), none, (.call 143 [(.t 32), (.t 5)])⟩, ⟨(some 4), none, (.mv (.t 33))⟩])
  .ret)
  .skip)))
  (.seq (.reg [⟨(some 34), none, (.mv (.t 0))⟩, ⟨(some 35), none, (.mv (.t 1))⟩, ⟨(some 36), none, (.call 144 [(.t 34), (.t 35)])⟩, ⟨(some 4), none, (.mv (.t 36))⟩])
  .ret)))))
theorem tr133 : trFun Tryz.prog 133 = some ⟨37, [.t 4], c133⟩ := by kernel_rfl
theorem ok_trR : SpecOK Tryz.prog 133 (flat spTrR) := by
  refine flat_run (env_cons ok_trB (env_nil _)) mixed tr133 ?_
  intro args v h N hG
  unfold spTrR at hG
  split at hG
  case h_2 => cases hG
  rename_i l
  split at hG
  case isFalse => cases hG
  rename_i hl
  cases hG
  refine ⟨rfl, by simp, ?_⟩
  simp only [c133, initT, List.zipIdx_cons, List.zipIdx_nil, List.map_cons, List.map_nil, Nat.reduceAdd]
  by_cases e : l = []
  · subst e
    have : bl (nl []) = [] := by simp [nl, bl_zero]
    rw [this]
    simp only [↓R0, R1, rdL, rdH, isCall, istep, ibin, vcells, fillI, setR, flat, okCell, isBase, List.set, List.drop, List.take, List.append, bnds, bhi, blo, srcOf, ↓reduceIte, Nat.reduceEqDiff, Nat.reduceAdd, Nat.reduceLeDiff, reduceCtorEq, Nat.reduceSub, Int.reduceEq, Int.reduceLT, Int.reduceLE, Int.reduceGT, Int.reduceGE, Int.reduceSub, Int.reduceAdd, Int.reduceMul, Int.reduceNe, Int.reduceNeg, Int.reduceToNat, Nat.reduceMul, Fin, isEnd, resL, res1, iE, rE]
    exact ⟨_, rfl, rfl, fun k hk => by simp only [ne_nb hk, if_false]⟩
  · have e' : ¬ (l = ([] : List UInt8)) := e
    have z0 : ((0 : UInt8).toNat : Int) = 0 := rfl
    simp only [↓R0, R1, rdL, rdH, isCall, istep, ibin, vcells, fillI, setR, flat, okCell, isBase, List.set, List.drop, List.take, List.append, bnds, bhi, blo, srcOf, ↓reduceIte, Nat.reduceEqDiff, Nat.reduceAdd, Nat.reduceLeDiff, reduceCtorEq, Nat.reduceSub, Int.reduceEq, Int.reduceLT, Int.reduceLE, Int.reduceGT, Int.reduceGE, Int.reduceSub, Int.reduceAdd, Int.reduceMul, Int.reduceNe, Int.reduceNeg, Int.reduceToNat, Nat.reduceMul, e', spTrB, hl, z0, List.cons_ne_nil, Fin, isEnd, resL, res1, iE, rE]
    exact ⟨_, rfl, rfl, fun k hk => by simp only [ne_nb hk, if_false]⟩
def spNNorm : List Value → Option Value
  | [.string ⟨⟨l⟩⟩] => if l.length ≤ 1099511627776 then some (.string ⟨⟨bl (nl l)⟩⟩) else none
  | _ => none
def c108 : ICode :=
  (.seq (.reg [⟨(some 2), none, (.mv (.c (.string ⟨⟨[]⟩⟩)))⟩])
  (.seq (.reg [⟨(some 3), none, (.mv (.t 0))⟩, ⟨(some 4), none, (.call 133 [(.t 3), (.c (.string ⟨⟨[0]⟩⟩))])⟩, ⟨(some 2), none, (.mv (.t 4))⟩])
  .ret))
theorem tr108 : trFun Tryz.prog 108 = some ⟨5, [.t 2], c108⟩ := by kernel_rfl
theorem ok_nNorm : SpecOK Tryz.prog 108 (flat spNNorm) := by
  refine flat_run (env_cons ok_trR (env_nil _)) mixed tr108 ?_
  intro args v h N hG
  unfold spNNorm at hG
  split at hG
  case h_2 => cases hG
  rename_i l
  split at hG
  case isFalse => cases hG
  rename_i hl
  cases hG
  refine ⟨rfl, by simp, ?_⟩
  simp only [c108, initT, List.zipIdx_cons, List.zipIdx_nil, List.map_cons, List.map_nil, Nat.reduceAdd]
  simp only [↓R0, R1, rdL, rdH, isCall, istep, ibin, vcells, fillI, setR, flat, okCell, isBase, List.set, List.drop, List.take, List.append, bnds, bhi, blo, srcOf, ↓reduceIte, Nat.reduceEqDiff, Nat.reduceAdd, Nat.reduceLeDiff, reduceCtorEq, Nat.reduceSub, Int.reduceEq, Int.reduceLT, Int.reduceLE, Int.reduceGT, Int.reduceGE, Int.reduceSub, Int.reduceAdd, Int.reduceMul, Int.reduceNe, Int.reduceNeg, Int.reduceToNat, Nat.reduceMul, spTrR, hl, Fin, isEnd, resL, res1, iE, rE]
  exact ⟨_, rfl, rfl, fun k hk => by simp only [ne_nb hk, if_false]⟩
end Go.Eng
end
section
set_option linter.unusedVariables false
set_option linter.unusedSimpArgs false
set_option linter.unusedSectionVars false
set_option maxRecDepth 4000
namespace Go.Eng
open Go Go.Proofs Go.IntWalk
def spAdd32 : List Value → Option Value
  | [.int .u32 x, .int .u32 y, .int .u32 c] => if 0 ≤ x ∧ x < 4294967296 ∧ 0 ≤ y ∧ y < 4294967296 ∧ 0 ≤ c ∧ c ≤ 1 then some (.tuple ⟨[.int .u32 ((x + y + c) % 4294967296), .int .u32 ((x + y + c) / 4294967296)]⟩) else none
  | _ => none
def c122 : ICode :=
  (.seq (.reg [⟨(some 6), none, (.mv (.c (.int .u32 0)))⟩, ⟨(some 7), none, (.mv (.c (.int .u32 0)))⟩])
  (.seq (.reg [⟨(some 9), none, (.mv (.t 0))⟩, ⟨(some 10), none, (.conv .u64 (.t 9))⟩, ⟨(some 11), none, (.mv (.t 1))⟩, ⟨(some 12), none, (.conv .u64 (.t 11))⟩, ⟨(some 13), none, (.bin .add (.t 10) (.t 12))⟩, ⟨(some 14), none, (.mv (.t 2))⟩, ⟨(some 15), none, (.conv .u64 (.t 14))⟩, ⟨(some 16), none, (.bin .add (.t 13) (.t 15))⟩, ⟨(some 8), none, (.mv (.t 16))⟩])
  (.seq (.reg [⟨(some 17), none, (.mv (.t 8))⟩, ⟨(some 18), none, (.conv .u32 (.t 17))⟩, ⟨(some 6), none, (.mv (.t 18))⟩])
  (.seq (.reg [⟨(some 19), none, (.mv (.t 8))⟩, ⟨(some 20), none, (.bin .shr (.t 19) (.c (.int .u64 32)))⟩, ⟨(some 21), none, (.conv .u32 (.t 20))⟩, ⟨(some 7), none, (.mv (.t 21))⟩])
  .ret))))
theorem tr122 : trFun Tryz.prog 122 = some ⟨22, [.t 6, .t 7], c122⟩ := by kernel_rfl
theorem ok_add32 : SpecOK Tryz.prog 122 (flat spAdd32) := by
  refine flat_run (env_nil _) mixed tr122 ?_
  intro args v h N hG
  unfold spAdd32 at hG
  split at hG
  case h_2 => cases hG
  rename_i x y c
  split at hG
  case isFalse => cases hG
  rename_i hl
  cases hG
  refine ⟨rfl, by simp, ?_⟩
  have w64 : ∀ z : Int, 0 ≤ z → z < 18446744073709551616 → IntKind.u64.wrap z = z := fun z h1 h2 => u64_in z ⟨h1, by omega⟩
  have w1 := w64 x (by omega) (by omega)
  have w2 := w64 y (by omega) (by omega)
  have w3 := w64 c (by omega) (by omega)
  have w4 := w64 (x + y) (by omega) (by omega)
  have w5 := w64 (x + y + c) (by omega) (by omega)
  have s1 : IntKind.u32.wrap ((x + y + c).fdiv (2 ^ min 32 IntKind.u64.bits)) = (x + y + c) / 4294967296 := by
    have : (2 : Int) ^ min 32 IntKind.u64.bits = 4294967296 := rfl
    rw [this, Int.fdiv_eq_ediv_of_nonneg _ (by omega), u32_int]; omega
  have s2 := u32_int (x + y + c)
  simp only [c122, initT, List.zipIdx_cons, List.zipIdx_nil, List.map_cons, List.map_nil, Nat.reduceAdd]
  simp only [↓R0, R1, rdL, rdH, isCall, istep, ibin, vcells, fillI, setR, flat, okCell, isBase, List.set, List.drop, List.take, List.append, bnds, bhi, blo, srcOf, ↓reduceIte, Nat.reduceEqDiff, Nat.reduceAdd, Nat.reduceLeDiff, reduceCtorEq, Nat.reduceSub, Int.reduceEq, Int.reduceLT, Int.reduceLE, Int.reduceGT, Int.reduceGE, Int.reduceSub, Int.reduceAdd, Int.reduceMul, Int.reduceNe, Int.reduceNeg, Int.reduceToNat, Nat.reduceMul, w1, w2, w3, w4, w5, s1, s2, Fin, isEnd, resL, res1, iE, rE]
  exact ⟨_, rfl, rfl, fun k hk => by simp only [ne_nb hk, if_false]⟩
def spSub32 : List Value → Option Value
  | [.int .u32 x, .int .u32 y, .int .u32 c] => if 0 ≤ x ∧ x < 4294967296 ∧ 0 ≤ y ∧ y < 4294967296 ∧ 0 ≤ c ∧ c ≤ 1 then some (.tuple ⟨[.int .u32 ((x - y - c) % 4294967296), .int .u32 (if x < y + c then 1 else 0)]⟩) else none
  | _ => none
def c123 : ICode :=
  (.seq (.reg [⟨(some 6), none, (.mv (.c (.int .u32 0)))⟩, ⟨(some 7), none, (.mv (.c (.int .u32 0)))⟩])
  (.seq (.reg [⟨(some 8), none, (.mv (.t 0))⟩, ⟨(some 9), none, (.mv (.t 1))⟩, ⟨(some 10), none, (.bin .sub (.t 8) (.t 9))⟩, ⟨(some 11), none, (.mv (.t 2))⟩, ⟨(some 12), none, (.bin .sub (.t 10) (.t 11))⟩, ⟨(some 6), none, (.mv (.t 12))⟩])
  (.seq (.reg [⟨(some 13), none, (.mv (.t 0))⟩, ⟨(some 14), none, (.un .xor (.t 13))⟩, ⟨(some 15), none, (.mv (.t 1))⟩, ⟨(some 16), none, (.bin .and (.t 14) (.t 15))⟩, ⟨(some 17), none, (.mv (.t 0))⟩, ⟨(some 18), none, (.mv (.t 1))⟩, ⟨(some 19), none, (.bin .xor (.t 17) (.t 18))⟩, ⟨(some 20), none, (.un .xor (.t 19))⟩, ⟨(some 21), none, (.mv (.t 6))⟩, ⟨(some 22), none, (.bin .and (.t 20) (.t 21))⟩, ⟨(some 23), none, (.bin .or (.t 16) (.t 22))⟩, ⟨(some 24), none, (.bin .shr (.t 23) (.c (.int .u64 31)))⟩, ⟨(some 7), none, (.mv (.t 24))⟩])
  .ret)))
theorem tr123 : trFun Tryz.prog 123 = some ⟨25, [.t 6, .t 7], c123⟩ := by kernel_rfl
theorem w_and (X Y : BitVec 32) : IntKind.u32.wrap ((BitVec.ofInt IntKind.u32.bits (X.toNat : Int) &&& BitVec.ofInt IntKind.u32.bits (Y.toNat : Int)).toNat : Int) = ((X &&& Y).toNat : Int) := by
  rw [BitVec.toNat_and, bv32 X.isLt, bv32 Y.isLt, ← BitVec.toNat_and, u32_nat (X &&& Y).isLt]
theorem w_or (X Y : BitVec 32) : IntKind.u32.wrap ((BitVec.ofInt IntKind.u32.bits (X.toNat : Int) ||| BitVec.ofInt IntKind.u32.bits (Y.toNat : Int)).toNat : Int) = ((X ||| Y).toNat : Int) := by
  rw [BitVec.toNat_or, bv32 X.isLt, bv32 Y.isLt, ← BitVec.toNat_or, u32_nat (X ||| Y).isLt]
theorem w_xor (X Y : BitVec 32) : IntKind.u32.wrap ((BitVec.ofInt IntKind.u32.bits (X.toNat : Int) ^^^ BitVec.ofInt IntKind.u32.bits (Y.toNat : Int)).toNat : Int) = ((X ^^^ Y).toNat : Int) := by
  rw [BitVec.toNat_xor, bv32 X.isLt, bv32 Y.isLt, ← BitVec.toNat_xor, u32_nat (X ^^^ Y).isLt]
theorem w_not (X : BitVec 32) : IntKind.u32.wrap ((BitVec.ofInt IntKind.u32.bits (if IntKind.u32.signed = true then -1 else IntKind.u32.max) ^^^ BitVec.ofInt IntKind.u32.bits (X.toNat : Int)).toNat : Int) = ((~~~X).toNat : Int) := by
  have e : (BitVec.ofInt IntKind.u32.bits (if IntKind.u32.signed = true then -1 else IntKind.u32.max)).toNat = 4294967295 := rfl
  have e2 : (4294967295 : Nat) = (BitVec.allOnes 32).toNat := rfl
  rw [BitVec.toNat_xor, bv32 X.isLt, e, e2, ← BitVec.toNat_xor, BitVec.allOnes_xor, u32_nat (~~~X).isLt]
theorem ok_sub32 : SpecOK Tryz.prog 123 (flat spSub32) := by
  refine flat_run (env_nil _) mixed tr123 ?_
  intro args v h N hG
  unfold spSub32 at hG
  split at hG
  case h_2 => cases hG
  rename_i x y c
  split at hG
  case isFalse => cases hG
  rename_i hl
  cases hG
  refine ⟨rfl, by simp, ?_⟩
  obtain ⟨h1, h2, h3, h4, h5, h6⟩ := hl
  obtain ⟨X, hX⟩ : ∃ X : BitVec 32, x = (X.toNat : Int) := ⟨BitVec.ofNat 32 x.toNat, by rw [BitVec.toNat_ofNat]; omega⟩
  obtain ⟨Y, hY⟩ : ∃ Y : BitVec 32, y = (Y.toNat : Int) := ⟨BitVec.ofNat 32 y.toNat, by rw [BitVec.toNat_ofNat]; omega⟩
  obtain ⟨D, hD⟩ : ∃ D : BitVec 32, (x - y - c) % 4294967296 = (D.toNat : Int) := ⟨BitVec.ofNat 32 ((x - y - c) % 4294967296).toNat, by rw [BitVec.toNat_ofNat]; omega⟩
  subst hX
  subst hY
  have wd : IntKind.u32.wrap (IntKind.u32.wrap ((X.toNat : Int) - (Y.toNat : Int)) - c) = (D.toNat : Int) := by
    rw [u32_int, u32_int, ← hD]; omega
  have sh : ∀ n : Nat, (n : Int).fdiv (2 ^ min 31 IntKind.u32.bits) = ((n / 2147483648 : Nat) : Int) := by
    intro n
    have : (2 : Int) ^ min 31 IntKind.u32.bits = 2147483648 := rfl
    rw [this, Int.fdiv_eq_ediv_of_nonneg _ (by omega)]; omega
  have bw := borrow32 X Y D c.toNat (by omega) (by rw [← hD]; congr 1; omega)
  have bw2 : ((((~~~X &&& Y) ||| (~~~(X ^^^ Y) &&& D)).toNat / 2147483648 : Nat) : Int) = if (X.toNat : Int) < (Y.toNat : Int) + c then 1 else 0 := by
    rw [bw]
    by_cases g : X.toNat < Y.toNat + c.toNat
    · rw [if_pos g, if_pos (by omega)]; rfl
    · rw [if_neg g, if_neg (by omega)]; rfl
  simp only [c123, initT, List.zipIdx_cons, List.zipIdx_nil, List.map_cons, List.map_nil, Nat.reduceAdd]
  simp only [↓R0, R1, rdL, rdH, isCall, istep, ibin, vcells, fillI, setR, flat, okCell, isBase, List.set, List.drop, List.take, List.append, bnds, bhi, blo, srcOf, ↓reduceIte, Nat.reduceEqDiff, Nat.reduceAdd, Nat.reduceLeDiff, reduceCtorEq, Nat.reduceSub, Int.reduceEq, Int.reduceLT, Int.reduceLE, Int.reduceGT, Int.reduceGE, Int.reduceSub, Int.reduceAdd, Int.reduceMul, Int.reduceNe, Int.reduceNeg, Int.reduceToNat, Nat.reduceMul, wd, w_and, w_or, w_xor, w_not, sh, Fin, isEnd, resL, res1, iE, rE]
  refine ⟨_, rfl, ?_, fun k hk => trivial⟩
  rw [hD, ← bw2]
  rfl
def spDiv32 : List Value → Option Value
  | [.int .u32 x, .int .u32 y, .int .u32 d] => if 0 ≤ x ∧ x < d ∧ 0 ≤ y ∧ y < 4294967296 ∧ d < 4294967296 then some (.tuple ⟨[.int .u32 ((x * 4294967296 + y) / d), .int .u32 ((x * 4294967296 + y) % d)]⟩) else none
  | _ => none
def c134 : ICode :=
  (.seq (.reg [⟨(some 6), none, (.mv (.c (.int .u32 0)))⟩, ⟨(some 7), none, (.mv (.c (.int .u32 0)))⟩])
  (.seq (.seq (.reg [⟨(some 9), none, (.mv (.t 2))⟩, ⟨(some 10), none, (.bin .neq (.t 9) (.c (.int .u32 0)))⟩, ⟨(some 11), none, (.mv (.t 10))⟩, ⟨(some 12), (some (11, true)), (.mv (.t 2))⟩, ⟨(some 13), (some (11, true)), (.mv (.t 0))⟩, ⟨(some 14), (some (11, true)), (.bin .leq (.t 12) (.t 13))⟩, ⟨(some 15), none, (.pick (.t 11) (.t 14) (.c (.bool false)))⟩])
  (.cond (.t 15)
  .fail
  .skip))
  (.seq (.reg [⟨(some 17), none, (.mv (.t 0))⟩, ⟨(some 18), none, (.conv .u64 (.t 17))⟩, ⟨(some 19), none, (.bin .shl (.t 18) (.c (.int .u64 32)))⟩, ⟨(some 20), none, (.mv (.t 1))⟩, ⟨(some 21), none, (.conv .u64 (.t 20))⟩, ⟨(some 22), none, (.bin .or (.t 19) (.t 21))⟩, ⟨(some 8), none, (.mv (.t 22))⟩])
  (.seq (.dreg [⟨(some 23), none, [], (.mv (.t 8))⟩, ⟨(some 24), none, [], (.mv (.t 2))⟩, ⟨(some 25), none, [], (.conv .u64 (.t 24))⟩, ⟨(some 26), none, [], (.bin .quo (.t 23) (.t 25))⟩, ⟨(some 27), none, [], (.conv .u32 (.t 26))⟩, ⟨(some 28), none, [], (.mv (.t 8))⟩, ⟨(some 29), none, [], (.mv (.t 2))⟩, ⟨(some 30), none, [], (.conv .u64 (.t 29))⟩, ⟨(some 31), none, [], (.bin .rem (.t 28) (.t 30))⟩, ⟨(some 32), none, [], (.conv .u32 (.t 31))⟩, ⟨(some 6), none, [], (.mv (.t 27))⟩, ⟨(some 7), none, [], (.mv (.t 32))⟩])
  .ret))))
theorem tr134 : trFun Tryz.prog 134 = some ⟨33, [.t 6, .t 7], c134⟩ := by kernel_rfl
theorem ok_div32 : SpecOK Tryz.prog 134 (flat spDiv32) := by
  refine flat_run (env_nil _) mixed tr134 ?_
  intro args v h N hG
  unfold spDiv32 at hG
  split at hG
  case h_2 => cases hG
  rename_i x y d
  split at hG
  case isFalse => cases hG
  rename_i hl
  cases hG
  refine ⟨rfl, by simp, ?_⟩
  obtain ⟨h1, h2, h3, h4, h5⟩ := hl
  obtain ⟨x, rfl⟩ := Int.eq_ofNat_of_zero_le h1
  obtain ⟨y, rfl⟩ := Int.eq_ofNat_of_zero_le h3
  obtain ⟨d, rfl⟩ := Int.eq_ofNat_of_zero_le (show 0 ≤ d by omega)
  have w1 := u64_nat (n := x) (by omega)
  have w2 := u64_nat (n := y) (by omega)
  have w3 := u64_nat (n := d) (by omega)
  have d0 : ¬ (d = 0) := by omega
  have c1 : ¬ ((d : Int) = 0) := by omega
  have c2 : ¬ (d ≤ x) := by omega
  have s1 : IntKind.u64.wrap ((x : Int) * 2 ^ min 32 IntKind.u64.bits) = ((x * 2 ^ 32 : Nat) : Int) := by
    have : (2 : Int) ^ min 32 IntKind.u64.bits = 4294967296 := rfl
    rw [this, ← u64_nat (n := x * 2 ^ 32) (by omega)]; congr 1
  have s2 : IntKind.u64.wrap ((BitVec.ofInt IntKind.u64.bits ((x * 2 ^ 32 : Nat) : Int) ||| BitVec.ofInt IntKind.u64.bits (y : Int)).toNat : Int) = ((y + x * 2 ^ 32 : Nat) : Int) := by
    rw [← or_u64 (x := y) (c := x) (s := 32) (by omega) (by omega), BitVec.or_comm]
  have e0 : (x : Int) * 4294967296 + y = ((y + x * 2 ^ 32 : Nat) : Int) := by omega
  have hz : y + x * 2 ^ 32 < d * 4294967296 := by omega
  have hz2 : (y + x * 2 ^ 32) / d < 4294967296 := (Nat.div_lt_iff_lt_mul (by omega)).2 (by omega)
  have hz3 := Nat.mod_lt (y + x * 2 ^ 32) (show d > 0 by omega)
  rw [e0]
  have e1 : ((y + x * 2 ^ 32 : Nat) : Int).tdiv (d : Int) = (((y + x * 2 ^ 32) / d : Nat) : Int) := by rw [Int.tdiv_eq_ediv_of_nonneg (by omega)]; rfl
  have e2 : ((y + x * 2 ^ 32 : Nat) : Int).tmod (d : Int) = (((y + x * 2 ^ 32) % d : Nat) : Int) := by rw [Int.tmod_eq_emod_of_nonneg (by omega)]; rfl
  have hz4 : (y + x * 2 ^ 32) / d < 18446744073709551616 := by omega
  have w4 := u64_nat hz4
  have w5 := u32_nat hz2
  have w6 := u32_nat (n := (y + x * 2 ^ 32) % d) (by omega)
  simp only [c134, initT, List.zipIdx_cons, List.zipIdx_nil, List.map_cons, List.map_nil, Nat.reduceAdd]
  simp only [↓R0, R1, rdL, rdH, isCall, istep, ibin, vcells, fillI, setR, flat, okCell, isBase, List.set, List.drop, List.take, List.append, bnds, bhi, blo, srcOf, ↓reduceIte, Nat.reduceEqDiff, Nat.reduceAdd, Nat.reduceLeDiff, reduceCtorEq, Nat.reduceSub, Int.reduceEq, Int.reduceLT, Int.reduceLE, Int.reduceGT, Int.reduceGE, Int.reduceSub, Int.reduceAdd, Int.reduceMul, Int.reduceNe, Int.reduceNeg, Int.reduceToNat, Nat.reduceMul, w1, w2, w3, c1, c2, d0, s1, s2, e1, e2, w4, w5, w6, Fin, isEnd, resL, res1, iE, rE]
  exact ⟨_, rfl, rfl, fun k hk => by simp only [ne_nb hk, if_false]⟩
def tab8 : List UInt8 := [0, 1, 2, 2, 3, 3, 3, 3, 4, 4, 4, 4, 4, 4, 4, 4, 5, 5, 5, 5, 5, 5, 5, 5, 5, 5, 5, 5, 5, 5, 5, 5, 6, 6, 6, 6, 6, 6, 6, 6, 6, 6, 6, 6, 6, 6, 6, 6, 6, 6, 6, 6, 6, 6, 6, 6, 6, 6, 6, 6, 6, 6, 6, 6, 7, 7, 7, 7, 7, 7, 7, 7, 7, 7, 7, 7, 7, 7, 7, 7, 7, 7, 7, 7, 7, 7, 7, 7, 7, 7, 7, 7, 7, 7, 7, 7, 7, 7, 7, 7, 7, 7, 7, 7, 7, 7, 7, 7, 7, 7, 7, 7, 7, 7, 7, 7, 7, 7, 7, 7, 7, 7, 7, 7, 7, 7, 7, 7, 8, 8, 8, 8, 8, 8, 8, 8, 8, 8, 8, 8, 8, 8, 8, 8, 8, 8, 8, 8, 8, 8, 8, 8, 8, 8, 8, 8, 8, 8, 8, 8, 8, 8, 8, 8, 8, 8, 8, 8, 8, 8, 8, 8, 8, 8, 8, 8, 8, 8, 8, 8, 8, 8, 8, 8, 8, 8, 8, 8, 8, 8, 8, 8, 8, 8, 8, 8, 8, 8, 8, 8, 8, 8, 8, 8, 8, 8, 8, 8, 8, 8, 8, 8, 8, 8, 8, 8, 8, 8, 8, 8, 8, 8, 8, 8, 8, 8, 8, 8, 8, 8, 8, 8, 8, 8, 8, 8, 8, 8, 8, 8, 8, 8, 8, 8, 8, 8, 8, 8, 8, 8, 8, 8, 8, 8, 8, 8]
def l8 (n : Nat) : Nat := (tab8[n]?.getD 0).toNat
def l32r (n : Nat) : Nat :=
  if 65536 ≤ n then (if 256 ≤ n / 65536 then 24 + l8 (n / 16777216) else 16 + l8 (n / 65536)) else (if 256 ≤ n then 8 + l8 (n / 256) else l8 n)
theorem l32_ex : ∃ f : Nat → Nat, ∀ n, f n = l32r n := ⟨_, fun _ => rfl⟩
noncomputable def l32 : Nat → Nat := Classical.choose l32_ex
theorem l32_eq (n : Nat) : l32 n = l32r n := Classical.choose_spec l32_ex n
theorem l8_tab : ∀ n, n < 256 → n < 2 ^ l8 n ∧ l8 n ≤ 8 := of_decide_eq_true (by kernel_rfl)
theorem l8_lt {n : Nat} (h : n < 256) : n < 2 ^ l8 n := (l8_tab n h).1
theorem l8_le {n : Nat} (h : n < 256) : l8 n ≤ 8 := (l8_tab n h).2
theorem l32_le {n : Nat} (h : n < 4294967296) : l32 n ≤ 32 := by
  rw [l32_eq]; unfold l32r
  split
  · split
    · have := l8_le (n := n / 16777216) (by omega); omega
    · have := l8_le (n := n / 65536) (by omega); omega
  · split
    · have := l8_le (n := n / 256) (by omega); omega
    · have := l8_le (n := n) (by omega); omega
theorem l32_lt {n : Nat} (h : n < 4294967296) : n < 2 ^ l32 n := by
  rw [l32_eq]; unfold l32r
  split
  · split
    · have := l8_lt (n := n / 16777216) (by omega)
      rw [Nat.pow_add]; omega
    · have := l8_lt (n := n / 65536) (by omega)
      rw [Nat.pow_add]; omega
  · split
    · have := l8_lt (n := n / 256) (by omega)
      rw [Nat.pow_add]; omega
    · exact l8_lt (by omega)
theorem l32_pos {n : Nat} (h : 0 < n) (h2 : n < 4294967296) : 1 ≤ l32 n := by
  have := l32_lt h2
  rcases Nat.eq_zero_or_pos (l32 n) with e | e
  · rw [e] at this; omega
  · exact e
noncomputable def spLen32 : List Value → Option Value
  | [.int .u32 x] => if 0 ≤ x ∧ x < 4294967296 then some (.int .i64 (l32 x.toNat : Nat)) else none
  | _ => none
def c145 : ICode :=
  (.seq (.reg [⟨(some 2), none, (.mv (.c (.int .i64 0)))⟩])
  (.seq (.seq (.reg [⟨(some 3), none, (.mv (.t 0))⟩, ⟨(some 4), none, (.bin .geq (.t 3) (.c (.int .u32 65536)))⟩])
  (.cond (.t 4)
  (.seq (.reg [⟨(some 5), none, (.mv (.t 0))⟩, ⟨(some 6), none, (.bin .shr (.t 5) (.c (.int .u64 16)))⟩, ⟨(some 0), none, (.mv (.t 6))⟩])
  (.reg [⟨(some 2), none, (.mv (.c (.int .i64 16)))⟩]))
  .skip))
  (.seq (.seq (.reg [⟨(some 7), none, (.mv (.t 0))⟩, ⟨(some 8), none, (.bin .geq (.t 7) (.c (.int .u32 256)))⟩])
  (.cond (.t 8)
  (.seq (.reg [⟨(some 9), none, (.mv (.t 0))⟩, ⟨(some 10), none, (.bin .shr (.t 9) (.c (.int .u64 8)))⟩, ⟨(some 0), none, (.mv (.t 10))⟩])
  (.reg [⟨(some 11), none, (.mv (.t 2))⟩, ⟨(some 12), none, (.bin .add (.t 11) (.c (.int .i64 8)))⟩, ⟨(some 2), none, (.mv (.t 12))⟩]))
  .skip))
  (.seq (.reg [⟨(some 13), none, (.mv (.t 2))⟩, ⟨(some 14), none, (.mv (.t 0))⟩, ⟨(some 15), none, (.conv .u8 (.t 14))⟩, ⟨(some 16), none, (.idstr (.c (.string ⟨⟨[0, 1, 2, 2, 3, 3, 3, 3, 4, 4, 4, 4, 4, 4, 4, 4, 5, 5, 5, 5, 5, 5, 5, 5, 5, 5, 5, 5, 5, 5, 5, 5, 6, 6, 6, 6, 6, 6, 6, 6, 6, 6, 6, 6, 6, 6, 6, 6, 6, 6, 6, 6, 6, 6, 6, 6, 6, 6, 6, 6, 6, 6, 6, 6, 7, 7, 7, 7, 7, 7, 7, 7, 7, 7, 7, 7, 7, 7, 7, 7, 7, 7, 7, 7, 7, 7, 7, 7, 7, 7, 7, 7, 7, 7, 7, 7, 7, 7, 7, 7, 7, 7, 7, 7, 7, 7, 7, 7, 7, 7, 7, 7, 7, 7, 7, 7, 7, 7, 7, 7, 7, 7, 7, 7, 7, 7, 7, 7, 8, 8, 8, 8, 8, 8, 8, 8, 8, 8, 8, 8, 8, 8, 8, 8, 8, 8, 8, 8, 8, 8, 8, 8, 8, 8, 8, 8, 8, 8, 8, 8, 8, 8, 8, 8, 8, 8, 8, 8, 8, 8, 8, 8, 8, 8, 8, 8, 8, 8, 8, 8, 8, 8, 8, 8, 8, 8, 8, 8, 8, 8, 8, 8, 8, 8, 8, 8, 8, 8, 8, 8, 8, 8, 8, 8, 8, 8, 8, 8, 8, 8, 8, 8, 8, 8, 8, 8, 8, 8, 8, 8, 8, 8, 8, 8, 8, 8, 8, 8, 8, 8, 8, 8, 8, 8, 8, 8, 8, 8, 8, 8, 8, 8, 8, 8, 8, 8, 8, 8, 8, 8, 8, 8, 8, 8, 8, 8]⟩⟩)) (.t 15))⟩, ⟨(some 17), none, (.conv .i64 (.t 16))⟩, ⟨(some 18), none, (.bin .add (.t 13) (.t 17))⟩, ⟨(some 2), none, (.mv (.t 18))⟩])
  .ret))))
theorem tr145 : trFun Tryz.prog 145 = some ⟨19, [.t 2], c145⟩ := by kernel_rfl
theorem tab8_get {n : Nat} (h : n < 256) : tab8[n]? = some (UInt8.ofNat (l8 n)) := by
  unfold l8
  have hl : n < tab8.length := h
  rw [List.getElem?_eq_getElem hl]; simp
theorem shr32 (n k : Nat) (h : k ≤ 32) : (n : Int).fdiv (2 ^ min k IntKind.u32.bits) = ((n / 2 ^ k : Nat) : Int) := by
  have : min k IntKind.u32.bits = k := Nat.min_eq_left h
  rw [this, Int.fdiv_eq_ediv_of_nonneg _ (Int.pow_nonneg (by omega))]
  rw [Int.natCast_ediv, Int.natCast_pow]; rfl
theorem ok_len32 : SpecOK Tryz.prog 145 (flat spLen32) := by
  refine flat_run (env_nil _) mixed tr145 ?_
  intro args v h N hG
  unfold spLen32 at hG
  split at hG
  case h_2 => cases hG
  rename_i x
  split at hG
  case isFalse => cases hG
  rename_i hl
  cases hG
  refine ⟨rfl, by simp, ?_⟩
  obtain ⟨h1, h2⟩ := hl
  obtain ⟨x, rfl⟩ := Int.eq_ofNat_of_zero_le h1
  have s16 := shr32 x 16 (by omega)
  have s8 := shr32 x 8 (by omega)
  have s24 := shr32 (x / 2 ^ 16) 8 (by omega)
  have u8 : ∀ n : Nat, n < 256 → IntKind.u8.wrap (n : Int) = n := fun n h => u8_in _ ⟨by omega, by omega⟩
  have i64 : ∀ n : Nat, n ≤ 32 → IntKind.i64.wrap (n : Int) = n := fun n h => i64_in _ (by omega)
  have fold8 : ∀ n : Nat, n < 256 → ([0, 1, 2, 2, 3, 3, 3, 3, 4, 4, 4, 4, 4, 4, 4, 4, 5, 5, 5, 5, 5, 5, 5, 5, 5, 5, 5, 5, 5, 5, 5, 5, 6, 6, 6, 6, 6, 6, 6, 6, 6, 6, 6, 6, 6, 6, 6, 6, 6, 6, 6, 6, 6, 6, 6, 6, 6, 6, 6, 6, 6, 6, 6, 6, 7, 7, 7, 7, 7, 7, 7, 7, 7, 7, 7, 7, 7, 7, 7, 7, 7, 7, 7, 7, 7, 7, 7, 7, 7, 7, 7, 7, 7, 7, 7, 7, 7, 7, 7, 7, 7, 7, 7, 7, 7, 7, 7, 7, 7, 7, 7, 7, 7, 7, 7, 7, 7, 7, 7, 7, 7, 7, 7, 7, 7, 7, 7, 7, 8, 8, 8, 8, 8, 8, 8, 8, 8, 8, 8, 8, 8, 8, 8, 8, 8, 8, 8, 8, 8, 8, 8, 8, 8, 8, 8, 8, 8, 8, 8, 8, 8, 8, 8, 8, 8, 8, 8, 8, 8, 8, 8, 8, 8, 8, 8, 8, 8, 8, 8, 8, 8, 8, 8, 8, 8, 8, 8, 8, 8, 8, 8, 8, 8, 8, 8, 8, 8, 8, 8, 8, 8, 8, 8, 8, 8, 8, 8, 8, 8, 8, 8, 8, 8, 8, 8, 8, 8, 8, 8, 8, 8, 8, 8, 8, 8, 8, 8, 8, 8, 8, 8, 8, 8, 8, 8, 8, 8, 8, 8, 8, 8, 8, 8, 8, 8, 8, 8, 8, 8, 8, 8, 8, 8, 8, 8, 8] : List UInt8)[n]? = some (UInt8.ofNat (l8 n)) := fun n h => tab8_get h
  have t8 : ∀ n : Nat, n < 256 → ((UInt8.ofNat (l8 n)).toNat : Int) = (l8 n : Int) := fun n h => by
    have := l8_le h
    simp; omega
  simp only [c145, initT, List.zipIdx_cons, List.zipIdx_nil, List.map_cons, List.map_nil, Nat.reduceAdd]
  simp only [Int.toNat_natCast]
  rw [l32_eq]; unfold l32r
  by_cases c1 : 65536 ≤ x
  · rw [if_pos c1]
    have g1 : ((x : Int) ≥ 65536) = True := eq_true (by omega)
    by_cases c2 : 256 ≤ x / 65536
    · rw [if_pos c2]
      have g2 : (((x / 2 ^ 16 : Nat) : Int) ≥ 256) = True := eq_true (by omega)
      have e : x / 2 ^ 16 / 2 ^ 8 = x / 16777216 := by omega
      have w1 := u8 (x / 16777216) (by omega)
      have w2 := fold8 (x / 16777216) (by omega)
      have w3 := t8 (x / 16777216) (by omega)
      have w4 := i64 (l8 (x / 16777216)) (Nat.le_trans (l8_le (by omega)) (by omega))
      have w5 := i64 (24 + l8 (x / 16777216)) (by have := l8_le (n := x / 16777216) (by omega); omega)
      have w6 : IntKind.i64.wrap 24 = 24 := i64_in _ (by omega)
      have e2 : (24 : Int) + (l8 (x / 16777216) : Int) = ((24 + l8 (x / 16777216) : Nat) : Int) := by omega
      simp only [↓R0, R1, rdL, rdH, isCall, istep, ibin, vcells, fillI, setR, flat, okCell, isBase, List.set, List.drop, List.take, List.append, bnds, bhi, blo, srcOf, ↓reduceIte, Nat.reduceEqDiff, Nat.reduceAdd, Nat.reduceLeDiff, reduceCtorEq, Nat.reduceSub, Int.reduceEq, Int.reduceLT, Int.reduceLE, Int.reduceGT, Int.reduceGE, Int.reduceSub, Int.reduceAdd, Int.reduceMul, Int.reduceNe, Int.reduceNeg, Int.reduceToNat, Nat.reduceMul, g1, s16, g2, s24, e, w1, w2, w3, w4, w6, e2, w5, Fin, isEnd, resL, res1, iE, rE]
      exact ⟨_, rfl, rfl, fun k hk => by simp only [ne_nb hk, if_false]⟩
    · rw [if_neg c2]
      have g2 : (((x / 2 ^ 16 : Nat) : Int) ≥ 256) = False := eq_false (by omega)
      have e : x / 2 ^ 16 = x / 65536 := by omega
      have w1 := u8 (x / 65536) (by omega)
      have w2 := fold8 (x / 65536) (by omega)
      have w3 := t8 (x / 65536) (by omega)
      have w4 := i64 (l8 (x / 65536)) (Nat.le_trans (l8_le (by omega)) (by omega))
      have w5 := i64 (16 + l8 (x / 65536)) (by have := l8_le (n := x / 65536) (by omega); omega)
      have e2 : (16 : Int) + (l8 (x / 65536) : Int) = ((16 + l8 (x / 65536) : Nat) : Int) := by omega
      rw [e] at g2
      simp only [↓R0, R1, rdL, rdH, isCall, istep, ibin, vcells, fillI, setR, flat, okCell, isBase, List.set, List.drop, List.take, List.append, bnds, bhi, blo, srcOf, ↓reduceIte, Nat.reduceEqDiff, Nat.reduceAdd, Nat.reduceLeDiff, reduceCtorEq, Nat.reduceSub, Int.reduceEq, Int.reduceLT, Int.reduceLE, Int.reduceGT, Int.reduceGE, Int.reduceSub, Int.reduceAdd, Int.reduceMul, Int.reduceNe, Int.reduceNeg, Int.reduceToNat, Nat.reduceMul, g1, s16, g2, e, w1, w2, w3, w4, e2, w5, Fin, isEnd, resL, res1, iE, rE]
      exact ⟨_, rfl, rfl, fun k hk => by simp only [ne_nb hk, if_false]⟩
  · rw [if_neg c1]
    have g1 : ((x : Int) ≥ 65536) = False := eq_false (by omega)
    by_cases c2 : 256 ≤ x
    · rw [if_pos c2]
      have g2 : ((x : Int) ≥ 256) = True := eq_true (by omega)
      have e : x / 2 ^ 8 = x / 256 := by omega
      have w1 := u8 (x / 256) (by omega)
      have w2 := fold8 (x / 256) (by omega)
      have w3 := t8 (x / 256) (by omega)
      have w4 := i64 (l8 (x / 256)) (Nat.le_trans (l8_le (by omega)) (by omega))
      have w5 := i64 (8 + l8 (x / 256)) (by have := l8_le (n := x / 256) (by omega); omega)
      have w6 : IntKind.i64.wrap 8 = 8 := i64_in _ (by omega)
      have e2 : (8 : Int) + (l8 (x / 256) : Int) = ((8 + l8 (x / 256) : Nat) : Int) := by omega
      simp only [↓R0, R1, rdL, rdH, isCall, istep, ibin, vcells, fillI, setR, flat, okCell, isBase, List.set, List.drop, List.take, List.append, bnds, bhi, blo, srcOf, ↓reduceIte, Nat.reduceEqDiff, Nat.reduceAdd, Nat.reduceLeDiff, reduceCtorEq, Nat.reduceSub, Int.reduceEq, Int.reduceLT, Int.reduceLE, Int.reduceGT, Int.reduceGE, Int.reduceSub, Int.reduceAdd, Int.reduceMul, Int.reduceNe, Int.reduceNeg, Int.reduceToNat, Nat.reduceMul, g1, g2, s8, e, w1, w2, w3, w4, w6, e2, w5, Fin, isEnd, resL, res1, iE, rE]
      exact ⟨_, rfl, rfl, fun k hk => by simp only [ne_nb hk, if_false]⟩
    · rw [if_neg c2]
      have g2 : ((x : Int) ≥ 256) = False := eq_false (by omega)
      have w1 := u8 x (by omega)
      have w2 := fold8 x (by omega)
      have w3 := t8 x (by omega)
      have w4 := i64 (l8 x) (Nat.le_trans (l8_le (by omega)) (by omega))
      have e2 : (0 : Int) + (l8 x : Int) = (l8 x : Int) := by omega
      simp only [↓R0, R1, rdL, rdH, isCall, istep, ibin, vcells, fillI, setR, flat, okCell, isBase, List.set, List.drop, List.take, List.append, bnds, bhi, blo, srcOf, ↓reduceIte, Nat.reduceEqDiff, Nat.reduceAdd, Nat.reduceLeDiff, reduceCtorEq, Nat.reduceSub, Int.reduceEq, Int.reduceLT, Int.reduceLE, Int.reduceGT, Int.reduceGE, Int.reduceSub, Int.reduceAdd, Int.reduceMul, Int.reduceNe, Int.reduceNeg, Int.reduceToNat, Nat.reduceMul, g1, g2, w1, w2, w3, w4, e2, Fin, isEnd, resL, res1, iE, rE]
      exact ⟨_, rfl, rfl, fun k hk => by simp only [ne_nb hk, if_false]⟩
noncomputable def spLz32 : List Value → Option Value
  | [.int .u32 x] => if 0 ≤ x ∧ x < 4294967296 then some (.int .i64 ((32 - l32 x.toNat : Nat) : Int)) else none
  | _ => none
def c135 : ICode :=
  (.seq (.reg [⟨(some 2), none, (.mv (.c (.int .i64 0)))⟩])
  (.seq (.reg [⟨(some 3), none, (.mv (.t 0))⟩, ⟨(some 4), none, (.call 145 [(.t 3)])⟩, ⟨(some 5), none, (.bin .sub (.c (.int .i64 32)) (.t 4))⟩, ⟨(some 2), none, (.mv (.t 5))⟩])
  .ret))
theorem tr135 : trFun Tryz.prog 135 = some ⟨6, [.t 2], c135⟩ := by kernel_rfl
theorem ok_lz32 : SpecOK Tryz.prog 135 (flat spLz32) := by
  refine flat_run (env_cons ok_len32 (env_nil _)) mixed tr135 ?_
  intro args v h N hG
  unfold spLz32 at hG
  split at hG
  case h_2 => cases hG
  rename_i x
  split at hG
  case isFalse => cases hG
  rename_i hl
  cases hG
  refine ⟨rfl, by simp, ?_⟩
  obtain ⟨h1, h2⟩ := hl
  have hb := l32_le (n := x.toNat) (by omega)
  have e : IntKind.i64.wrap (32 - (l32 x.toNat : Int)) = ((32 - l32 x.toNat : Nat) : Int) := by rw [i64_in _ (by omega)]; omega
  simp only [c135, initT, List.zipIdx_cons, List.zipIdx_nil, List.map_cons, List.map_nil, Nat.reduceAdd]
  simp only [↓R0, R1, rdL, rdH, isCall, istep, ibin, vcells, fillI, setR, flat, okCell, isBase, List.set, List.drop, List.take, List.append, bnds, bhi, blo, srcOf, ↓reduceIte, Nat.reduceEqDiff, Nat.reduceAdd, Nat.reduceLeDiff, reduceCtorEq, Nat.reduceSub, Int.reduceEq, Int.reduceLT, Int.reduceLE, Int.reduceGT, Int.reduceGE, Int.reduceSub, Int.reduceAdd, Int.reduceMul, Int.reduceNe, Int.reduceNeg, Int.reduceToNat, Nat.reduceMul, spLen32, h1, h2, e, Fin, isEnd, resL, res1, iE, rE]
  exact ⟨_, rfl, rfl, fun k hk => by simp only [ne_nb hk, if_false]⟩
end Go.Eng
end
section
set_option linter.unusedVariables false
set_option linter.unusedSimpArgs false
set_option linter.unusedSectionVars false
namespace Go.Eng
theorem shows_tb {h : Heap} {v : Value} {cs : List Value} (e : shows h v = some cs) (hu : uok cs = true) : ∃ kb off K cap blk, v = .slice (some ⟨kb, off, none⟩) K cap ∧ hget h kb = some blk ∧ off + K ≤ blk.cells.length ∧
    (∀ i, i < K → blk.cells[off + i]? = some (.int .u32 (lm (ud cs) i : Nat))) ∧ ud cs < 4294967296 ^ K ∧ cs.length = K := by
  obtain ⟨kb, off, K, cap, blk, rfl, hb, hle, hcs', hlen⟩ := shows_inv e
  refine ⟨kb, off, K, cap, blk, rfl, hb, hle, fun i hi => ?_, ?_, hlen⟩
  · have h1 : cs[i]? = some (.int .u32 (lm (ud cs) i : Nat)) := by
      conv => lhs; rw [tb_ud hu, hlen]
      rw [tb_get' _ hi]
    rw [hcs', List.getElem?_take, if_pos hi, List.getElem?_drop] at h1
    rw [← hcs'] at h1
    exact h1
  · have := ud_lt hu; rw [hlen] at this; exact this
end Go.Eng
end
section
set_option linter.unusedVariables false
set_option linter.unusedSimpArgs false
set_option linter.unusedSectionVars false
set_option maxRecDepth 4000
namespace Go.Eng
open Go Go.Proofs Go.IntWalk
theorem lm_0 : lm 0 = fun _ => 0 := by funext j; unfold lm; simp
theorem shl32 {c s : Nat} (h : c * 2 ^ s < 4294967296) (hs : s ≤ 32) : IntKind.u32.wrap ((c : Int) * 2 ^ min s IntKind.u32.bits) = ((c * 2 ^ s : Nat) : Int) := by
  have : min s IntKind.u32.bits = s := Nat.min_eq_left hs
  rw [this, ← u32_nat h, Int.natCast_mul, Int.natCast_pow]; rfl
def spLimbs (args : List Value) (_ : Heap) : Option ((Nat → Value) × Blk) := match args with
  | [.string ⟨⟨l⟩⟩] => if l.length ≤ 1099511627776 then some (fun k => .slice (some ⟨k, 0, none⟩) (lk (nl l)) (lk (nl l)), ⟨118, 1, false, tb (lk (nl l)) (lm (nl l))⟩) else none
  | _ => none
def c110 : ICode :=
  (.seq (.reg [⟨(some 2), none, (.mv (.c (.slice none 0 0)))⟩])
  (.seq (.reg [⟨(some 5), none, (.mv (.t 0))⟩, ⟨(some 6), none, (.call 108 [(.t 5)])⟩, ⟨(some 0), none, (.mv (.t 6))⟩])
  (.seq (.reg [⟨(some 7), none, (.mv (.t 0))⟩, ⟨(some 8), none, (.lens (.t 7))⟩, ⟨(some 9), none, (.bin .add (.t 8) (.c (.int .i64 4)))⟩, ⟨(some 10), none, (.bin .sub (.t 9) (.c (.int .i64 1)))⟩, ⟨(some 11), none, (.bin .quo (.t 10) (.c (.int .i64 4)))⟩, ⟨(some 12), none, (.mkslice 118 1 4 [(.int .u32 0)] (.t 11) (.t 11))⟩, ⟨(some 3), none, (.mv (.t 12))⟩])
  (.seq (.seq (.reg [⟨(some 13), none, (.mv (.t 0))⟩, ⟨(some 14), none, (.lens (.t 13))⟩, ⟨(some 15), none, (.mv (.c (.int .i64 0)))⟩])
  (.block 0 (.loop (.seq (.reg [⟨(some 16), none, (.bin .lss (.t 15) (.t 14))⟩])
  (.seq (.cond (.t 16)
  .skip
  (.exit 0))
  (.seq (.block 1 (.seq (.reg [⟨(some 17), none, (.mv (.t 15))⟩, ⟨(some 4), none, (.mv (.t 17))⟩])
  (.dreg [⟨(some 18), none, [], (.mv (.t 3))⟩, ⟨(some 19), none, [], (.mv (.t 4))⟩, ⟨(some 20), none, [], (.bin .quo (.t 19) (.c (.int .i64 4)))⟩, ⟨(some 21), none, [], (.ixsl 1 (.t 18) (.t 20))⟩, ⟨(some 22), none, [], (.load false 1 (.t 21))⟩, ⟨(some 23), none, [], (.mv (.t 0))⟩, ⟨(some 24), none, [], (.mv (.t 4))⟩, ⟨(some 25), none, [], (.idstr (.t 23) (.t 24))⟩, ⟨(some 26), none, [], (.conv .u32 (.t 25))⟩, ⟨(some 27), none, [], (.mv (.t 4))⟩, ⟨(some 28), none, [], (.bin .rem (.t 27) (.c (.int .i64 4)))⟩, ⟨(some 29), none, [], (.bin .mul (.c (.int .i64 8)) (.t 28))⟩, ⟨(some 30), none, [], (.bin .shl (.t 26) (.t 29))⟩, ⟨(some 31), none, [], (.bin .or (.t 22) (.t 30))⟩, ⟨(some 32), none, [], (.ixsl 1 (.t 18) (.t 20))⟩, ⟨none, none, [], (.store 1 (.t 32) (.t 31))⟩])))
  (.reg [⟨(some 33), none, (.bin .add (.t 15) (.c (.int .i64 1)))⟩, ⟨(some 15), none, (.mv (.t 33))⟩])))))))
  (.seq (.reg [⟨(some 34), none, (.mv (.t 3))⟩, ⟨(some 2), none, (.mv (.t 34))⟩])
  .ret)))))
theorem tr110 : trFun Tryz.prog 110 = some ⟨35, [.t 2], c110⟩ := by kernel_rfl
theorem ok_nlimbs : SpecOK Tryz.prog 110 (nwS spLimbs) := by
  refine nw_run (env_cons ok_nNorm (env_nil _)) mixed tr110 ?_ ?_
  · intro args h h' v hl e; exact e
  intro args vf b h N hG hN
  unfold spLimbs at hG
  split at hG
  case h_2 => cases hG
  rename_i l
  split at hG
  case isFalse => cases hG
  rename_i hl
  cases hG
  refine ⟨rfl, tb_base _ _, vr1_sl _ _ _, by simp, ?_⟩
  have hL : (bl (nl l)).length ≤ 1099511627776 := Nat.le_trans (bl_length_nl l) hl
  generalize hn : nl l = n at *
  have hK : lk n = ((bl n).length + 3) / 4 := rfl
  have a1 : IntKind.i64.wrap (((bl n).length : Int) + 4) = (((bl n).length + 4 : Nat) : Int) := by rw [i64_in _ (by omega)]; omega
  have a2 : IntKind.i64.wrap ((((bl n).length + 4 : Nat) : Int) - 1) = (((bl n).length + 3 : Nat) : Int) := by rw [i64_in _ (by omega)]; omega
  have a3 : IntKind.i64.wrap ((((bl n).length + 3 : Nat) : Int).tdiv 4) = (lk n : Int) := by
    rw [i64_quo _ _ (by omega), hK]; omega
  have a4 : 4 * (lk n : Int) ≤ 281474976710656 := by omega
  have a5 : (lk n : Int) ≤ 9223372036854775807 := by omega
  simp only [c110, initT, List.zipIdx_cons, List.zipIdx_nil, List.map_cons, List.map_nil, Nat.reduceAdd]
  simp only [↓R0, R1, rdL, rdH, isCall, istep, ibin, vcells, fillI, setR, flat, okCell, isBase, List.set, List.drop, List.take, List.append, bnds, bhi, blo, srcOf, ↓reduceIte, Nat.reduceEqDiff, Nat.reduceAdd, Nat.reduceLeDiff, reduceCtorEq, Nat.reduceSub, Int.reduceEq, Int.reduceLT, Int.reduceLE, Int.reduceGT, Int.reduceGE, Int.reduceSub, Int.reduceAdd, Int.reduceMul, Int.reduceNe, Int.reduceNeg, Int.reduceToNat, Nat.reduceMul, spNNorm, hl, hn, a1, a2, a3, a4, a5, tb_rep]
  refine lp_parts (fun m tm hp nx => ∃ (i : Nat), m + i = (bl n).length ∧ tmget tm 0 = .string ⟨⟨bl n⟩⟩ ∧ tmget tm 3 = .slice (some ⟨N + 0, 0, none⟩) (lk n) (lk n) ∧ tmget tm 14 = .int .i64 (bl n).length ∧ tmget tm 15 = .int .i64 i ∧
      hget hp (N + 0) = some ⟨118, 1, false, tb (lk n) (lm (nl ((bl n).take i)))⟩ ∧ (∀ q, q < N → hget hp q = hget h q) ∧ nx = N + 1) ?_ (bl n).length
    ⟨0, by omega, ?_, ?_, ?_, ?_, ?_, ?_, rfl⟩
  · intro m tm hp nx ⟨i, hm, h0, h3, h14, h15, hb, hh, hnx⟩
    subst hnx
    by_cases c1 : i < (bl n).length
    · obtain ⟨b, hbb⟩ : ∃ b, (bl n)[i]? = some b := ⟨_, List.getElem?_eq_getElem c1⟩
      have hts := nl_take_succ (bl n) i
      rw [hbb, Option.getD_some] at hts
      obtain ⟨g1, g2, g3⟩ := limb_byte (v := nl ((bl n).take i)) (c := b.toNat) (i := i) (nl_take_lt _ _) b.toNat_lt
      have hi : i / 4 < lk n := by omega
      have e1 : IntKind.i64.wrap ((i : Int).tdiv 4) = ((i / 4 : Nat) : Int) := by rw [i64_quo _ _ (by omega)]; omega
      have e2 : (i : Int).tmod 4 = ((i % 4 : Nat) : Int) := by rw [Int.tmod_eq_emod_of_nonneg (by omega)]; omega
      have e3 : IntKind.i64.wrap (8 * ((i % 4 : Nat) : Int)) = ((8 * (i % 4) : Nat) : Int) := by rw [i64_in _ (by omega)]; omega
      have e4 : ¬ (((8 * (i % 4) : Nat) : Int) < 0) := by omega
      have e5 := shl32 (c := b.toNat) (s := 8 * (i % 4)) (by omega) (by omega)
      have e6 := or_u32 g2 g3
      have e7 : IntKind.i64.wrap ((i : Int) + 1) = ((i + 1 : Nat) : Int) := by rw [i64_in _ (by omega)]; omega
      have e8 := tb_get' (lm (nl ((bl n).take i))) hi
      have e9 : i / 4 + 1 ≤ lk n := hi
      have ew := u32_nat (n := b.toNat) (by have := b.toNat_lt; omega)
      simp only [↓R0, R1, rdL, rdH, isCall, istep, ibin, vcells, fillI, setR, flat, okCell, isBase, List.set, List.drop, List.take, List.append, bnds, bhi, blo, srcOf, ↓reduceIte, Nat.reduceEqDiff, Nat.reduceAdd, Nat.reduceLeDiff, reduceCtorEq, Nat.reduceSub, Int.reduceEq, Int.reduceLT, Int.reduceLE, Int.reduceGT, Int.reduceGE, Int.reduceSub, Int.reduceAdd, Int.reduceMul, Int.reduceNe, Int.reduceNeg, Int.reduceToNat, Nat.reduceMul, h0, h3, h14, h15, hb, c1, e1, e2, e3, e4, e5, e6, e7, e8, e9, ew, hi, hbb, tb_length]
      refine ⟨m - 1, by omega, i + 1, by omega, rfl, ?_, ?_⟩
      · rw [tb_set, hts]
        rw [show (fun j => if j = i / 4 then lm (nl ((bl n).take i)) (i / 4) + b.toNat * 2 ^ (8 * (i % 4)) else lm (nl ((bl n).take i)) j) = lm (nl ((bl n).take i) + 256 ^ i * b.toNat) from funext fun j => (g1 j).symm]
      · intro q hq
        simp only [if_neg (show ¬ N + 0 = q by omega)]
        exact hh q hq
    · have ei : i = (bl n).length := by omega
      subst ei
      rw [List.take_length, nl_bl] at hb
      simp only [↓R0, R1, rdL, rdH, isCall, istep, ibin, vcells, fillI, setR, flat, okCell, isBase, List.set, List.drop, List.take, List.append, bnds, bhi, blo, srcOf, ↓reduceIte, Nat.reduceEqDiff, Nat.reduceAdd, Nat.reduceLeDiff, reduceCtorEq, Nat.reduceSub, Int.reduceEq, Int.reduceLT, Int.reduceLE, Int.reduceGT, Int.reduceGE, Int.reduceSub, Int.reduceAdd, Int.reduceMul, Int.reduceNe, Int.reduceNeg, Int.reduceToNat, Nat.reduceMul, h0, h3, h14, h15, c1]
      refine ⟨trivial, _, N + 0, false, rfl, ?_, by omega, hb, hh⟩
      (first | (simp only [↓R0, R1, rdL, rdH, isCall, istep, ibin, vcells, fillI, setR, flat, okCell, isBase, List.set, List.drop, List.take, List.append, bnds, bhi, blo, srcOf, ↓reduceIte, Nat.reduceEqDiff, Nat.reduceAdd, Nat.reduceLeDiff, reduceCtorEq, Nat.reduceSub, Int.reduceEq, Int.reduceLT, Int.reduceLE, Int.reduceGT, Int.reduceGE, Int.reduceSub, Int.reduceAdd, Int.reduceMul, Int.reduceNe, Int.reduceNeg, Int.reduceToNat, Nat.reduceMul, one]; done) | (simp only [↓R0, R1, rdL, rdH, isCall, istep, ibin, vcells, fillI, setR, flat, okCell, isBase, List.set, List.drop, List.take, List.append, bnds, bhi, blo, srcOf, ↓reduceIte, Nat.reduceEqDiff, Nat.reduceAdd, Nat.reduceLeDiff, reduceCtorEq, Nat.reduceSub, Int.reduceEq, Int.reduceLT, Int.reduceLE, Int.reduceGT, Int.reduceGE, Int.reduceSub, Int.reduceAdd, Int.reduceMul, Int.reduceNe, Int.reduceNeg, Int.reduceToNat, Nat.reduceMul, one]; rfl) | rfl)
  · (first | (simp only [↓R0, R1, rdL, rdH, isCall, istep, ibin, vcells, fillI, setR, flat, okCell, isBase, List.set, List.drop, List.take, List.append, bnds, bhi, blo, srcOf, ↓reduceIte, Nat.reduceEqDiff, Nat.reduceAdd, Nat.reduceLeDiff, reduceCtorEq, Nat.reduceSub, Int.reduceEq, Int.reduceLT, Int.reduceLE, Int.reduceGT, Int.reduceGE, Int.reduceSub, Int.reduceAdd, Int.reduceMul, Int.reduceNe, Int.reduceNeg, Int.reduceToNat, Nat.reduceMul]; done) | (simp only [↓R0, R1, rdL, rdH, isCall, istep, ibin, vcells, fillI, setR, flat, okCell, isBase, List.set, List.drop, List.take, List.append, bnds, bhi, blo, srcOf, ↓reduceIte, Nat.reduceEqDiff, Nat.reduceAdd, Nat.reduceLeDiff, reduceCtorEq, Nat.reduceSub, Int.reduceEq, Int.reduceLT, Int.reduceLE, Int.reduceGT, Int.reduceGE, Int.reduceSub, Int.reduceAdd, Int.reduceMul, Int.reduceNe, Int.reduceNeg, Int.reduceToNat, Nat.reduceMul]; rfl) | rfl)
  · (first | (simp only [↓R0, R1, rdL, rdH, isCall, istep, ibin, vcells, fillI, setR, flat, okCell, isBase, List.set, List.drop, List.take, List.append, bnds, bhi, blo, srcOf, ↓reduceIte, Nat.reduceEqDiff, Nat.reduceAdd, Nat.reduceLeDiff, reduceCtorEq, Nat.reduceSub, Int.reduceEq, Int.reduceLT, Int.reduceLE, Int.reduceGT, Int.reduceGE, Int.reduceSub, Int.reduceAdd, Int.reduceMul, Int.reduceNe, Int.reduceNeg, Int.reduceToNat, Nat.reduceMul]; done) | (simp only [↓R0, R1, rdL, rdH, isCall, istep, ibin, vcells, fillI, setR, flat, okCell, isBase, List.set, List.drop, List.take, List.append, bnds, bhi, blo, srcOf, ↓reduceIte, Nat.reduceEqDiff, Nat.reduceAdd, Nat.reduceLeDiff, reduceCtorEq, Nat.reduceSub, Int.reduceEq, Int.reduceLT, Int.reduceLE, Int.reduceGT, Int.reduceGE, Int.reduceSub, Int.reduceAdd, Int.reduceMul, Int.reduceNe, Int.reduceNeg, Int.reduceToNat, Nat.reduceMul]; rfl) | rfl)
  · (first | (simp only [↓R0, R1, rdL, rdH, isCall, istep, ibin, vcells, fillI, setR, flat, okCell, isBase, List.set, List.drop, List.take, List.append, bnds, bhi, blo, srcOf, ↓reduceIte, Nat.reduceEqDiff, Nat.reduceAdd, Nat.reduceLeDiff, reduceCtorEq, Nat.reduceSub, Int.reduceEq, Int.reduceLT, Int.reduceLE, Int.reduceGT, Int.reduceGE, Int.reduceSub, Int.reduceAdd, Int.reduceMul, Int.reduceNe, Int.reduceNeg, Int.reduceToNat, Nat.reduceMul]; done) | (simp only [↓R0, R1, rdL, rdH, isCall, istep, ibin, vcells, fillI, setR, flat, okCell, isBase, List.set, List.drop, List.take, List.append, bnds, bhi, blo, srcOf, ↓reduceIte, Nat.reduceEqDiff, Nat.reduceAdd, Nat.reduceLeDiff, reduceCtorEq, Nat.reduceSub, Int.reduceEq, Int.reduceLT, Int.reduceLE, Int.reduceGT, Int.reduceGE, Int.reduceSub, Int.reduceAdd, Int.reduceMul, Int.reduceNe, Int.reduceNeg, Int.reduceToNat, Nat.reduceMul]; rfl) | rfl)
  · (first | (simp only [↓R0, R1, rdL, rdH, isCall, istep, ibin, vcells, fillI, setR, flat, okCell, isBase, List.set, List.drop, List.take, List.append, bnds, bhi, blo, srcOf, ↓reduceIte, Nat.reduceEqDiff, Nat.reduceAdd, Nat.reduceLeDiff, reduceCtorEq, Nat.reduceSub, Int.reduceEq, Int.reduceLT, Int.reduceLE, Int.reduceGT, Int.reduceGE, Int.reduceSub, Int.reduceAdd, Int.reduceMul, Int.reduceNe, Int.reduceNeg, Int.reduceToNat, Nat.reduceMul]; done) | (simp only [↓R0, R1, rdL, rdH, isCall, istep, ibin, vcells, fillI, setR, flat, okCell, isBase, List.set, List.drop, List.take, List.append, bnds, bhi, blo, srcOf, ↓reduceIte, Nat.reduceEqDiff, Nat.reduceAdd, Nat.reduceLeDiff, reduceCtorEq, Nat.reduceSub, Int.reduceEq, Int.reduceLT, Int.reduceLE, Int.reduceGT, Int.reduceGE, Int.reduceSub, Int.reduceAdd, Int.reduceMul, Int.reduceNe, Int.reduceNeg, Int.reduceToNat, Nat.reduceMul]; rfl) | rfl)
  · (first | (simp only [↓R0, R1, rdL, rdH, isCall, istep, ibin, vcells, fillI, setR, flat, okCell, isBase, List.set, List.drop, List.take, List.append, bnds, bhi, blo, srcOf, ↓reduceIte, Nat.reduceEqDiff, Nat.reduceAdd, Nat.reduceLeDiff, reduceCtorEq, Nat.reduceSub, Int.reduceEq, Int.reduceLT, Int.reduceLE, Int.reduceGT, Int.reduceGE, Int.reduceSub, Int.reduceAdd, Int.reduceMul, Int.reduceNe, Int.reduceNeg, Int.reduceToNat, Nat.reduceMul, List.take_zero, nl, lm_0]; done) | (simp only [↓R0, R1, rdL, rdH, isCall, istep, ibin, vcells, fillI, setR, flat, okCell, isBase, List.set, List.drop, List.take, List.append, bnds, bhi, blo, srcOf, ↓reduceIte, Nat.reduceEqDiff, Nat.reduceAdd, Nat.reduceLeDiff, reduceCtorEq, Nat.reduceSub, Int.reduceEq, Int.reduceLT, Int.reduceLE, Int.reduceGT, Int.reduceGE, Int.reduceSub, Int.reduceAdd, Int.reduceMul, Int.reduceNe, Int.reduceNeg, Int.reduceToNat, Nat.reduceMul, List.take_zero, nl, lm_0]; rfl) | rfl)
  · intro q hq
    simp only [↓R0, R1, rdL, rdH, isCall, istep, ibin, vcells, fillI, setR, flat, okCell, isBase, List.set, List.drop, List.take, List.append, bnds, bhi, blo, srcOf, ↓reduceIte, Nat.reduceEqDiff, Nat.reduceAdd, Nat.reduceLeDiff, reduceCtorEq, Nat.reduceSub, Int.reduceEq, Int.reduceLT, Int.reduceLE, Int.reduceGT, Int.reduceGE, Int.reduceSub, Int.reduceAdd, Int.reduceMul, Int.reduceNe, Int.reduceNeg, Int.reduceToNat, Nat.reduceMul, hget_new hq]
def spMag : List Value → Heap → Option Value
  | [v], h => match shows h v with
    | some cs => if uok cs = true ∧ cs.length ≤ 34359738368 then some (.string ⟨⟨bl (ud cs)⟩⟩) else none
    | none => none
  | _, _ => none
def c113 : ICode :=
  (.seq (.reg [⟨(some 2), none, (.mv (.c (.string ⟨⟨[]⟩⟩)))⟩])
  (.seq (.reg [⟨(some 7), none, (.mv (.t 0))⟩, ⟨(some 8), none, (.lensl (.t 7))⟩, ⟨(some 9), none, (.bin .mul (.c (.int .i64 4)) (.t 8))⟩, ⟨(some 10), none, (.mkslice 5 1 1 [(.int .u8 0)] (.c (.int .i64 0)) (.t 9))⟩, ⟨(some 3), none, (.mv (.t 10))⟩])
  (.seq (.seq (.reg [⟨(some 11), none, (.mv (.t 0))⟩, ⟨(some 12), none, (.lensl (.t 11))⟩, ⟨(some 13), none, (.mv (.c (.int .i64 0)))⟩])
  (.block 0 (.loop (.seq (.reg [⟨(some 14), none, (.bin .lss (.t 13) (.t 12))⟩])
  (.seq (.cond (.t 14)
  .skip
  (.exit 0))
  (.seq (.block 1 (.seq (.reg [⟨(some 15), none, (.ixsl 1 (.t 11) (.t 13))⟩, ⟨(some 16), none, (.load false 1 (.t 15))⟩, ⟨(some 5), none, (.mv (.t 16))⟩])
  (.seq (.reg [⟨(some 17), none, (.mv (.c (.int .i64 0)))⟩])
  (.block 2 (.loop (.seq (.reg [⟨(some 18), none, (.bin .lss (.t 17) (.c (.int .i64 4)))⟩])
  (.seq (.cond (.t 18)
  .skip
  (.exit 2))
  (.seq (.block 3 (.seq (.reg [⟨(some 19), none, (.mv (.t 17))⟩, ⟨(some 6), none, (.mv (.t 19))⟩])
  (.reg [⟨(some 20), none, (.mv (.t 3))⟩, ⟨(some 21), none, (.mv (.t 5))⟩, ⟨(some 22), none, (.mv (.t 6))⟩, ⟨(some 23), none, (.bin .mul (.c (.int .i64 8)) (.t 22))⟩, ⟨(some 24), none, (.bin .shr (.t 21) (.t 23))⟩, ⟨(some 25), none, (.conv .u8 (.t 24))⟩, ⟨(some 26), none, (.bslice 5 1 1 [(.int .u8 0)] [(0, 1, (.t 25))])⟩, ⟨(some 27), none, (.app 5 1 1 (.t 20) (.t 26))⟩, ⟨(some 3), none, (.mv (.t 27))⟩])))
  (.reg [⟨(some 28), none, (.bin .add (.t 17) (.c (.int .i64 1)))⟩, ⟨(some 17), none, (.mv (.t 28))⟩])))))))))
  (.reg [⟨(some 29), none, (.bin .add (.t 13) (.c (.int .i64 1)))⟩, ⟨(some 13), none, (.mv (.t 29))⟩])))))))
  (.seq (.reg [⟨(some 30), none, (.mv (.t 3))⟩, ⟨(some 31), none, (.b2s (.t 30))⟩, ⟨(some 32), none, (.call 108 [(.t 31)])⟩, ⟨(some 2), none, (.mv (.t 32))⟩])
  .ret))))
theorem tr113 : trFun Tryz.prog 113 = some ⟨33, [.t 2], c113⟩ := by kernel_rfl
set_option maxHeartbeats 1000000 in
theorem ok_nmag : SpecOK Tryz.prog 113 (rdS spMag) := by
  refine rd_run (env_cons ok_nNorm (env_nil _)) mixed tr113 ?_ ?_
  · intro args h h' v hle e
    unfold spMag at e ⊢
    split at e
    · split at e
      · rename_i cs hcs
        simp only [shows_mono hle hcs]; exact e
      · cases e
    · cases e
  intro args v h N hG hN
  unfold spMag at hG
  split at hG
  case h_2 => cases hG
  rename_i sv _
  split at hG
  case h_2 => cases hG
  rename_i cs hcs
  split at hG
  case isFalse => cases hG
  rename_i hl
  obtain ⟨hu, hl⟩ := hl
  cases hG
  refine ⟨rfl, by simp, ?_⟩
  obtain ⟨kb, off, K, cap, blk, rfl, hb, hle, hcell, hV, hlen⟩ := shows_tb hcs hu
  have hkb := hN _ _ hb
  have hne : ∀ a, ¬ (N + a = kb) := fun a => by omega
  rw [hlen] at hl
  generalize ud cs = V at *
  have a1 : IntKind.i64.wrap (4 * (K : Int)) = ((4 * K : Nat) : Int) := by rw [i64_in _ (by omega)]; omega
  have a2 : 1 * ((4 * K : Nat) : Int) ≤ 281474976710656 := by omega
  have a3 : ((4 * K : Nat) : Int) ≤ 9223372036854775807 := by omega
  simp only [c113, initT, List.zipIdx_cons, List.zipIdx_nil, List.map_cons, List.map_nil, Nat.reduceAdd]
  simp only [↓R0, R1, rdL, rdH, isCall, istep, ibin, vcells, fillI, setR, flat, okCell, isBase, List.set, List.drop, List.take, List.append, bnds, bhi, blo, srcOf, ↓reduceIte, Nat.reduceEqDiff, Nat.reduceAdd, Nat.reduceLeDiff, reduceCtorEq, Nat.reduceSub, Int.reduceEq, Int.reduceLT, Int.reduceLE, Int.reduceGT, Int.reduceGE, Int.reduceSub, Int.reduceAdd, Int.reduceMul, Int.reduceNe, Int.reduceNeg, Int.reduceToNat, Nat.reduceMul, a1, a2, a3]
  refine lp_parts (fun m tm hp nx => ∃ (i j kk : Nat) (out : List UInt8) (x : Bool), m + i = K ∧ tmget tm 11 = .slice (some ⟨kb, off, none⟩) K cap ∧ tmget tm 12 = .int .i64 K ∧ tmget tm 13 = .int .i64 i ∧
      tmget tm 3 = .slice (some ⟨N + kk, 0, none⟩) (4 * i) (4 * i) ∧ hget hp (N + kk) = some ⟨5, 1, x, bc out⟩ ∧ out.length = 4 * i ∧ nl out = V % 256 ^ (4 * i) ∧ (∀ q, q < N → hget hp q = hget h q) ∧ nx = N + j ∧ kk < j) ?_ K
    ⟨0, 1, 0, [], false, by omega, ?_, ?_, ?_, ?_, ?_, rfl, ?_, ?_, rfl, by omega⟩
  · intro m tm hp nx ⟨i, j, kk, out, x, hm, h11, h12, h13, h3, hk, ho, hv, hh, hnx, hkj⟩
    subst hnx
    by_cases c1 : i < K
    · have hbb : hget hp kb = some blk := by rw [hh kb hkb]; exact hb
      have e1 : IntKind.i64.wrap ((i : Int) + 1) = ((i + 1 : Nat) : Int) := by rw [i64_in _ (by omega)]; omega
      simp only [↓R0, R1, rdL, rdH, isCall, istep, ibin, vcells, fillI, setR, flat, okCell, isBase, List.set, List.drop, List.take, List.append, bnds, bhi, blo, srcOf, ↓reduceIte, Nat.reduceEqDiff, Nat.reduceAdd, Nat.reduceLeDiff, reduceCtorEq, Nat.reduceSub, Int.reduceEq, Int.reduceLT, Int.reduceLE, Int.reduceGT, Int.reduceGE, Int.reduceSub, Int.reduceAdd, Int.reduceMul, Int.reduceNe, Int.reduceNeg, Int.reduceToNat, Nat.reduceMul, h11, h12, h13, h3, c1, hbb, hcell i c1]
      refine lp_parts (fun m2 tm hp nx => ∃ (k j kk : Nat) (out : List UInt8) (x : Bool), m2 + k = 4 ∧ tmget tm 11 = .slice (some ⟨kb, off, none⟩) K cap ∧ tmget tm 12 = .int .i64 K ∧ tmget tm 13 = .int .i64 i ∧ tmget tm 5 = .int .u32 (lm V i : Nat) ∧ tmget tm 17 = .int .i64 k ∧
        tmget tm 3 = .slice (some ⟨N + kk, 0, none⟩) (4 * i + k) (4 * i + k) ∧ hget hp (N + kk) = some ⟨5, 1, x, bc out⟩ ∧ out.length = 4 * i + k ∧ nl out = V % 256 ^ (4 * i + k) ∧ (∀ q, q < N → hget hp q = hget h q) ∧ nx = N + j ∧ kk < j) ?_ 4
        ⟨0, j, kk, out, x, by omega, ?_, ?_, ?_, ?_, ?_, ?_, hk, ho, hv, hh, rfl, hkj⟩
      · clear hk ho hv hh h11 h12 h13 h3 hbb hkj
        clear tm hp out x j kk
        intro m2 tm hp nx ⟨k, j, kk, out, x, hm2, h11, h12, h13, h5, h17, h3, hk, ho, hv, hh, hnx, hkj⟩
        subst hnx
        by_cases c2 : k < 4
        · have c2' : (k : Int) < 4 := by omega
          have e2 : IntKind.i64.wrap (8 * (k : Int)) = ((8 * k : Nat) : Int) := by rw [i64_in _ (by omega)]; omega
          have e3 : ¬ (((8 * k : Nat) : Int) < 0) := by omega
          have e4 := shr32 (lm V i) (8 * k) (by omega)
          have e5 : IntKind.u8.wrap ((lm V i / 2 ^ (8 * k) : Nat) : Int) = ((UInt8.ofNat (V / 256 ^ (4 * i + k) % 256)).toNat : Int) := by
            rw [← byte_limb V i k c2]
            have : IntKind.u8.wrap ((lm V i / 2 ^ (8 * k) : Nat) : Int) = ((lm V i / 2 ^ (8 * k) : Nat) : Int) % 256 := rfl
            rw [this]; simp
          have e6 : IntKind.i64.wrap ((k : Int) + 1) = ((k + 1 : Nat) : Int) := by rw [i64_in _ (by omega)]; omega
          have f1 : ¬ (4 * i + k + 1 ≤ 4 * i + k) := by omega
          have f2 : 4 * i + k + 1 ≤ 140737488355328 := by omega
          have f3 : ¬ (j = kk) := by omega
          have f4 : 0 + 1 ≤ 1 := by omega
          simp only [↓R0, R1, rdL, rdH, isCall, istep, ibin, vcells, fillI, setR, flat, okCell, isBase, List.set, List.drop, List.take, List.append, bnds, bhi, blo, srcOf, ↓reduceIte, Nat.reduceEqDiff, Nat.reduceAdd, Nat.reduceLeDiff, reduceCtorEq, Nat.reduceSub, Int.reduceEq, Int.reduceLT, Int.reduceLE, Int.reduceGT, Int.reduceGE, Int.reduceSub, Int.reduceAdd, Int.reduceMul, Int.reduceNe, Int.reduceNeg, Int.reduceToNat, Nat.reduceMul, h11, h12, h13, h5, h17, h3, c2', e2, e3, e4, e5, e6, f1, f2, f3, f4, hk, ho]
          refine ⟨m2 - 1, by omega, k + 1, j + 2, j + 1, out ++ [UInt8.ofNat (V / 256 ^ (4 * i + k) % 256)], false, by omega, rfl, rfl, ?_, by simp [ho]; omega, ?_, ?_, rfl, Nat.lt_succ_self _⟩
          · rw [if_pos rfl, bc_append]; rfl
          · rw [nl_append, ho, hv]
            have : 4 * i + (k + 1) = (4 * i + k) + 1 := by omega
            rw [this, byte_step]
            simp [nl]
          · intro q hq
            simp only [if_neg (show ¬ N + (j + 1) = q by omega), if_neg (show ¬ N + kk = q by omega), if_neg (show ¬ N + j = q by omega)]
            exact hh q hq
        · have ek : k = 4 := by omega
          subst ek
          have c2' : ¬ (((4 : Nat) : Int) < 4) := by omega
          simp only [↓R0, R1, rdL, rdH, isCall, istep, ibin, vcells, fillI, setR, flat, okCell, isBase, List.set, List.drop, List.take, List.append, bnds, bhi, blo, srcOf, ↓reduceIte, Nat.reduceEqDiff, Nat.reduceAdd, Nat.reduceLeDiff, reduceCtorEq, Nat.reduceSub, Int.reduceEq, Int.reduceLT, Int.reduceLE, Int.reduceGT, Int.reduceGE, Int.reduceSub, Int.reduceAdd, Int.reduceMul, Int.reduceNe, Int.reduceNeg, Int.reduceToNat, Nat.reduceMul, h11, h12, h13, h3, h17, c2', e1]
          refine ⟨m - 1, by omega, i + 1, j, kk, out, x, by omega, rfl, ?_, hk, by omega, ?_, hh, rfl, hkj⟩
          · rw [show 4 * (i + 1) = 4 * i + 4 by omega]
          · rw [show 4 * (i + 1) = 4 * i + 4 by omega]; exact hv
      · (first | (simp only [↓R0, R1, rdL, rdH, isCall, istep, ibin, vcells, fillI, setR, flat, okCell, isBase, List.set, List.drop, List.take, List.append, bnds, bhi, blo, srcOf, ↓reduceIte, Nat.reduceEqDiff, Nat.reduceAdd, Nat.reduceLeDiff, reduceCtorEq, Nat.reduceSub, Int.reduceEq, Int.reduceLT, Int.reduceLE, Int.reduceGT, Int.reduceGE, Int.reduceSub, Int.reduceAdd, Int.reduceMul, Int.reduceNe, Int.reduceNeg, Int.reduceToNat, Nat.reduceMul, h11]; done) | (simp only [↓R0, R1, rdL, rdH, isCall, istep, ibin, vcells, fillI, setR, flat, okCell, isBase, List.set, List.drop, List.take, List.append, bnds, bhi, blo, srcOf, ↓reduceIte, Nat.reduceEqDiff, Nat.reduceAdd, Nat.reduceLeDiff, reduceCtorEq, Nat.reduceSub, Int.reduceEq, Int.reduceLT, Int.reduceLE, Int.reduceGT, Int.reduceGE, Int.reduceSub, Int.reduceAdd, Int.reduceMul, Int.reduceNe, Int.reduceNeg, Int.reduceToNat, Nat.reduceMul, h11]; rfl) | rfl)
      · (first | (simp only [↓R0, R1, rdL, rdH, isCall, istep, ibin, vcells, fillI, setR, flat, okCell, isBase, List.set, List.drop, List.take, List.append, bnds, bhi, blo, srcOf, ↓reduceIte, Nat.reduceEqDiff, Nat.reduceAdd, Nat.reduceLeDiff, reduceCtorEq, Nat.reduceSub, Int.reduceEq, Int.reduceLT, Int.reduceLE, Int.reduceGT, Int.reduceGE, Int.reduceSub, Int.reduceAdd, Int.reduceMul, Int.reduceNe, Int.reduceNeg, Int.reduceToNat, Nat.reduceMul, h12]; done) | (simp only [↓R0, R1, rdL, rdH, isCall, istep, ibin, vcells, fillI, setR, flat, okCell, isBase, List.set, List.drop, List.take, List.append, bnds, bhi, blo, srcOf, ↓reduceIte, Nat.reduceEqDiff, Nat.reduceAdd, Nat.reduceLeDiff, reduceCtorEq, Nat.reduceSub, Int.reduceEq, Int.reduceLT, Int.reduceLE, Int.reduceGT, Int.reduceGE, Int.reduceSub, Int.reduceAdd, Int.reduceMul, Int.reduceNe, Int.reduceNeg, Int.reduceToNat, Nat.reduceMul, h12]; rfl) | rfl)
      · (first | (simp only [↓R0, R1, rdL, rdH, isCall, istep, ibin, vcells, fillI, setR, flat, okCell, isBase, List.set, List.drop, List.take, List.append, bnds, bhi, blo, srcOf, ↓reduceIte, Nat.reduceEqDiff, Nat.reduceAdd, Nat.reduceLeDiff, reduceCtorEq, Nat.reduceSub, Int.reduceEq, Int.reduceLT, Int.reduceLE, Int.reduceGT, Int.reduceGE, Int.reduceSub, Int.reduceAdd, Int.reduceMul, Int.reduceNe, Int.reduceNeg, Int.reduceToNat, Nat.reduceMul, h13]; done) | (simp only [↓R0, R1, rdL, rdH, isCall, istep, ibin, vcells, fillI, setR, flat, okCell, isBase, List.set, List.drop, List.take, List.append, bnds, bhi, blo, srcOf, ↓reduceIte, Nat.reduceEqDiff, Nat.reduceAdd, Nat.reduceLeDiff, reduceCtorEq, Nat.reduceSub, Int.reduceEq, Int.reduceLT, Int.reduceLE, Int.reduceGT, Int.reduceGE, Int.reduceSub, Int.reduceAdd, Int.reduceMul, Int.reduceNe, Int.reduceNeg, Int.reduceToNat, Nat.reduceMul, h13]; rfl) | rfl)
      · (first | (simp only [↓R0, R1, rdL, rdH, isCall, istep, ibin, vcells, fillI, setR, flat, okCell, isBase, List.set, List.drop, List.take, List.append, bnds, bhi, blo, srcOf, ↓reduceIte, Nat.reduceEqDiff, Nat.reduceAdd, Nat.reduceLeDiff, reduceCtorEq, Nat.reduceSub, Int.reduceEq, Int.reduceLT, Int.reduceLE, Int.reduceGT, Int.reduceGE, Int.reduceSub, Int.reduceAdd, Int.reduceMul, Int.reduceNe, Int.reduceNeg, Int.reduceToNat, Nat.reduceMul]; done) | (simp only [↓R0, R1, rdL, rdH, isCall, istep, ibin, vcells, fillI, setR, flat, okCell, isBase, List.set, List.drop, List.take, List.append, bnds, bhi, blo, srcOf, ↓reduceIte, Nat.reduceEqDiff, Nat.reduceAdd, Nat.reduceLeDiff, reduceCtorEq, Nat.reduceSub, Int.reduceEq, Int.reduceLT, Int.reduceLE, Int.reduceGT, Int.reduceGE, Int.reduceSub, Int.reduceAdd, Int.reduceMul, Int.reduceNe, Int.reduceNeg, Int.reduceToNat, Nat.reduceMul]; rfl) | rfl)
      · (first | (simp only [↓R0, R1, rdL, rdH, isCall, istep, ibin, vcells, fillI, setR, flat, okCell, isBase, List.set, List.drop, List.take, List.append, bnds, bhi, blo, srcOf, ↓reduceIte, Nat.reduceEqDiff, Nat.reduceAdd, Nat.reduceLeDiff, reduceCtorEq, Nat.reduceSub, Int.reduceEq, Int.reduceLT, Int.reduceLE, Int.reduceGT, Int.reduceGE, Int.reduceSub, Int.reduceAdd, Int.reduceMul, Int.reduceNe, Int.reduceNeg, Int.reduceToNat, Nat.reduceMul]; done) | (simp only [↓R0, R1, rdL, rdH, isCall, istep, ibin, vcells, fillI, setR, flat, okCell, isBase, List.set, List.drop, List.take, List.append, bnds, bhi, blo, srcOf, ↓reduceIte, Nat.reduceEqDiff, Nat.reduceAdd, Nat.reduceLeDiff, reduceCtorEq, Nat.reduceSub, Int.reduceEq, Int.reduceLT, Int.reduceLE, Int.reduceGT, Int.reduceGE, Int.reduceSub, Int.reduceAdd, Int.reduceMul, Int.reduceNe, Int.reduceNeg, Int.reduceToNat, Nat.reduceMul]; rfl) | rfl)
      · (first | (simp only [↓R0, R1, rdL, rdH, isCall, istep, ibin, vcells, fillI, setR, flat, okCell, isBase, List.set, List.drop, List.take, List.append, bnds, bhi, blo, srcOf, ↓reduceIte, Nat.reduceEqDiff, Nat.reduceAdd, Nat.reduceLeDiff, reduceCtorEq, Nat.reduceSub, Int.reduceEq, Int.reduceLT, Int.reduceLE, Int.reduceGT, Int.reduceGE, Int.reduceSub, Int.reduceAdd, Int.reduceMul, Int.reduceNe, Int.reduceNeg, Int.reduceToNat, Nat.reduceMul, h3]; done) | (simp only [↓R0, R1, rdL, rdH, isCall, istep, ibin, vcells, fillI, setR, flat, okCell, isBase, List.set, List.drop, List.take, List.append, bnds, bhi, blo, srcOf, ↓reduceIte, Nat.reduceEqDiff, Nat.reduceAdd, Nat.reduceLeDiff, reduceCtorEq, Nat.reduceSub, Int.reduceEq, Int.reduceLT, Int.reduceLE, Int.reduceGT, Int.reduceGE, Int.reduceSub, Int.reduceAdd, Int.reduceMul, Int.reduceNe, Int.reduceNeg, Int.reduceToNat, Nat.reduceMul, h3]; rfl) | rfl)
    · have ei : i = K := by omega
      subst ei
      have f5 : 4 * i ≤ out.length := by omega
      have hout : out.length ≤ 1099511627776 := by omega
      have hval : nl out = V := by rw [hv, pow4, Nat.mod_eq_of_lt hV]
      have f6 : (bc out).take (4 * i) = bc out := by rw [← ho, bc_take_all]
      simp only [↓R0, R1, rdL, rdH, isCall, istep, ibin, vcells, fillI, setR, flat, okCell, isBase, List.set, List.drop, List.take, List.append, bnds, bhi, blo, srcOf, ↓reduceIte, Nat.reduceEqDiff, Nat.reduceAdd, Nat.reduceLeDiff, reduceCtorEq, Nat.reduceSub, Int.reduceEq, Int.reduceLT, Int.reduceLE, Int.reduceGT, Int.reduceGE, Int.reduceSub, Int.reduceAdd, Int.reduceMul, Int.reduceNe, Int.reduceNeg, Int.reduceToNat, Nat.reduceMul, h11, h12, h13, h3, c1, hk, f5, f6, byteList_bc, spNNorm, hout, hval, Fin, isEnd, resL, res1, iE, rE]
      exact ⟨_, rfl, rfl, hh⟩
  · (first | (simp only [↓R0, R1, rdL, rdH, isCall, istep, ibin, vcells, fillI, setR, flat, okCell, isBase, List.set, List.drop, List.take, List.append, bnds, bhi, blo, srcOf, ↓reduceIte, Nat.reduceEqDiff, Nat.reduceAdd, Nat.reduceLeDiff, reduceCtorEq, Nat.reduceSub, Int.reduceEq, Int.reduceLT, Int.reduceLE, Int.reduceGT, Int.reduceGE, Int.reduceSub, Int.reduceAdd, Int.reduceMul, Int.reduceNe, Int.reduceNeg, Int.reduceToNat, Nat.reduceMul]; done) | (simp only [↓R0, R1, rdL, rdH, isCall, istep, ibin, vcells, fillI, setR, flat, okCell, isBase, List.set, List.drop, List.take, List.append, bnds, bhi, blo, srcOf, ↓reduceIte, Nat.reduceEqDiff, Nat.reduceAdd, Nat.reduceLeDiff, reduceCtorEq, Nat.reduceSub, Int.reduceEq, Int.reduceLT, Int.reduceLE, Int.reduceGT, Int.reduceGE, Int.reduceSub, Int.reduceAdd, Int.reduceMul, Int.reduceNe, Int.reduceNeg, Int.reduceToNat, Nat.reduceMul]; rfl) | rfl)
  · (first | (simp only [↓R0, R1, rdL, rdH, isCall, istep, ibin, vcells, fillI, setR, flat, okCell, isBase, List.set, List.drop, List.take, List.append, bnds, bhi, blo, srcOf, ↓reduceIte, Nat.reduceEqDiff, Nat.reduceAdd, Nat.reduceLeDiff, reduceCtorEq, Nat.reduceSub, Int.reduceEq, Int.reduceLT, Int.reduceLE, Int.reduceGT, Int.reduceGE, Int.reduceSub, Int.reduceAdd, Int.reduceMul, Int.reduceNe, Int.reduceNeg, Int.reduceToNat, Nat.reduceMul]; done) | (simp only [↓R0, R1, rdL, rdH, isCall, istep, ibin, vcells, fillI, setR, flat, okCell, isBase, List.set, List.drop, List.take, List.append, bnds, bhi, blo, srcOf, ↓reduceIte, Nat.reduceEqDiff, Nat.reduceAdd, Nat.reduceLeDiff, reduceCtorEq, Nat.reduceSub, Int.reduceEq, Int.reduceLT, Int.reduceLE, Int.reduceGT, Int.reduceGE, Int.reduceSub, Int.reduceAdd, Int.reduceMul, Int.reduceNe, Int.reduceNeg, Int.reduceToNat, Nat.reduceMul]; rfl) | rfl)
  · (first | (simp only [↓R0, R1, rdL, rdH, isCall, istep, ibin, vcells, fillI, setR, flat, okCell, isBase, List.set, List.drop, List.take, List.append, bnds, bhi, blo, srcOf, ↓reduceIte, Nat.reduceEqDiff, Nat.reduceAdd, Nat.reduceLeDiff, reduceCtorEq, Nat.reduceSub, Int.reduceEq, Int.reduceLT, Int.reduceLE, Int.reduceGT, Int.reduceGE, Int.reduceSub, Int.reduceAdd, Int.reduceMul, Int.reduceNe, Int.reduceNeg, Int.reduceToNat, Nat.reduceMul]; done) | (simp only [↓R0, R1, rdL, rdH, isCall, istep, ibin, vcells, fillI, setR, flat, okCell, isBase, List.set, List.drop, List.take, List.append, bnds, bhi, blo, srcOf, ↓reduceIte, Nat.reduceEqDiff, Nat.reduceAdd, Nat.reduceLeDiff, reduceCtorEq, Nat.reduceSub, Int.reduceEq, Int.reduceLT, Int.reduceLE, Int.reduceGT, Int.reduceGE, Int.reduceSub, Int.reduceAdd, Int.reduceMul, Int.reduceNe, Int.reduceNeg, Int.reduceToNat, Nat.reduceMul]; rfl) | rfl)
  · (first | (simp only [↓R0, R1, rdL, rdH, isCall, istep, ibin, vcells, fillI, setR, flat, okCell, isBase, List.set, List.drop, List.take, List.append, bnds, bhi, blo, srcOf, ↓reduceIte, Nat.reduceEqDiff, Nat.reduceAdd, Nat.reduceLeDiff, reduceCtorEq, Nat.reduceSub, Int.reduceEq, Int.reduceLT, Int.reduceLE, Int.reduceGT, Int.reduceGE, Int.reduceSub, Int.reduceAdd, Int.reduceMul, Int.reduceNe, Int.reduceNeg, Int.reduceToNat, Nat.reduceMul]; done) | (simp only [↓R0, R1, rdL, rdH, isCall, istep, ibin, vcells, fillI, setR, flat, okCell, isBase, List.set, List.drop, List.take, List.append, bnds, bhi, blo, srcOf, ↓reduceIte, Nat.reduceEqDiff, Nat.reduceAdd, Nat.reduceLeDiff, reduceCtorEq, Nat.reduceSub, Int.reduceEq, Int.reduceLT, Int.reduceLE, Int.reduceGT, Int.reduceGE, Int.reduceSub, Int.reduceAdd, Int.reduceMul, Int.reduceNe, Int.reduceNeg, Int.reduceToNat, Nat.reduceMul]; rfl) | rfl)
  · (first | (simp only [↓R0, R1, rdL, rdH, isCall, istep, ibin, vcells, fillI, setR, flat, okCell, isBase, List.set, List.drop, List.take, List.append, bnds, bhi, blo, srcOf, ↓reduceIte, Nat.reduceEqDiff, Nat.reduceAdd, Nat.reduceLeDiff, reduceCtorEq, Nat.reduceSub, Int.reduceEq, Int.reduceLT, Int.reduceLE, Int.reduceGT, Int.reduceGE, Int.reduceSub, Int.reduceAdd, Int.reduceMul, Int.reduceNe, Int.reduceNeg, Int.reduceToNat, Nat.reduceMul]; done) | (simp only [↓R0, R1, rdL, rdH, isCall, istep, ibin, vcells, fillI, setR, flat, okCell, isBase, List.set, List.drop, List.take, List.append, bnds, bhi, blo, srcOf, ↓reduceIte, Nat.reduceEqDiff, Nat.reduceAdd, Nat.reduceLeDiff, reduceCtorEq, Nat.reduceSub, Int.reduceEq, Int.reduceLT, Int.reduceLE, Int.reduceGT, Int.reduceGE, Int.reduceSub, Int.reduceAdd, Int.reduceMul, Int.reduceNe, Int.reduceNeg, Int.reduceToNat, Nat.reduceMul]; rfl) | rfl)
  · simp [nl, Nat.mod_one]
  · intro q hq
    simp only [↓R0, R1, rdL, rdH, isCall, istep, ibin, vcells, fillI, setR, flat, okCell, isBase, List.set, List.drop, List.take, List.append, bnds, bhi, blo, srcOf, ↓reduceIte, Nat.reduceEqDiff, Nat.reduceAdd, Nat.reduceLeDiff, reduceCtorEq, Nat.reduceSub, Int.reduceEq, Int.reduceLT, Int.reduceLE, Int.reduceGT, Int.reduceGE, Int.reduceSub, Int.reduceAdd, Int.reduceMul, Int.reduceNe, Int.reduceNeg, Int.reduceToNat, Nat.reduceMul, hget_new hq]
end Go.Eng
end
