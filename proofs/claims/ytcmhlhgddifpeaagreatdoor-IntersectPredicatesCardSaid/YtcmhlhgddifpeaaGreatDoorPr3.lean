/-
  A part of the proof: the machine, the contracts of the functions and the plain laws, merged from smaller texts.
-/
import Derived.Test.YtcmhlhgddifpeaaGreatDoorPr2
import Derived.IntWalk
section
set_option linter.unusedVariables false
set_option linter.unusedSimpArgs false
set_option linter.unusedSectionVars false
set_option maxRecDepth 4000
namespace Go.Eng
open Go Go.Proofs Go.IntWalk
def spR4Norm : List Value → Option Value
  | [.agg ⟨[.bool s1, .string ⟨⟨l1⟩⟩, .bool s2, .string ⟨⟨l2⟩⟩, .bool s3, .string ⟨⟨l3⟩⟩, .bool s4, .string ⟨⟨l4⟩⟩]⟩] =>
    if l1.length ≤ 34359738368 ∧ l2.length ≤ 34359738368 ∧ l3.length ≤ 34359738368 ∧ l4.length ≤ 34359738368 then some (.agg ⟨pE (sv s1 l1) (sv s2 l2) (sv s3 l3) (sv s4 l4)⟩) else none
  | _ => none
def c14 : ICode :=
  (.seq (.reg [⟨(some 1), none, (.box 30 8 (.t 0))⟩, ⟨(some 2), none, (.alloc 30 8 [(.bool false), (.string ⟨⟨[]⟩⟩), (.bool false), (.string ⟨⟨[]⟩⟩), (.bool false), (.string ⟨⟨[]⟩⟩), (.bool false), (.string ⟨⟨[]⟩⟩)])⟩])
  (.seq (.dreg [⟨(some 7), none, [], (.faddr 0 (.t 1))⟩, ⟨(some 8), none, [], (.load true 2 (.t 7))⟩, ⟨(some 9), none, [], (.call 46 [(.t 8)])⟩, ⟨(some 10), none, [], (.faddr 2 (.t 1))⟩, ⟨(some 11), none, [2], (.load true 2 (.t 10))⟩, ⟨(some 12), none, [], (.call 46 [(.t 11)])⟩, ⟨(some 13), none, [], (.faddr 4 (.t 1))⟩, ⟨(some 14), none, [2, 5], (.load true 2 (.t 13))⟩, ⟨(some 15), none, [], (.call 46 [(.t 14)])⟩, ⟨(some 16), none, [], (.faddr 6 (.t 1))⟩, ⟨(some 17), none, [2, 5, 8], (.load true 2 (.t 16))⟩, ⟨(some 18), none, [], (.call 46 [(.t 17)])⟩, ⟨(some 19), none, [], (.bslice 23 2 4 [(.bool false), (.string ⟨⟨[]⟩⟩), (.bool false), (.string ⟨⟨[]⟩⟩), (.bool false), (.string ⟨⟨[]⟩⟩), (.bool false), (.string ⟨⟨[]⟩⟩)] [(0, 2, (.t 9)), (2, 2, (.t 12)), (4, 2, (.t 15)), (6, 2, (.t 18))])⟩, ⟨(some 3), none, [], (.mv (.t 19))⟩])
  (.seq (.seq (.reg [⟨(some 20), none, (.mv (.t 3))⟩, ⟨(some 21), none, (.ixsl 2 (.t 20) (.c (.int .i64 3)))⟩, ⟨(some 22), none, (.load true 2 (.t 21))⟩, ⟨(some 23), none, (.call 47 [(.t 22)])⟩, ⟨(some 24), none, (.bin .eql (.t 23) (.c (.int .i64 0)))⟩])
  (.cond (.t 24)
  (.reg [⟨(some 25), none, (.mv (.t 3))⟩, ⟨(some 26), none, (.call 48 [(.c (.int .i64 1))])⟩, ⟨(some 27), none, (.ixsl 2 (.t 25) (.c (.int .i64 3)))⟩, ⟨none, none, (.store 2 (.t 27) (.t 26))⟩])
  .skip))
  (.seq (.reg [⟨(some 28), none, (.mv (.t 3))⟩, ⟨(some 29), none, (.ixsl 2 (.t 28) (.c (.int .i64 3)))⟩, ⟨(some 30), none, (.load true 2 (.t 29))⟩, ⟨(some 31), none, (.call 47 [(.t 30)])⟩, ⟨(some 32), none, (.bin .lss (.t 31) (.c (.int .i64 0)))⟩, ⟨(some 4), none, (.mv (.t 32))⟩])
  (.seq (.reg [⟨(some 33), none, (.mv (.t 3))⟩, ⟨(some 34), none, (.call 49 [(.t 33)])⟩, ⟨(some 5), none, (.alloc 23 2 [(.bool false), (.string ⟨⟨[]⟩⟩)])⟩, ⟨none, none, (.store 2 (.t 5) (.t 34))⟩])
  (.seq (.seq (.reg [⟨(some 35), none, (.mv (.t 3))⟩, ⟨(some 36), none, (.lensl (.t 35))⟩, ⟨(some 37), none, (.mv (.c (.int .i64 0)))⟩])
  (.block 0 (.loop (.seq (.reg [⟨(some 38), none, (.bin .lss (.t 37) (.t 36))⟩])
  (.seq (.cond (.t 38)
  .skip
  (.exit 0))
  (.seq (.block 1 (.seq (.reg [⟨(some 39), none, (.mv (.t 37))⟩, ⟨(some 6), none, (.mv (.t 39))⟩])
  (.seq (.seq (.reg [⟨(some 40), none, (.mv (.t 4))⟩])
  (.cond (.t 40)
  (.reg [⟨(some 41), none, (.mv (.t 3))⟩, ⟨(some 42), none, (.mv (.t 6))⟩, ⟨(some 43), none, (.mv (.t 3))⟩, ⟨(some 44), none, (.mv (.t 6))⟩, ⟨(some 45), none, (.ixsl 2 (.t 43) (.t 44))⟩, ⟨(some 46), none, (.load true 2 (.t 45))⟩, ⟨(some 47), none, (.call 50 [(.t 46)])⟩, ⟨(some 48), none, (.ixsl 2 (.t 41) (.t 42))⟩, ⟨none, none, (.store 2 (.t 48) (.t 47))⟩])
  .skip))
  (.dreg [⟨(some 50), none, [], (.mv (.t 3))⟩, ⟨(some 51), none, [], (.mv (.t 6))⟩, ⟨(some 52), none, [], (.mv (.t 3))⟩, ⟨(some 53), none, [], (.mv (.t 6))⟩, ⟨(some 54), none, [], (.ixsl 2 (.t 52) (.t 53))⟩, ⟨(some 55), none, [], (.load true 2 (.t 54))⟩, ⟨(some 56), none, [], (.load true 2 (.t 5))⟩, ⟨(some 57), none, [], (.call 51 [(.t 55), (.t 56)])⟩, ⟨(some 49), none, [], (.mv (.t 57))⟩, ⟨(some 58), none, [], (.ext (.t 49) 0)⟩, ⟨(some 59), none, [], (.ext (.t 49) 1)⟩, ⟨(some 60), none, [], (.ext (.t 49) 2)⟩, ⟨(some 61), none, [], (.ixsl 2 (.t 50) (.t 51))⟩, ⟨none, none, [], (.store 2 (.t 61) (.t 58))⟩]))))
  (.reg [⟨(some 62), none, (.bin .add (.t 37) (.c (.int .i64 1)))⟩, ⟨(some 37), none, (.mv (.t 62))⟩])))))))
  (.seq (.dreg [⟨(some 63), none, [], (.mv (.t 3))⟩, ⟨(some 64), none, [], (.ixsl 2 (.t 63) (.c (.int .i64 0)))⟩, ⟨(some 65), none, [], (.load true 2 (.t 64))⟩, ⟨(some 66), none, [], (.mv (.t 3))⟩, ⟨(some 67), none, [], (.ixsl 2 (.t 66) (.c (.int .i64 1)))⟩, ⟨(some 68), none, [], (.load true 2 (.t 67))⟩, ⟨(some 69), none, [], (.mv (.t 3))⟩, ⟨(some 70), none, [], (.ixsl 2 (.t 69) (.c (.int .i64 2)))⟩, ⟨(some 71), none, [], (.load true 2 (.t 70))⟩, ⟨(some 72), none, [], (.mv (.t 3))⟩, ⟨(some 73), none, [], (.ixsl 2 (.t 72) (.c (.int .i64 3)))⟩, ⟨(some 74), none, [], (.load true 2 (.t 73))⟩, ⟨(some 75), none, [], (.build [(.bool false), (.string ⟨⟨[]⟩⟩), (.bool false), (.string ⟨⟨[]⟩⟩), (.bool false), (.string ⟨⟨[]⟩⟩), (.bool false), (.string ⟨⟨[]⟩⟩)] [(0, 2, (.t 65)), (2, 2, (.t 68)), (4, 2, (.t 71)), (6, 2, (.t 74))])⟩, ⟨none, none, [], (.store 8 (.t 2) (.t 75))⟩])
  .ret)))))))
theorem tr14 : trFun Tryz.prog 14 = some ⟨76, [.cell 2 true 8], c14⟩ := by kernel_rfl
set_option maxHeartbeats 1000000 in
theorem ok_r4Norm : SpecOK Tryz.prog 14 (flat spR4Norm) := by
  refine flat_run (env_cons ok_r2Norm (env_cons ok_r2Sign (env_cons ok_r2From (env_cons ok_r2Gcd (env_cons ok_r2Neg (env_cons ok_r2Div (env_nil _))))))) mixed tr14 ?_
  intro args v h N hG
  unfold spR4Norm at hG
  split at hG
  case h_2 => cases hG
  rename_i s1 l1 s2 l2 s3 l3 s4 l4
  split at hG
  case isFalse => cases hG
  rename_i hl
  obtain ⟨h1, h2, h3, h4⟩ := hl
  cases hG
  refine ⟨rfl, by simp, ?_⟩
  have k1 : l1.length ≤ 1099511627776 := by omega
  have k2 : l2.length ≤ 1099511627776 := by omega
  have k3 : l3.length ≤ 1099511627776 := by omega
  have k4 : l4.length ≤ 1099511627776 := by omega
  have n1 := len_sv (s := s1) h1
  have n2 := len_sv (s := s2) h2
  have n3 := len_sv (s := s3) h3
  have n4 := len_sv (s := s4) h4
  have n4' : (bl (sv s4 l4).natAbs).length ≤ 1099511627776 := by omega
  simp only [c14, initT, List.zipIdx_cons, List.zipIdx_nil, List.map_cons, List.map_nil, Nat.reduceAdd]
  simp only [↓R0, R1, rdL, rdH, isCall, istep, ibin, vcells, fillI, setR, flat, okCell, isBase, List.set, List.drop, List.take, List.append, bnds, bhi, blo, srcOf, simprocAttr, -Int.reduceAbs, spI2Norm, k1, k2, k3, k4, iE]
  generalize sv s1 l1 = x at *
  generalize sv s2 l2 = y at *
  generalize sv s3 l3 = z at *
  generalize sv s4 l4 = w at *
  have e1 : (w.sign = 0) = (w = 0) := propext Int.sign_eq_zero_iff_zero
  simp only [↓R0, R1, rdL, rdH, isCall, istep, ibin, vcells, fillI, setR, flat, okCell, isBase, List.set, List.drop, List.take, List.append, bnds, bhi, blo, srcOf, simprocAttr, -Int.reduceAbs, spI2Sign, n4', e1]
  have rest : ∀ W : Int, W = pW w → (bl W.natAbs).length ≤ 34359738368 := by
    intro W e
    subst e
    unfold pW; split
    · exact Nat.le_trans (bl_length_le (k := 1).2 (by decide)) (by omega)
    · exact n4
  unfold pE pQ pG
  generalize hW : pW w = W at *
  have nW := rest W rfl
  have nW2 : (bl W.natAbs).length ≤ 1099511627776 := by omega
  have hWne : W ≠ 0 := by rw [← hW]; exact pW_ne w
  generalize hGG : Nat.gcd (Nat.gcd (Nat.gcd x.natAbs y.natAbs) z.natAbs) W.natAbs = G at *
  have m1 : (bl x.natAbs).length ≤ 68719476736 := by omega
  have m2 : (bl y.natAbs).length ≤ 68719476736 := by omega
  have m3 : (bl z.natAbs).length ≤ 68719476736 := by omega
  have m4 : (bl W.natAbs).length ≤ 68719476736 := by omega
  have hG0 : 0 < G := by rw [← hGG]; exact Nat.gcd_pos_of_pos_right _ (by omega)
  have mG : (bl G).length ≤ 68719476736 := by
    rw [← hGG]; exact Nat.le_trans (bl_length_mono (Nat.gcd_le_right _ (by omega))) m4
  have f1 : ¬ ((G : Int) < 0) := by omega
  have f2 : ¬ (G = 0) := by omega
  have f5 : sv false (bl G) = (G : Int) := by rw [sv_false, nl_bl]
  have k5 : (bl x.natAbs).length ≤ 1099511627776 := by omega
  have k6 : (bl y.natAbs).length ≤ 1099511627776 := by omega
  have k7 : (bl z.natAbs).length ≤ 1099511627776 := by omega
  have k8 := nW2
  have r1 : (bl (-x).natAbs).length ≤ 68719476736 := by rw [Int.natAbs_neg]; exact m1
  have r2 : (bl (-y).natAbs).length ≤ 68719476736 := by rw [Int.natAbs_neg]; exact m2
  have r3 : (bl (-z).natAbs).length ≤ 68719476736 := by rw [Int.natAbs_neg]; exact m3
  have r4 : (bl (-W).natAbs).length ≤ 68719476736 := by rw [Int.natAbs_neg]; exact m4
  have w1 : IntKind.i64.wrap 1 = 1 := i64_in _ (by omega)
  have w2 : IntKind.i64.wrap 2 = 2 := i64_in _ (by omega)
  have w3 : IntKind.i64.wrap 3 = 3 := i64_in _ (by omega)
  have w4 : IntKind.i64.wrap 4 = 4 := i64_in _ (by omega)
  have eW : (W.sign < 0) = (W < 0) := propext Int.sign_neg_iff
  by_cases hw : w = 0
  · have hfrom : spI2From [.int .i64 1] = some (.agg ⟨iE W⟩) := by
      rw [← hW]; unfold pW; rw [if_pos hw]; rfl
    simp only [↓R0, R1, rdL, rdH, isCall, istep, ibin, vcells, fillI, setR, flat, okCell, isBase, List.set, List.drop, List.take, List.append, bnds, bhi, blo, srcOf, simprocAttr, -Int.reduceAbs, hw, hfrom, iE, spI2Sign, nW2, eW, rdS, spI2Gcd, ints, gcds, List.foldl_cons, List.foldl_nil, Nat.gcd_zero_left, nl_bl, List.forall_mem_cons, m1, m2, m3, m4, List.not_mem_nil, false_implies, implies_true, hGG, f1, Int.natAbs_natCast]
    by_cases hn : W < 0
    · have sW : sv true (bl W.natAbs) = W := by rw [sv_true, nl_bl]; omega
      simp only [↓R0, R1, rdL, rdH, isCall, istep, ibin, vcells, fillI, setR, flat, okCell, isBase, List.set, List.drop, List.take, List.append, bnds, bhi, blo, srcOf, simprocAttr, -Int.reduceAbs, hn]
      refine lp_step ?_
      simp only [↓R0, R1, rdL, rdH, isCall, istep, ibin, vcells, fillI, setR, flat, okCell, isBase, List.set, List.drop, List.take, List.append, bnds, bhi, blo, srcOf, simprocAttr, -Int.reduceAbs, hn, spI2Neg, spI2Div, k5, k6, k7, k8, m1, m2, m3, m4, mG, f1, f2, f5, nl_bl, r1, r2, r3, r4, sW, w1, w2, w3, w4, iE]
      refine lp_step ?_
      simp only [↓R0, R1, rdL, rdH, isCall, istep, ibin, vcells, fillI, setR, flat, okCell, isBase, List.set, List.drop, List.take, List.append, bnds, bhi, blo, srcOf, simprocAttr, -Int.reduceAbs, hn, spI2Neg, spI2Div, k5, k6, k7, k8, m1, m2, m3, m4, mG, f1, f2, f5, nl_bl, r1, r2, r3, r4, sW, w1, w2, w3, w4, iE]
      refine lp_step ?_
      simp only [↓R0, R1, rdL, rdH, isCall, istep, ibin, vcells, fillI, setR, flat, okCell, isBase, List.set, List.drop, List.take, List.append, bnds, bhi, blo, srcOf, simprocAttr, -Int.reduceAbs, hn, spI2Neg, spI2Div, k5, k6, k7, k8, m1, m2, m3, m4, mG, f1, f2, f5, nl_bl, r1, r2, r3, r4, sW, w1, w2, w3, w4, iE]
      refine lp_step ?_
      simp only [↓R0, R1, rdL, rdH, isCall, istep, ibin, vcells, fillI, setR, flat, okCell, isBase, List.set, List.drop, List.take, List.append, bnds, bhi, blo, srcOf, simprocAttr, -Int.reduceAbs, hn, spI2Neg, spI2Div, k5, k6, k7, k8, m1, m2, m3, m4, mG, f1, f2, f5, nl_bl, r1, r2, r3, r4, sW, w1, w2, w3, w4, iE]
      refine lp_step ?_
      simp only [↓R0, R1, rdL, rdH, isCall, istep, ibin, vcells, fillI, setR, flat, okCell, isBase, List.set, List.drop, List.take, List.append, bnds, bhi, blo, srcOf, simprocAttr, -Int.reduceAbs, hn, Fin, isEnd, resL, res1, iE, rE]
      exact ⟨_, rfl, rfl, fun k hk => by simp only [ne_nb hk, if_false]⟩
    · have sW : sv false (bl W.natAbs) = W := by rw [sv_false, nl_bl]; omega
      simp only [↓R0, R1, rdL, rdH, isCall, istep, ibin, vcells, fillI, setR, flat, okCell, isBase, List.set, List.drop, List.take, List.append, bnds, bhi, blo, srcOf, simprocAttr, -Int.reduceAbs, hn]
      refine lp_step ?_
      simp only [↓R0, R1, rdL, rdH, isCall, istep, ibin, vcells, fillI, setR, flat, okCell, isBase, List.set, List.drop, List.take, List.append, bnds, bhi, blo, srcOf, simprocAttr, -Int.reduceAbs, hn, spI2Neg, spI2Div, k5, k6, k7, k8, m1, m2, m3, m4, mG, f1, f2, f5, nl_bl, sW, w1, w2, w3, w4, iE]
      refine lp_step ?_
      simp only [↓R0, R1, rdL, rdH, isCall, istep, ibin, vcells, fillI, setR, flat, okCell, isBase, List.set, List.drop, List.take, List.append, bnds, bhi, blo, srcOf, simprocAttr, -Int.reduceAbs, hn, spI2Neg, spI2Div, k5, k6, k7, k8, m1, m2, m3, m4, mG, f1, f2, f5, nl_bl, sW, w1, w2, w3, w4, iE]
      refine lp_step ?_
      simp only [↓R0, R1, rdL, rdH, isCall, istep, ibin, vcells, fillI, setR, flat, okCell, isBase, List.set, List.drop, List.take, List.append, bnds, bhi, blo, srcOf, simprocAttr, -Int.reduceAbs, hn, spI2Neg, spI2Div, k5, k6, k7, k8, m1, m2, m3, m4, mG, f1, f2, f5, nl_bl, sW, w1, w2, w3, w4, iE]
      refine lp_step ?_
      simp only [↓R0, R1, rdL, rdH, isCall, istep, ibin, vcells, fillI, setR, flat, okCell, isBase, List.set, List.drop, List.take, List.append, bnds, bhi, blo, srcOf, simprocAttr, -Int.reduceAbs, hn, spI2Neg, spI2Div, k5, k6, k7, k8, m1, m2, m3, m4, mG, f1, f2, f5, nl_bl, sW, w1, w2, w3, w4, iE]
      refine lp_step ?_
      simp only [↓R0, R1, rdL, rdH, isCall, istep, ibin, vcells, fillI, setR, flat, okCell, isBase, List.set, List.drop, List.take, List.append, bnds, bhi, blo, srcOf, simprocAttr, -Int.reduceAbs, hn, Fin, isEnd, resL, res1, iE, rE]
      exact ⟨_, rfl, rfl, fun k hk => by simp only [ne_nb hk, if_false]⟩
  · have hWw : W = w := by rw [← hW]; unfold pW; rw [if_neg hw]
    subst hWw
    simp only [↓R0, R1, rdL, rdH, isCall, istep, ibin, vcells, fillI, setR, flat, okCell, isBase, List.set, List.drop, List.take, List.append, bnds, bhi, blo, srcOf, simprocAttr, -Int.reduceAbs, hw, iE, spI2Sign, nW2, eW, rdS, spI2Gcd, ints, gcds, List.foldl_cons, List.foldl_nil, Nat.gcd_zero_left, nl_bl, List.forall_mem_cons, m1, m2, m3, m4, List.not_mem_nil, false_implies, implies_true, hGG, f1, Int.natAbs_natCast]
    by_cases hn : W < 0
    · have sW : sv true (bl W.natAbs) = W := by rw [sv_true, nl_bl]; omega
      simp only [↓R0, R1, rdL, rdH, isCall, istep, ibin, vcells, fillI, setR, flat, okCell, isBase, List.set, List.drop, List.take, List.append, bnds, bhi, blo, srcOf, simprocAttr, -Int.reduceAbs, hn]
      refine lp_step ?_
      simp only [↓R0, R1, rdL, rdH, isCall, istep, ibin, vcells, fillI, setR, flat, okCell, isBase, List.set, List.drop, List.take, List.append, bnds, bhi, blo, srcOf, simprocAttr, -Int.reduceAbs, hn, spI2Neg, spI2Div, k5, k6, k7, k8, m1, m2, m3, m4, mG, f1, f2, f5, nl_bl, r1, r2, r3, r4, sW, w1, w2, w3, w4, iE]
      refine lp_step ?_
      simp only [↓R0, R1, rdL, rdH, isCall, istep, ibin, vcells, fillI, setR, flat, okCell, isBase, List.set, List.drop, List.take, List.append, bnds, bhi, blo, srcOf, simprocAttr, -Int.reduceAbs, hn, spI2Neg, spI2Div, k5, k6, k7, k8, m1, m2, m3, m4, mG, f1, f2, f5, nl_bl, r1, r2, r3, r4, sW, w1, w2, w3, w4, iE]
      refine lp_step ?_
      simp only [↓R0, R1, rdL, rdH, isCall, istep, ibin, vcells, fillI, setR, flat, okCell, isBase, List.set, List.drop, List.take, List.append, bnds, bhi, blo, srcOf, simprocAttr, -Int.reduceAbs, hn, spI2Neg, spI2Div, k5, k6, k7, k8, m1, m2, m3, m4, mG, f1, f2, f5, nl_bl, r1, r2, r3, r4, sW, w1, w2, w3, w4, iE]
      refine lp_step ?_
      simp only [↓R0, R1, rdL, rdH, isCall, istep, ibin, vcells, fillI, setR, flat, okCell, isBase, List.set, List.drop, List.take, List.append, bnds, bhi, blo, srcOf, simprocAttr, -Int.reduceAbs, hn, spI2Neg, spI2Div, k5, k6, k7, k8, m1, m2, m3, m4, mG, f1, f2, f5, nl_bl, r1, r2, r3, r4, sW, w1, w2, w3, w4, iE]
      refine lp_step ?_
      simp only [↓R0, R1, rdL, rdH, isCall, istep, ibin, vcells, fillI, setR, flat, okCell, isBase, List.set, List.drop, List.take, List.append, bnds, bhi, blo, srcOf, simprocAttr, -Int.reduceAbs, hn, Fin, isEnd, resL, res1, iE, rE]
      exact ⟨_, rfl, rfl, fun k hk => by simp only [ne_nb hk, if_false]⟩
    · have sW : sv false (bl W.natAbs) = W := by rw [sv_false, nl_bl]; omega
      simp only [↓R0, R1, rdL, rdH, isCall, istep, ibin, vcells, fillI, setR, flat, okCell, isBase, List.set, List.drop, List.take, List.append, bnds, bhi, blo, srcOf, simprocAttr, -Int.reduceAbs, hn]
      refine lp_step ?_
      simp only [↓R0, R1, rdL, rdH, isCall, istep, ibin, vcells, fillI, setR, flat, okCell, isBase, List.set, List.drop, List.take, List.append, bnds, bhi, blo, srcOf, simprocAttr, -Int.reduceAbs, hn, spI2Neg, spI2Div, k5, k6, k7, k8, m1, m2, m3, m4, mG, f1, f2, f5, nl_bl, sW, w1, w2, w3, w4, iE]
      refine lp_step ?_
      simp only [↓R0, R1, rdL, rdH, isCall, istep, ibin, vcells, fillI, setR, flat, okCell, isBase, List.set, List.drop, List.take, List.append, bnds, bhi, blo, srcOf, simprocAttr, -Int.reduceAbs, hn, spI2Neg, spI2Div, k5, k6, k7, k8, m1, m2, m3, m4, mG, f1, f2, f5, nl_bl, sW, w1, w2, w3, w4, iE]
      refine lp_step ?_
      simp only [↓R0, R1, rdL, rdH, isCall, istep, ibin, vcells, fillI, setR, flat, okCell, isBase, List.set, List.drop, List.take, List.append, bnds, bhi, blo, srcOf, simprocAttr, -Int.reduceAbs, hn, spI2Neg, spI2Div, k5, k6, k7, k8, m1, m2, m3, m4, mG, f1, f2, f5, nl_bl, sW, w1, w2, w3, w4, iE]
      refine lp_step ?_
      simp only [↓R0, R1, rdL, rdH, isCall, istep, ibin, vcells, fillI, setR, flat, okCell, isBase, List.set, List.drop, List.take, List.append, bnds, bhi, blo, srcOf, simprocAttr, -Int.reduceAbs, hn, spI2Neg, spI2Div, k5, k6, k7, k8, m1, m2, m3, m4, mG, f1, f2, f5, nl_bl, sW, w1, w2, w3, w4, iE]
      refine lp_step ?_
      simp only [↓R0, R1, rdL, rdH, isCall, istep, ibin, vcells, fillI, setR, flat, okCell, isBase, List.set, List.drop, List.take, List.append, bnds, bhi, blo, srcOf, simprocAttr, -Int.reduceAbs, hn, Fin, isEnd, resL, res1, iE, rE]
      exact ⟨_, rfl, rfl, fun k hk => by simp only [ne_nb hk, if_false]⟩
end Go.Eng
end
section
set_option linter.unusedVariables false
set_option linter.unusedSimpArgs false
set_option linter.unusedSectionVars false
namespace Go.Eng
def RB (q : Rat) (k : Nat) : Prop := (bl q.num.natAbs).length ≤ k ∧ (bl q.den).length ≤ k
theorem divInt_RB {N D : Int} {k : Nat} (hD : D ≠ 0) (h1 : (bl N.natAbs).length ≤ k) (h2 : (bl D.natAbs).length ≤ k) : RB (Rat.divInt N D) k := by
  obtain ⟨g1, g2, _⟩ := divInt_cells (N := N) (D := D) hD
  unfold RB
  rw [g1, g2]
  exact ⟨Nat.le_trans (bl_length_mono (Nat.div_le_self _ _)) h1, Nat.le_trans (bl_length_mono (Nat.div_le_self _ _)) h2⟩
theorem Lmul {a b : Int} {i j : Nat} (ha : (bl a.natAbs).length ≤ i) (hb : (bl b.natAbs).length ≤ j) : (bl (a * b).natAbs).length ≤ i + j := by
  rw [Int.natAbs_mul]; exact Nat.le_trans (bl_length_mul _ _) (by omega)
theorem Ladd {a b : Int} {k : Nat} (ha : (bl a.natAbs).length ≤ k) (hb : (bl b.natAbs).length ≤ k) : (bl (a + b).natAbs).length ≤ k + 1 :=
  Nat.le_trans (bl_length_mono (Int.natAbs_add_le a b)) (bl_length_add ha hb)
theorem RB.mul {p q : Rat} {i j k : Nat} (hp : RB p i) (hq : RB q j) (h : i + j ≤ k) : RB (p * q) k := by
  have hp0 := p.den_nz
  have hq0 := q.den_nz
  conv => lhs; rw [← Rat.num_divInt_den p, ← Rat.num_divInt_den q, Rat.divInt_mul_divInt]
  refine divInt_RB (by rw [← Int.natCast_mul]; simp [hp0, hq0]) (Nat.le_trans (Lmul hp.1 hq.1) h) ?_
  exact Nat.le_trans (Lmul (a := (p.den : Int)) (b := (q.den : Int)) hp.2 hq.2) h
theorem RB.add {p q : Rat} {i j k : Nat} (hp : RB p i) (hq : RB q j) (h : i + j + 1 ≤ k) : RB (p + q) k := by
  have hp0 := p.den_nz
  have hq0 := q.den_nz
  conv => lhs; rw [← Rat.num_divInt_den p, ← Rat.num_divInt_den q, Rat.divInt_add_divInt _ _ (by simp [hp0]) (by simp [hq0])]
  refine divInt_RB (by rw [← Int.natCast_mul]; simp [hp0, hq0]) ?_ ?_
  · refine Nat.le_trans (Ladd (k := i + j) (Lmul (b := (q.den : Int)) hp.1 hq.2) ?_) h
    exact Nat.le_trans (Lmul (b := (p.den : Int)) hq.1 hp.2) (by omega)
  · exact Nat.le_trans (Lmul (a := (p.den : Int)) (b := (q.den : Int)) hp.2 hq.2) (by omega)
theorem RB.neg {p : Rat} {i : Nat} (hp : RB p i) : RB (-p) i := by
  unfold RB; rw [Rat.neg_num, Rat.neg_den, Int.natAbs_neg]; exact hp
theorem RB.sub {p q : Rat} {i j k : Nat} (hp : RB p i) (hq : RB q j) (h : i + j + 1 ≤ k) : RB (p - q) k := by
  rw [Rat.sub_eq_add_neg]; exact hp.add hq.neg h
theorem RB.inv {p : Rat} {i : Nat} (hp : RB p i) (h1 : 1 ≤ i) : RB p⁻¹ i := by
  by_cases h : p = 0
  · subst h
    have e : ((0 : Rat)⁻¹) = 0 := by first | exact Rat.inv_zero | grind
    rw [e]; unfold RB
    refine ⟨?_, ?_⟩
    · rw [show (0 : Rat).num.natAbs = 0 from rfl, bl_zero]; exact Nat.zero_le _
    · exact Nat.le_trans (bl_length_le (k := 1).2 (by decide)) h1
  · have hn : p.num ≠ 0 := fun e => h (Rat.num_eq_zero.1 e)
    conv => lhs; rw [← Rat.num_divInt_den p, Rat.inv_divInt]
    exact divInt_RB hn hp.2 hp.1
theorem RB.div {p q : Rat} {i j k : Nat} (hp : RB p i) (hq : RB q j) (h1 : 1 ≤ j) (h : i + j ≤ k) : RB (p / q) k := by
  rw [Rat.div_def]; exact hp.mul (hq.inv h1) h
theorem RB.le {p : Rat} {i k : Nat} (hp : RB p i) (h : i ≤ k) : RB p k := ⟨Nat.le_trans hp.1 h, Nat.le_trans hp.2 h⟩
theorem RB.num {p : Rat} {i k : Nat} (hp : RB p i) (h : i ≤ k) : (bl p.num.natAbs).length ≤ k := Nat.le_trans hp.1 h
theorem RB.den {p : Rat} {i k : Nat} (hp : RB p i) (h : i ≤ k) : (if p.den = 1 then ([] : List UInt8) else bl p.den).length ≤ k := by
  split
  · simp
  · exact Nat.le_trans hp.2 h
theorem RB.den' {p : Rat} {i k : Nat} (hp : RB p i) (h : i + 1 ≤ k) : (if p.den = 1 then ([] : List UInt8) else bl p.den).length + 1 ≤ k := by
  have := hp.den (k := i) (Nat.le_refl _); omega
theorem RB.raw {s : Bool} {n d : List UInt8} {k : Nat} (hn : n.length ≤ k) (hd : d.length ≤ k) : RB (rv s n d) (k + 1) := by
  unfold rv
  refine divInt_RB (by have := dv_pos d; omega) ?_ ?_
  · rw [sv_natAbs]; exact Nat.le_trans (bl_length_nl n) (by omega)
  · unfold dv; split
    · exact Nat.le_trans (bl_length_le (k := 1).2 (by decide)) (by omega)
    · rw [Int.natAbs_natCast]; exact Nat.le_trans (bl_length_nl d) (by omega)
theorem RB.int {z : Int} {k : Nat} (h : (bl z.natAbs).length ≤ k) (h1 : 1 ≤ k) : RB (z : Rat) k := by
  unfold RB; rw [Rat.num_intCast, Rat.den_intCast]
  exact ⟨h, Nat.le_trans (bl_length_le (k := 1).2 (by decide)) h1⟩
theorem divInt_one (z : Int) : Rat.divInt z 1 = (z : Rat) := by
  rw [Rat.divInt_eq_div]
  have : ((1 : Int) : Rat) = 1 := rfl
  rw [this, Rat.div_def]
  have e : (1 : Rat)⁻¹ = 1 := by grind
  rw [e, Rat.mul_one]
theorem rv_int (z : Int) : rv (decide (z < 0)) (bl z.natAbs) [] = (z : Rat) := by
  unfold rv; rw [sv_can]; exact divInt_one z
theorem rE_int (z : Int) : rE (z : Rat) = [.bool (decide (z < 0)), .string ⟨⟨bl z.natAbs⟩⟩, .string ⟨⟨[]⟩⟩] := rfl
def r3E (x y z : Rat) : List Value := rE x ++ rE y ++ rE z
def mkE (x y z : Rat) : List Value := pE (x.num * ((y.den : Int) * z.den)) (y.num * ((x.den : Int) * z.den)) (z.num * ((x.den : Int) * y.den)) ((x.den : Int) * y.den * z.den)
theorem mkE_pE {x y z w : Int} (hw : w ≠ 0) : mkE (Rat.divInt x w) (Rat.divInt y w) (Rat.divInt z w) = pE x y z w := by
  have key : ∀ n : Int, (Rat.divInt n w).num * w = n * (Rat.divInt n w).den := by
    intro n
    have h := Rat.num_divInt_den (Rat.divInt n w)
    rw [Rat.divInt_eq_divInt_iff (by have := (Rat.divInt n w).den_nz; omega) hw] at h
    exact h
  have hx := (Rat.divInt x w).den_nz
  have hy := (Rat.divInt y w).den_nz
  have hz := (Rat.divInt z w).den_nz
  have kx := key x
  have ky := key y
  have kz := key z
  unfold mkE
  generalize (Rat.divInt x w).den = a at *
  generalize (Rat.divInt y w).den = b at *
  generalize (Rat.divInt z w).den = c at *
  generalize (Rat.divInt x w).num = X at *
  generalize (Rat.divInt y w).num = Y at *
  generalize (Rat.divInt z w).num = Z at *
  refine pE_eq ?_ hw ?_ ?_ ?_
  · have h1 : (a : Int) ≠ 0 := by omega
    have h2 : (b : Int) ≠ 0 := by omega
    have h3 : (c : Int) ≠ 0 := by omega
    exact Int.mul_ne_zero (Int.mul_ne_zero h1 h2) h3
  · grind
  · grind
  · grind
end Go.Eng
end
section
set_option linter.unusedVariables false
set_option linter.unusedSimpArgs false
set_option linter.unusedSectionVars false
namespace Go.Eng
theorem pG_dvd_x (x y z w : Int) : (pG x y z w : Int) ∣ x := by
  refine Int.ofNat_dvd_left.2 ?_; exact Nat.dvd_trans (Nat.gcd_dvd_left _ _) (Nat.dvd_trans (Nat.gcd_dvd_left _ _) (Nat.gcd_dvd_left _ _))
theorem pG_dvd_y (x y z w : Int) : (pG x y z w : Int) ∣ y := by
  refine Int.ofNat_dvd_left.2 ?_; exact Nat.dvd_trans (Nat.gcd_dvd_left _ _) (Nat.dvd_trans (Nat.gcd_dvd_left _ _) (Nat.gcd_dvd_right _ _))
theorem pG_dvd_z (x y z w : Int) : (pG x y z w : Int) ∣ z := by
  refine Int.ofNat_dvd_left.2 ?_; exact Nat.dvd_trans (Nat.gcd_dvd_left _ _) (Nat.gcd_dvd_right _ _)
theorem pG_dvd_w (x y z w : Int) : (pG x y z w : Int) ∣ pW w := by
  refine Int.ofNat_dvd_left.2 ?_; exact Nat.gcd_dvd_right _ _
theorem pQ_len {x y z w a : Int} {k : Nat} (h : (bl a.natAbs).length ≤ k) : (bl (pQ x y z w a).natAbs).length ≤ k := by
  unfold pQ
  refine Nat.le_trans (bl_length_mono (Int.natAbs_ediv_le_natAbs _ _)) ?_
  split
  · rw [Int.natAbs_neg]; exact h
  · exact h
theorem pQ_mul {x y z w a : Int} (h : (pG x y z w : Int) ∣ a) : pQ x y z w a * (pG x y z w : Int) = if pW w < 0 then -a else a := by
  unfold pQ
  split
  · exact Int.ediv_mul_cancel (Int.dvd_neg.2 h)
  · exact Int.ediv_mul_cancel h
theorem pQ_pos (x y z w : Int) : 0 < pQ x y z w (pW w) := by
  have h := pQ_mul (pG_dvd_w x y z w)
  have hg := pG_pos x y z w
  have hw := pW_ne w
  have hp : 0 < pQ x y z w (pW w) * (pG x y z w : Int) := by
    rw [h]; split <;> omega
  exact Int.pos_of_mul_pos_left hp (by omega)
theorem pQ_div {x y z w a : Int} (h : (pG x y z w : Int) ∣ a) : Rat.divInt (pQ x y z w a) (pQ x y z w (pW w)) = Rat.divInt a (pW w) := by
  have h1 := pQ_mul h
  have h2 := pQ_mul (pG_dvd_w x y z w)
  have hp := pQ_pos x y z w
  have hw := pW_ne w
  have hg := pG_pos x y z w
  rw [Rat.divInt_eq_divInt_iff (by omega) hw]
  have hg' : (pG x y z w : Int) ≠ 0 := by omega
  generalize (pG x y z w : Int) = g at *
  generalize pQ x y z w a = q at *
  generalize pQ x y z w (pW w) = r at *
  by_cases c : pW w < 0
  · rw [if_pos c] at h1 h2
    apply Int.eq_of_mul_eq_mul_right hg'
    grind
  · rw [if_neg c] at h1 h2
    apply Int.eq_of_mul_eq_mul_right hg'
    grind
theorem line_by {A B C x1 y1 z1 w1 x2 y2 z2 w2 D : Int} (h1 : w1 ≠ 0) (h2 : w2 ≠ 0) :
    (A : Rat) * (Rat.divInt x2 w2 - Rat.divInt x1 w1) + (B : Rat) * (Rat.divInt y2 w2 - Rat.divInt y1 w1) + (C : Rat) * (Rat.divInt z2 w2 - Rat.divInt z1 w1) =
      Rat.divInt (w1 * (A * x2 + B * y2 + C * z2 - D * w2) - w2 * (A * x1 + B * y1 + C * z1 - D * w1)) (w1 * w2) := by
  have e1 : (w1 : Rat) ≠ 0 := fun e => h1 (by exact_mod_cast e)
  have e2 : (w2 : Rat) ≠ 0 := fun e => h2 (by exact_mod_cast e)
  simp only [Rat.divInt_eq_div, Rat.intCast_sub, Rat.intCast_add, Rat.intCast_mul]
  generalize (w1 : Rat) = W1 at *
  generalize (w2 : Rat) = W2 at *
  grind
theorem line_zero {N a b : Int} (ha : a ≠ 0) (hb : b ≠ 0) : Rat.divInt N (a * b) = 0 ↔ N = 0 := by
  rw [Rat.divInt_eq_div]
  have e : ((a * b : Int) : Rat) ≠ 0 := fun e => by
    have : a * b = 0 := by exact_mod_cast e
    exact Int.mul_ne_zero ha hb this
  constructor
  · intro h
    have : (N : Rat) = 0 := by
      generalize ((a * b : Int) : Rat) = d at *
      grind
    exact_mod_cast this
  · intro h
    subst h
    have : ((0 : Int) : Rat) = 0 := rfl
    rw [this]
    grind
theorem line_at {A B C D x1 y1 z1 w1 x2 y2 z2 w2 p1 p2 : Int} (h1 : w1 ≠ 0) (h2 : w2 ≠ 0) {N S T : Int} (hS : S = A * x1 + B * y1 + C * z1 - D * w1) (hT : T = A * x2 + B * y2 + C * z2 - D * w2) (hN : N = w1 * T - w2 * S) (h0 : N ≠ 0) :
    Rat.divInt p1 w1 + (Rat.divInt p2 w2 - Rat.divInt p1 w1) * (((D : Rat) - ((A : Rat) * Rat.divInt x1 w1 + (B : Rat) * Rat.divInt y1 w1 + (C : Rat) * Rat.divInt z1 w1)) / Rat.divInt N (w1 * w2)) =
      Rat.divInt (p1 * T - p2 * S) N := by
  have e1 : (w1 : Rat) ≠ 0 := fun e => h1 (by exact_mod_cast e)
  have e2 : (w2 : Rat) ≠ 0 := fun e => h2 (by exact_mod_cast e)
  have e3 : (N : Rat) ≠ 0 := fun e => h0 (by exact_mod_cast e)
  have hS' : (S : Rat) = (A : Rat) * x1 + (B : Rat) * y1 + (C : Rat) * z1 - (D : Rat) * w1 := by rw [hS]; simp only [Rat.intCast_sub, Rat.intCast_add, Rat.intCast_mul]
  have hN' : (N : Rat) = (w1 : Rat) * T - (w2 : Rat) * S := by rw [hN]; simp only [Rat.intCast_sub, Rat.intCast_add, Rat.intCast_mul]
  simp only [Rat.divInt_eq_div, Rat.intCast_sub, Rat.intCast_add, Rat.intCast_mul]
  clear hS hT hN h0 h1 h2
  generalize (w1 : Rat) = W1 at *
  generalize (w2 : Rat) = W2 at *
  generalize (N : Rat) = n at *
  generalize (S : Rat) = s at *
  generalize (T : Rat) = t at *
  generalize (A : Rat) = a at *
  generalize (B : Rat) = b at *
  generalize (C : Rat) = c at *
  generalize (D : Rat) = d at *
  generalize (x1 : Rat) = X1 at *
  generalize (y1 : Rat) = Y1 at *
  generalize (z1 : Rat) = Z1 at *
  generalize (p1 : Rat) = P1 at *
  generalize (p2 : Rat) = P2 at *
  have k : d - (a * (X1 / W1) + b * (Y1 / W1) + c * (Z1 / W1)) = - s / W1 := by grind
  rw [k]
  have k2 : -s / W1 / (n / (W1 * W2)) = - s * W2 / n := by grind
  rw [k2]
  grind
theorem pW_len {w : Int} {k : Nat} (h : (bl w.natAbs).length ≤ k) (hk : 1 ≤ k) : (bl (pW w).natAbs).length ≤ k := by
  unfold pW; split
  · exact Nat.le_trans (bl_length_le (k := 1).2 (by decide)) hk
  · exact h
end Go.Eng
end
section
set_option linter.unusedVariables false
set_option linter.unusedSimpArgs false
set_option linter.unusedSectionVars false
namespace Go.Eng
def aw (x w y v : Int) : Int := y * w - x * v
def thN (a2 a3 a4 b2 b3 b4 c2 c3 c4 : Int) : Int := aw a2 a4 b2 b4 * aw a3 a4 c3 c4 - aw a3 a4 b3 b4 * aw a2 a4 c2 c4
structure ThC where
  (x y z w : Int)
def thC (a1 a2 a3 a4 b1 b2 b3 b4 c1 c2 c3 c4 : Int) : ThC :=
  ⟨thN a2 a3 a4 b2 b3 b4 c2 c3 c4 * a4, thN a3 a1 a4 b3 b1 b4 c3 c1 c4 * a4, thN a1 a2 a4 b1 b2 b4 c1 c2 c4 * a4,
   thN a2 a3 a4 b2 b3 b4 c2 c3 c4 * a1 + thN a3 a1 a4 b3 b1 b4 c3 c1 c4 * a2 + thN a1 a2 a4 b1 b2 b4 c1 c2 c4 * a3⟩
def dt3 (x1 x2 x3 y1 y2 y3 z1 z2 z3 : Int) : Int := x1 * (y2 * z3 - y3 * z2) - x2 * (y1 * z3 - y3 * z1) + x3 * (y1 * z2 - y2 * z1)
def dt4 (a1 a2 a3 a4 b1 b2 b3 b4 c1 c2 c3 c4 d1 d2 d3 d4 : Int) : Int :=
  dt3 a2 a3 a4 b2 b3 b4 c2 c3 c4 * d1 + dt3 a3 a1 a4 b3 b1 b4 c3 c1 c4 * d2 + dt3 a1 a2 a4 b1 b2 b4 c1 c2 c4 * d3 - dt3 a1 a2 a3 b1 b2 b3 c1 c2 c3 * d4
def flt (a1 a2 a3 a4 b1 b2 b3 b4 c1 c2 c3 c4 : Int) : Prop :=
  dt3 a2 a3 a4 b2 b3 b4 c2 c3 c4 = 0 ∧ dt3 a3 a1 a4 b3 b1 b4 c3 c1 c4 = 0 ∧ dt3 a1 a2 a4 b1 b2 b4 c1 c2 c4 = 0
instance {a1 a2 a3 a4 b1 b2 b3 b4 c1 c2 c3 c4 : Int} : Decidable (flt a1 a2 a3 a4 b1 b2 b3 b4 c1 c2 c3 c4) := by unfold flt; infer_instance
theorem thN_eq (a2 a3 a4 b2 b3 b4 c2 c3 c4 : Int) : thN a2 a3 a4 b2 b3 b4 c2 c3 c4 = a4 * dt3 a2 a3 a4 b2 b3 b4 c2 c3 c4 := by
  unfold thN aw dt3; grind
theorem thC_w (a1 a2 a3 a4 b1 b2 b3 b4 c1 c2 c3 c4 : Int) : (thC a1 a2 a3 a4 b1 b2 b3 b4 c1 c2 c3 c4).w = a4 * (a4 * dt3 a1 a2 a3 b1 b2 b3 c1 c2 c3) := by
  unfold thC; simp only [thN_eq]; unfold dt3; grind
theorem thC_dot (a1 a2 a3 a4 b1 b2 b3 b4 c1 c2 c3 c4 d1 d2 d3 d4 : Int) :
    (thC a1 a2 a3 a4 b1 b2 b3 b4 c1 c2 c3 c4).x * d1 + (thC a1 a2 a3 a4 b1 b2 b3 b4 c1 c2 c3 c4).y * d2 + (thC a1 a2 a3 a4 b1 b2 b3 b4 c1 c2 c3 c4).z * d3 - (thC a1 a2 a3 a4 b1 b2 b3 b4 c1 c2 c3 c4).w * d4 = a4 * (a4 * dt4 a1 a2 a3 a4 b1 b2 b3 b4 c1 c2 c3 c4 d1 d2 d3 d4) := by
  rw [thC_w]
  unfold thC dt4
  simp only [thN_eq]
  generalize dt3 a2 a3 a4 b2 b3 b4 c2 c3 c4 = X
  generalize dt3 a3 a1 a4 b3 b1 b4 c3 c1 c4 = Y
  generalize dt3 a1 a2 a4 b1 b2 b4 c1 c2 c4 = Z
  generalize dt3 a1 a2 a3 b1 b2 b3 c1 c2 c3 = W
  grind
theorem thC_zero {a1 a2 a3 a4 b1 b2 b3 b4 c1 c2 c3 c4 : Int} (h : a4 ≠ 0) :
    ((thC a1 a2 a3 a4 b1 b2 b3 b4 c1 c2 c3 c4).x = 0 ∧ (thC a1 a2 a3 a4 b1 b2 b3 b4 c1 c2 c3 c4).y = 0 ∧ (thC a1 a2 a3 a4 b1 b2 b3 b4 c1 c2 c3 c4).z = 0) = flt a1 a2 a3 a4 b1 b2 b3 b4 c1 c2 c3 c4 := by
  unfold thC flt
  simp only [thN_eq, Int.mul_eq_zero, h, false_or, or_false]
theorem dt3_vert {a1 a2 a3 a4 b1 b2 b3 b4 c1 c2 c3 c4 : Int} :
    dt3 a2 a3 a4 b2 b3 b4 c2 c3 c4 * a1 + dt3 a3 a1 a4 b3 b1 b4 c3 c1 c4 * a2 + dt3 a1 a2 a4 b1 b2 b4 c1 c2 c4 * a3 = a4 * dt3 a1 a2 a3 b1 b2 b3 c1 c2 c3 := by
  unfold dt3; grind
theorem flt_dt3 {a1 a2 a3 a4 b1 b2 b3 b4 c1 c2 c3 c4 : Int} (h : a4 ≠ 0) (hf : flt a1 a2 a3 a4 b1 b2 b3 b4 c1 c2 c3 c4) : dt3 a1 a2 a3 b1 b2 b3 c1 c2 c3 = 0 := by
  have e := dt3_vert (a1 := a1) (a2 := a2) (a3 := a3) (a4 := a4) (b1 := b1) (b2 := b2) (b3 := b3) (b4 := b4) (c1 := c1) (c2 := c2) (c3 := c3) (c4 := c4)
  rw [hf.1, hf.2.1, hf.2.2, Int.zero_mul, Int.zero_mul, Int.zero_mul] at e
  have e2 := e.symm
  simp only [Int.add_zero] at e2
  rcases Int.mul_eq_zero.1 e2 with z | z
  · exact absurd z h
  · exact z
theorem flt_dt4 {a1 a2 a3 a4 b1 b2 b3 b4 c1 c2 c3 c4 d1 d2 d3 d4 : Int} (h : a4 ≠ 0) (hf : flt a1 a2 a3 a4 b1 b2 b3 b4 c1 c2 c3 c4) : dt4 a1 a2 a3 a4 b1 b2 b3 b4 c1 c2 c3 c4 d1 d2 d3 d4 = 0 := by
  unfold dt4
  rw [flt_dt3 h hf, hf.1, hf.2.1, hf.2.2]
  simp
theorem sign_sq {a x : Int} (h : a ≠ 0) : (a * (a * x)).sign = x.sign := by
  rw [← Int.mul_assoc, Int.sign_mul, Int.sign_mul]
  rcases Int.lt_trichotomy a 0 with g | g | g
  · rw [Int.sign_eq_neg_one_of_neg g]; simp
  · exact absurd g h
  · rw [Int.sign_eq_one_of_pos g]; simp
theorem side_div {x y z w d1 d2 d3 d4 G : Int} (hG : 0 < G) (hx : G ∣ x) (hy : G ∣ y) (hz : G ∣ z) (hw : G ∣ w) :
    (x / G * d1 + y / G * d2 + z / G * d3 - w / G * d4).sign = (x * d1 + y * d2 + z * d3 - w * d4).sign := by
  obtain ⟨x, rfl⟩ := hx
  obtain ⟨y, rfl⟩ := hy
  obtain ⟨z, rfl⟩ := hz
  obtain ⟨w, rfl⟩ := hw
  have n : G ≠ 0 := by omega
  rw [Int.mul_ediv_cancel_left _ n, Int.mul_ediv_cancel_left _ n, Int.mul_ediv_cancel_left _ n, Int.mul_ediv_cancel_left _ n]
  have e : G * x * d1 + G * y * d2 + G * z * d3 - G * w * d4 = G * (x * d1 + y * d2 + z * d3 - w * d4) := by grind
  rw [e, Int.sign_mul, Int.sign_eq_one_of_pos hG, Int.one_mul]
end Go.Eng
end
section
set_option linter.unusedVariables false
set_option linter.unusedSimpArgs false
set_option linter.unusedSectionVars false
set_option maxRecDepth 20000
namespace Go.Eng
open Go Go.Proofs Go.IntWalk
def spR5Part : List Value → Option Value
  | [.agg ⟨[.bool s, .string ⟨⟨l⟩⟩]⟩, .agg ⟨[.bool t, .string ⟨⟨m⟩⟩]⟩] => if l.length ≤ 68719476736 ∧ m.length ≤ 68719476736 ∧ nl m ≠ 0 then some (.agg ⟨iE (sv s l / sv t m)⟩) else none
  | _ => none
def c77 : ICode :=
  (.seq (.reg [⟨(some 2), none, (.box 23 2 (.t 0))⟩, ⟨(some 3), none, (.box 23 2 (.t 1))⟩, ⟨(some 4), none, (.alloc 23 2 [(.bool false), (.string ⟨⟨[]⟩⟩)])⟩])
  (.seq (.reg [⟨(some 9), none, (.load true 2 (.t 2))⟩, ⟨(some 10), none, (.load true 2 (.t 3))⟩, ⟨(some 11), none, (.call 51 [(.t 9), (.t 10)])⟩, ⟨(some 8), none, (.mv (.t 11))⟩, ⟨(some 12), none, (.ext (.t 8) 0)⟩, ⟨(some 13), none, (.ext (.t 8) 1)⟩, ⟨(some 14), none, (.ext (.t 8) 2)⟩, ⟨(some 5), none, (.alloc 23 2 [(.bool false), (.string ⟨⟨[]⟩⟩)])⟩, ⟨(some 6), none, (.alloc 23 2 [(.bool false), (.string ⟨⟨[]⟩⟩)])⟩, ⟨none, none, (.store 2 (.t 5) (.t 12))⟩, ⟨none, none, (.store 2 (.t 6) (.t 13))⟩, ⟨(some 7), none, (.mv (.t 14))⟩])
  (.seq (.reg [⟨(some 15), none, (.load true 2 (.t 5))⟩, ⟨none, none, (.store 2 (.t 4) (.t 15))⟩])
  .ret)))
theorem tr77 : trFun Tryz.prog 77 = some ⟨16, [.cell 4 true 2], c77⟩ := by kernel_rfl
theorem ok_r5Part : SpecOK Tryz.prog 77 (flat spR5Part) := by
  refine flat_run (env_cons ok_r2Div (env_nil _)) mixed tr77 ?_
  intro args v h N hG
  unfold spR5Part at hG
  split at hG
  case h_2 => cases hG
  rename_i s l t m
  split at hG
  case isFalse => cases hG
  rename_i hl
  obtain ⟨h1, h2, h3⟩ := hl
  cases hG
  refine ⟨rfl, by simp, ?_⟩
  have h3' : ¬ (nl m = 0) := h3
  simp only [c77, initT, List.zipIdx_cons, List.zipIdx_nil, List.map_cons, List.map_nil, Nat.reduceAdd]
  simp only [↓R0, R1, rdL, rdH, isCall, istep, ibin, vcells, fillI, setR, flat, okCell, isBase, List.set, List.drop, List.take, List.append, bnds, bhi, blo, srcOf, simprocAttr, -Int.reduceAbs, spI2Div, h1, h2, h3', Fin, isEnd, resL, res1, iE, rE]
  exact ⟨_, rfl, rfl, fun k hk => by simp only [ne_nb hk, if_false]⟩
def lG (a b c d : Int) : Nat := Nat.gcd (Nat.gcd (Nat.gcd a.natAbs b.natAbs) c.natAbs) d.natAbs
def lE (a b c d : Int) : List Value := iE (a / (lG a b c d : Int)) ++ iE (b / (lG a b c d : Int)) ++ iE (c / (lG a b c d : Int)) ++ iE (d / (lG a b c d : Int))
theorem lG_pos {a b c d : Int} (h : ¬ (a = 0 ∧ b = 0 ∧ c = 0)) : 0 < lG a b c d := by
  unfold lG
  refine Nat.gcd_pos_of_pos_left _ ?_
  by_cases hc : c = 0
  · refine Nat.gcd_pos_of_pos_left _ ?_
    by_cases hb : b = 0
    · exact Nat.gcd_pos_of_pos_left _ (by omega)
    · exact Nat.gcd_pos_of_pos_right _ (by omega)
  · exact Nat.gcd_pos_of_pos_right _ (by omega)
theorem lG_le {a b c d : Int} {k : Nat} (h1 : (bl a.natAbs).length ≤ k) (h2 : (bl b.natAbs).length ≤ k) (h3 : (bl c.natAbs).length ≤ k) (h : ¬ (a = 0 ∧ b = 0 ∧ c = 0)) : (bl (lG a b c d)).length ≤ k := by
  have hle : lG a b c d ≤ max a.natAbs (max b.natAbs c.natAbs) := by
    unfold lG
    have g : 0 < Nat.gcd (Nat.gcd a.natAbs b.natAbs) c.natAbs := by
      by_cases hc : c = 0
      · refine Nat.gcd_pos_of_pos_left _ ?_
        by_cases hb : b = 0
        · exact Nat.gcd_pos_of_pos_left _ (by omega)
        · exact Nat.gcd_pos_of_pos_right _ (by omega)
      · exact Nat.gcd_pos_of_pos_right _ (by omega)
    refine Nat.le_trans (Nat.gcd_le_left _ g) ?_
    by_cases hc : c = 0
    · subst hc
      rw [show Int.natAbs 0 = 0 from rfl, Nat.gcd_zero_right] at g ⊢
      by_cases hb : b = 0
      · subst hb
        rw [show Int.natAbs 0 = 0 from rfl, Nat.gcd_zero_right]; omega
      · exact Nat.le_trans (Nat.gcd_le_right _ (by omega)) (by omega)
    · exact Nat.le_trans (Nat.gcd_le_right _ (by omega)) (by omega)
  refine Nat.le_trans (bl_length_mono hle) ?_
  rw [Nat.max_def, Nat.max_def]
  split <;> (try split) <;> assumption
theorem lG_d1 (a b c d : Int) : (lG a b c d : Int) ∣ a := by
  rw [← Int.dvd_natAbs]; exact Int.ofNat_dvd.2 (Nat.dvd_trans (Nat.gcd_dvd_left _ _) (Nat.dvd_trans (Nat.gcd_dvd_left _ _) (Nat.gcd_dvd_left _ _)))
theorem lG_d2 (a b c d : Int) : (lG a b c d : Int) ∣ b := by
  rw [← Int.dvd_natAbs]; exact Int.ofNat_dvd.2 (Nat.dvd_trans (Nat.gcd_dvd_left _ _) (Nat.dvd_trans (Nat.gcd_dvd_left _ _) (Nat.gcd_dvd_right _ _)))
theorem lG_d3 (a b c d : Int) : (lG a b c d : Int) ∣ c := by
  rw [← Int.dvd_natAbs]; exact Int.ofNat_dvd.2 (Nat.dvd_trans (Nat.gcd_dvd_left _ _) (Nat.gcd_dvd_right _ _))
theorem lG_d4 (a b c d : Int) : (lG a b c d : Int) ∣ d := by
  rw [← Int.dvd_natAbs]; exact Int.ofNat_dvd.2 (Nat.gcd_dvd_right _ _)
theorem lG_side {x y z w : Int} (d1 d2 d3 d4 : Int) (h : ¬ (x = 0 ∧ y = 0 ∧ z = 0)) :
    (x / (lG x y z w : Int) * d1 + y / (lG x y z w : Int) * d2 + z / (lG x y z w : Int) * d3 - w / (lG x y z w : Int) * d4).sign = (x * d1 + y * d2 + z * d3 - w * d4).sign :=
  side_div (by have := lG_pos (d := w) h; omega) (lG_d1 ..) (lG_d2 ..) (lG_d3 ..) (lG_d4 ..)
def spR5Norm : List Value → Option Value
  | [.agg ⟨[.bool s1, .string ⟨⟨l1⟩⟩, .bool s2, .string ⟨⟨l2⟩⟩, .bool s3, .string ⟨⟨l3⟩⟩, .bool s4, .string ⟨⟨l4⟩⟩]⟩] =>
    if l1.length ≤ 68719476736 ∧ l2.length ≤ 68719476736 ∧ l3.length ≤ 68719476736 ∧ l4.length ≤ 68719476736 then
      (if sv s1 l1 = 0 ∧ sv s2 l2 = 0 ∧ sv s3 l3 = 0 then some (.tuple ⟨[.agg ⟨[.bool false, .string ⟨⟨[]⟩⟩, .bool false, .string ⟨⟨[]⟩⟩, .bool false, .string ⟨⟨[]⟩⟩, .bool false, .string ⟨⟨[]⟩⟩]⟩, .bool false]⟩)
        else some (.tuple ⟨[.agg ⟨lE (sv s1 l1) (sv s2 l2) (sv s3 l3) (sv s4 l4)⟩, .bool true]⟩)) else none
  | _ => none
def c29 : ICode :=
  (.seq (.reg [⟨(some 1), none, (.box 25 8 (.t 0))⟩, ⟨(some 2), none, (.alloc 25 8 [(.bool false), (.string ⟨⟨[]⟩⟩), (.bool false), (.string ⟨⟨[]⟩⟩), (.bool false), (.string ⟨⟨[]⟩⟩), (.bool false), (.string ⟨⟨[]⟩⟩)])⟩, ⟨(some 3), none, (.mv (.c (.bool false)))⟩])
  (.seq (.seq (.reg [⟨(some 5), none, (.faddr 0 (.t 1))⟩, ⟨(some 6), none, (.load true 2 (.t 5))⟩, ⟨(some 7), none, (.call 47 [(.t 6)])⟩, ⟨(some 8), none, (.bin .eql (.t 7) (.c (.int .i64 0)))⟩, ⟨(some 9), none, (.mv (.t 8))⟩, ⟨(some 10), (some (9, true)), (.faddr 2 (.t 1))⟩, ⟨(some 11), (some (9, true)), (.load true 2 (.t 10))⟩, ⟨(some 12), (some (9, true)), (.call 47 [(.t 11)])⟩, ⟨(some 13), (some (9, true)), (.bin .eql (.t 12) (.c (.int .i64 0)))⟩, ⟨(some 14), none, (.pick (.t 9) (.t 13) (.c (.bool false)))⟩, ⟨(some 15), none, (.mv (.t 14))⟩, ⟨(some 16), (some (15, true)), (.faddr 4 (.t 1))⟩, ⟨(some 17), (some (15, true)), (.load true 2 (.t 16))⟩, ⟨(some 18), (some (15, true)), (.call 47 [(.t 17)])⟩, ⟨(some 19), (some (15, true)), (.bin .eql (.t 18) (.c (.int .i64 0)))⟩, ⟨(some 20), none, (.pick (.t 15) (.t 19) (.c (.bool false)))⟩])
  (.cond (.t 20)
  (.seq (.reg [⟨(some 21), none, (.build [(.bool false), (.string ⟨⟨[]⟩⟩), (.bool false), (.string ⟨⟨[]⟩⟩), (.bool false), (.string ⟨⟨[]⟩⟩), (.bool false), (.string ⟨⟨[]⟩⟩)] [])⟩, ⟨none, none, (.store 8 (.t 2) (.t 21))⟩, ⟨(some 3), none, (.mv (.c (.bool false)))⟩])
  .ret)
  .skip))
  (.seq (.reg [⟨(some 22), none, (.faddr 0 (.t 1))⟩, ⟨(some 23), none, (.load true 2 (.t 22))⟩, ⟨(some 24), none, (.faddr 2 (.t 1))⟩, ⟨(some 25), none, (.load true 2 (.t 24))⟩, ⟨(some 26), none, (.faddr 4 (.t 1))⟩, ⟨(some 27), none, (.load true 2 (.t 26))⟩, ⟨(some 28), none, (.faddr 6 (.t 1))⟩, ⟨(some 29), none, (.load true 2 (.t 28))⟩, ⟨(some 30), none, (.bslice 23 2 4 [(.bool false), (.string ⟨⟨[]⟩⟩), (.bool false), (.string ⟨⟨[]⟩⟩), (.bool false), (.string ⟨⟨[]⟩⟩), (.bool false), (.string ⟨⟨[]⟩⟩)] [(0, 2, (.t 23)), (2, 2, (.t 25)), (4, 2, (.t 27)), (6, 2, (.t 29))])⟩, ⟨(some 31), none, (.call 49 [(.t 30)])⟩, ⟨(some 4), none, (.alloc 23 2 [(.bool false), (.string ⟨⟨[]⟩⟩)])⟩, ⟨none, none, (.store 2 (.t 4) (.t 31))⟩])
  (.seq (.dreg [⟨(some 32), none, [], (.faddr 0 (.t 1))⟩, ⟨(some 33), none, [], (.load true 2 (.t 32))⟩, ⟨(some 34), none, [], (.load true 2 (.t 4))⟩, ⟨(some 35), none, [], (.call 77 [(.t 33), (.t 34)])⟩, ⟨(some 36), none, [], (.faddr 2 (.t 1))⟩, ⟨(some 37), none, [3], (.load true 2 (.t 36))⟩, ⟨(some 38), none, [3], (.load true 2 (.t 4))⟩, ⟨(some 39), none, [], (.call 77 [(.t 37), (.t 38)])⟩, ⟨(some 40), none, [], (.faddr 4 (.t 1))⟩, ⟨(some 41), none, [3, 7], (.load true 2 (.t 40))⟩, ⟨(some 42), none, [3, 7], (.load true 2 (.t 4))⟩, ⟨(some 43), none, [], (.call 77 [(.t 41), (.t 42)])⟩, ⟨(some 44), none, [], (.faddr 6 (.t 1))⟩, ⟨(some 45), none, [3, 7, 11], (.load true 2 (.t 44))⟩, ⟨(some 46), none, [3, 7, 11], (.load true 2 (.t 4))⟩, ⟨(some 47), none, [], (.call 77 [(.t 45), (.t 46)])⟩, ⟨(some 48), none, [], (.build [(.bool false), (.string ⟨⟨[]⟩⟩), (.bool false), (.string ⟨⟨[]⟩⟩), (.bool false), (.string ⟨⟨[]⟩⟩), (.bool false), (.string ⟨⟨[]⟩⟩)] [(0, 2, (.t 35)), (2, 2, (.t 39)), (4, 2, (.t 43)), (6, 2, (.t 47))])⟩, ⟨none, none, [], (.store 8 (.t 2) (.t 48))⟩, ⟨(some 3), none, [], (.mv (.c (.bool true)))⟩])
  .ret))))
theorem tr29 : trFun Tryz.prog 29 = some ⟨49, [.cell 2 true 8, .t 3], c29⟩ := by kernel_rfl
set_option maxHeartbeats 4000000 in
theorem ok_r5Norm : SpecOK Tryz.prog 29 (flat spR5Norm) := by
  refine flat_run (env_cons ok_r2Sign (env_cons ok_r2Gcd (env_cons ok_r5Part (env_nil _)))) mixed tr29 ?_
  intro args v h N hG
  unfold spR5Norm at hG
  split at hG
  case h_2 => cases hG
  rename_i s1 l1 s2 l2 s3 l3 s4 l4
  split at hG
  case isFalse => cases hG
  rename_i hl
  obtain ⟨h1, h2, h3, h4⟩ := hl
  have k1 : l1.length ≤ 1099511627776 := by omega
  have k2 : l2.length ≤ 1099511627776 := by omega
  have k3 : l3.length ≤ 1099511627776 := by omega
  have e1 : ((sv s1 l1).sign = 0) = (sv s1 l1 = 0) := propext Int.sign_eq_zero_iff_zero
  have e2 : ((sv s2 l2).sign = 0) = (sv s2 l2 = 0) := propext Int.sign_eq_zero_iff_zero
  have e3 : ((sv s3 l3).sign = 0) = (sv s3 l3 = 0) := propext Int.sign_eq_zero_iff_zero
  split at hG
  · rename_i h0
    obtain ⟨z1, z2, z3⟩ := h0
    cases hG
    refine ⟨rfl, by simp, ?_⟩
    simp only [c29, initT, List.zipIdx_cons, List.zipIdx_nil, List.map_cons, List.map_nil, Nat.reduceAdd]
    simp only [↓R0, R1, rdL, rdH, isCall, istep, ibin, vcells, fillI, setR, flat, okCell, isBase, List.set, List.drop, List.take, List.append, bnds, bhi, blo, srcOf, simprocAttr, -Int.reduceAbs, spI2Sign, k1, k2, k3, z1, z2, z3, Int.sign_zero, Fin, isEnd, resL, res1, iE, rE]
    exact ⟨_, rfl, rfl, fun k hk => by simp only [ne_nb hk, if_false]⟩
  rename_i h0
  cases hG
  refine ⟨rfl, by simp, ?_⟩
  have hG0 := lG_pos (d := sv s4 l4) h0
  have hGl := lG_le (d := sv s4 l4) (k := 68719476736) (len_sv h1) (len_sv h2) (len_sv h3) h0
  have hGG : Nat.gcd (Nat.gcd (Nat.gcd (nl l1) (nl l2)) (nl l3)) (nl l4) = lG (sv s1 l1) (sv s2 l2) (sv s3 l3) (sv s4 l4) := by
    unfold lG; rw [sv_natAbs, sv_natAbs, sv_natAbs, sv_natAbs]
  have f5 : ∀ G : Nat, sv false (bl G) = (G : Int) := fun G => by rw [sv_false, nl_bl]
  unfold lE
  generalize lG (sv s1 l1) (sv s2 l2) (sv s3 l3) (sv s4 l4) = G at *
  have f1 : ¬ ((G : Int) < 0) := by omega
  have f2 : ¬ (G = 0) := by omega
  have f6 := f5 G
  simp only [c29, initT, List.zipIdx_cons, List.zipIdx_nil, List.map_cons, List.map_nil, Nat.reduceAdd]
  by_cases z1 : sv s1 l1 = 0
  · by_cases z2 : sv s2 l2 = 0
    · have z3 : ¬ (sv s3 l3 = 0) := fun e => h0 ⟨z1, z2, e⟩
      simp only [↓R0, R1, rdL, rdH, isCall, istep, ibin, vcells, fillI, setR, flat, okCell, isBase, List.set, List.drop, List.take, List.append, bnds, bhi, blo, srcOf, simprocAttr, -Int.reduceAbs, spI2Sign, k1, k2, k3, e1, e2, e3, z1, z2, z3, Int.sign_zero]
      simp only [↓R0, R1, rdL, rdH, isCall, istep, ibin, vcells, fillI, setR, flat, okCell, isBase, List.set, List.drop, List.take, List.append, bnds, bhi, blo, srcOf, simprocAttr, -Int.reduceAbs, rdS, spI2Gcd, ints, gcds, List.foldl_cons, List.foldl_nil, Nat.gcd_zero_left, List.forall_mem_cons, h1, h2, h3, h4, List.not_mem_nil, false_implies, implies_true, hGG, hGl, f1, f2, f6, nl_bl, Int.natAbs_natCast, spR5Part, Fin, isEnd, resL, res1, iE, rE]
      exact ⟨_, rfl, rfl, fun k hk => by simp only [ne_nb hk, if_false]⟩
    · simp only [↓R0, R1, rdL, rdH, isCall, istep, ibin, vcells, fillI, setR, flat, okCell, isBase, List.set, List.drop, List.take, List.append, bnds, bhi, blo, srcOf, simprocAttr, -Int.reduceAbs, spI2Sign, k1, k2, k3, e1, e2, e3, z1, z2, Int.sign_zero]
      simp only [↓R0, R1, rdL, rdH, isCall, istep, ibin, vcells, fillI, setR, flat, okCell, isBase, List.set, List.drop, List.take, List.append, bnds, bhi, blo, srcOf, simprocAttr, -Int.reduceAbs, rdS, spI2Gcd, ints, gcds, List.foldl_cons, List.foldl_nil, Nat.gcd_zero_left, List.forall_mem_cons, h1, h2, h3, h4, List.not_mem_nil, false_implies, implies_true, hGG, hGl, f1, f2, f6, nl_bl, Int.natAbs_natCast, spR5Part, Fin, isEnd, resL, res1, iE, rE]
      exact ⟨_, rfl, rfl, fun k hk => by simp only [ne_nb hk, if_false]⟩
  · simp only [↓R0, R1, rdL, rdH, isCall, istep, ibin, vcells, fillI, setR, flat, okCell, isBase, List.set, List.drop, List.take, List.append, bnds, bhi, blo, srcOf, simprocAttr, -Int.reduceAbs, spI2Sign, k1, k2, k3, e1, e2, e3, z1, Int.sign_zero]
    simp only [↓R0, R1, rdL, rdH, isCall, istep, ibin, vcells, fillI, setR, flat, okCell, isBase, List.set, List.drop, List.take, List.append, bnds, bhi, blo, srcOf, simprocAttr, -Int.reduceAbs, rdS, spI2Gcd, ints, gcds, List.foldl_cons, List.foldl_nil, Nat.gcd_zero_left, List.forall_mem_cons, h1, h2, h3, h4, List.not_mem_nil, false_implies, implies_true, hGG, hGl, f1, f2, f6, nl_bl, Int.natAbs_natCast, spR5Part, Fin, isEnd, resL, res1, iE, rE]
    exact ⟨_, rfl, rfl, fun k hk => by simp only [ne_nb hk, if_false]⟩
end Go.Eng
end
section
set_option linter.unusedVariables false
set_option linter.unusedSimpArgs false
set_option linter.unusedSectionVars false
set_option maxRecDepth 20000
namespace Go.Eng
open Go Go.Proofs Go.IntWalk
def spR6Whole : List Value → Option Value
  | [.agg ⟨[.bool s, .string ⟨⟨l⟩⟩]⟩] => if l.length ≤ 68719476736 then some (.agg ⟨rE (sv s l : Rat)⟩) else none
  | _ => none
def spR6Normal : List Value → Option Value
  | [.agg ⟨[.bool s1, .string ⟨⟨l1⟩⟩, .bool s2, .string ⟨⟨l2⟩⟩, .bool s3, .string ⟨⟨l3⟩⟩, .bool s4, .string ⟨⟨l4⟩⟩]⟩] =>
    if l1.length ≤ 68719476736 ∧ l2.length ≤ 68719476736 ∧ l3.length ≤ 68719476736 ∧ l4.length ≤ 68719476736 then
      some (.tuple ⟨[.agg ⟨r3E (sv s1 l1 : Rat) (sv s2 l2 : Rat) (sv s3 l3 : Rat)⟩, .agg ⟨rE (sv s4 l4 : Rat)⟩]⟩) else none
  | _ => none
def spR6Dot : List Value → Option Value
  | [.agg ⟨[.bool s1, .string ⟨⟨n1⟩⟩, .string ⟨⟨d1⟩⟩, .bool s2, .string ⟨⟨n2⟩⟩, .string ⟨⟨d2⟩⟩, .bool s3, .string ⟨⟨n3⟩⟩, .string ⟨⟨d3⟩⟩]⟩, .agg ⟨[.bool s4, .string ⟨⟨n4⟩⟩, .string ⟨⟨d4⟩⟩, .bool s5, .string ⟨⟨n5⟩⟩, .string ⟨⟨d5⟩⟩, .bool s6, .string ⟨⟨n6⟩⟩, .string ⟨⟨d6⟩⟩]⟩] =>
    if n1.length ≤ 1073741824 ∧ d1.length ≤ 1073741824 ∧ n2.length ≤ 1073741824 ∧ d2.length ≤ 1073741824 ∧ n3.length ≤ 1073741824 ∧ d3.length ≤ 1073741824 ∧ n4.length ≤ 1073741824 ∧ d4.length ≤ 1073741824 ∧ n5.length ≤ 1073741824 ∧ d5.length ≤ 1073741824 ∧ n6.length ≤ 1073741824 ∧ d6.length ≤ 1073741824 then some (.agg ⟨rE (rv s1 n1 d1 * rv s4 n4 d4 + rv s2 n2 d2 * rv s5 n5 d5 + rv s3 n3 d3 * rv s6 n6 d6)⟩) else none
  | _ => none
def spR6Times : List Value → Option Value
  | [.agg ⟨[.bool s1, .string ⟨⟨n1⟩⟩, .string ⟨⟨d1⟩⟩, .bool s2, .string ⟨⟨n2⟩⟩, .string ⟨⟨d2⟩⟩, .bool s3, .string ⟨⟨n3⟩⟩, .string ⟨⟨d3⟩⟩]⟩, .agg ⟨[.bool s4, .string ⟨⟨n4⟩⟩, .string ⟨⟨d4⟩⟩, .bool s5, .string ⟨⟨n5⟩⟩, .string ⟨⟨d5⟩⟩, .bool s6, .string ⟨⟨n6⟩⟩, .string ⟨⟨d6⟩⟩]⟩] =>
    if n1.length ≤ 2147483648 ∧ d1.length ≤ 2147483648 ∧ n2.length ≤ 2147483648 ∧ d2.length ≤ 2147483648 ∧ n3.length ≤ 2147483648 ∧ d3.length ≤ 2147483648 ∧ n4.length ≤ 2147483648 ∧ d4.length ≤ 2147483648 ∧ n5.length ≤ 2147483648 ∧ d5.length ≤ 2147483648 ∧ n6.length ≤ 2147483648 ∧ d6.length ≤ 2147483648 then some (.agg ⟨r3E (rv s2 n2 d2 * rv s6 n6 d6 - rv s3 n3 d3 * rv s5 n5 d5) (rv s3 n3 d3 * rv s4 n4 d4 - rv s1 n1 d1 * rv s6 n6 d6) (rv s1 n1 d1 * rv s5 n5 d5 - rv s2 n2 d2 * rv s4 n4 d4)⟩) else none
  | _ => none
def c40 : ICode :=
  (.seq (.reg [⟨(some 2), none, (.box 67 9 (.t 0))⟩, ⟨(some 3), none, (.box 67 9 (.t 1))⟩, ⟨(some 4), none, (.alloc 67 9 [(.bool false), (.string ⟨⟨[]⟩⟩), (.string ⟨⟨[]⟩⟩), (.bool false), (.string ⟨⟨[]⟩⟩), (.string ⟨⟨[]⟩⟩), (.bool false), (.string ⟨⟨[]⟩⟩), (.string ⟨⟨[]⟩⟩)])⟩])
  (.seq (.reg [⟨(some 9), none, (.build [(.bool false), (.string ⟨⟨[]⟩⟩), (.string ⟨⟨[]⟩⟩), (.bool false), (.string ⟨⟨[]⟩⟩), (.string ⟨⟨[]⟩⟩), (.bool false), (.string ⟨⟨[]⟩⟩), (.string ⟨⟨[]⟩⟩)] [])⟩, ⟨(some 5), none, (.alloc 67 9 [(.bool false), (.string ⟨⟨[]⟩⟩), (.string ⟨⟨[]⟩⟩), (.bool false), (.string ⟨⟨[]⟩⟩), (.string ⟨⟨[]⟩⟩), (.bool false), (.string ⟨⟨[]⟩⟩), (.string ⟨⟨[]⟩⟩)])⟩, ⟨none, none, (.store 9 (.t 5) (.t 9))⟩])
  (.seq (.seq (.reg [⟨(some 6), none, (.mv (.c (.int .i64 0)))⟩])
  (.block 0 (.loop (.seq (.seq (.reg [⟨(some 10), none, (.mv (.t 6))⟩, ⟨(some 11), none, (.bin .lss (.t 10) (.c (.int .i64 3)))⟩])
  (.cond (.t 11)
  .skip
  (.exit 0)))
  (.seq (.block 1 (.seq (.reg [⟨(some 14), none, (.mv (.t 6))⟩, ⟨(some 15), none, (.bin .add (.t 14) (.c (.int .i64 1)))⟩, ⟨(some 16), none, (.bin .rem (.t 15) (.c (.int .i64 3)))⟩, ⟨(some 17), none, (.mv (.t 6))⟩, ⟨(some 18), none, (.bin .add (.t 17) (.c (.int .i64 2)))⟩, ⟨(some 19), none, (.bin .rem (.t 18) (.c (.int .i64 3)))⟩, ⟨(some 7), none, (.mv (.t 16))⟩, ⟨(some 8), none, (.mv (.t 19))⟩])
  (.dreg [⟨(some 20), none, [], (.mv (.t 6))⟩, ⟨(some 21), none, [], (.mv (.t 7))⟩, ⟨(some 22), none, [], (.ixarr 3 3 (.t 2) (.t 21))⟩, ⟨(some 23), none, [], (.load true 3 (.t 22))⟩, ⟨(some 24), none, [], (.mv (.t 8))⟩, ⟨(some 25), none, [], (.ixarr 3 3 (.t 3) (.t 24))⟩, ⟨(some 26), none, [], (.load true 3 (.t 25))⟩, ⟨(some 27), none, [], (.call 84 [(.t 23), (.t 26)])⟩, ⟨(some 28), none, [], (.mv (.t 8))⟩, ⟨(some 29), none, [], (.ixarr 3 3 (.t 2) (.t 28))⟩, ⟨(some 30), none, [7], (.load true 3 (.t 29))⟩, ⟨(some 31), none, [], (.mv (.t 7))⟩, ⟨(some 32), none, [], (.ixarr 3 3 (.t 3) (.t 31))⟩, ⟨(some 33), none, [7], (.load true 3 (.t 32))⟩, ⟨(some 34), none, [], (.call 84 [(.t 30), (.t 33)])⟩, ⟨(some 35), none, [], (.call 56 [(.t 27), (.t 34)])⟩, ⟨(some 36), none, [], (.ixarr 3 3 (.t 5) (.t 20))⟩, ⟨none, none, [], (.store 3 (.t 36) (.t 35))⟩])))
  (.reg [⟨(some 12), none, (.mv (.t 6))⟩, ⟨(some 13), none, (.bin .add (.t 12) (.c (.int .i64 1)))⟩, ⟨(some 6), none, (.mv (.t 13))⟩]))))))
  (.seq (.reg [⟨(some 37), none, (.load true 9 (.t 5))⟩, ⟨none, none, (.store 9 (.t 4) (.t 37))⟩])
  .ret))))
theorem tr40 : trFun Tryz.prog 40 = some ⟨38, [.cell 4 true 9], c40⟩ := by kernel_rfl
set_option maxHeartbeats 4000000 in
theorem ok_r6Times : SpecOK Tryz.prog 40 (flat spR6Times) := by
  refine flat_run (env_cons ok_r3Mul (env_cons ok_r3Sub (env_nil _))) mixed tr40 ?_
  intro args v h N hG
  unfold spR6Times at hG
  split at hG
  case h_2 => cases hG
  rename_i s1 n1 d1 s2 n2 d2 s3 n3 d3 s4 n4 d4 s5 n5 d5 s6 n6 d6
  split at hG
  case isFalse => cases hG
  rename_i hl
  obtain ⟨hn1, hd1, hn2, hd2, hn3, hd3, hn4, hd4, hn5, hd5, hn6, hd6⟩ := hl
  cases hG
  refine ⟨rfl, by simp, ?_⟩
  have b1 := RB.raw (s := s1) hn1 hd1
  have mn1 : n1.length ≤ 8589934592 := by omega
  have md1 : d1.length ≤ 8589934592 := by omega
  have b2 := RB.raw (s := s2) hn2 hd2
  have mn2 : n2.length ≤ 8589934592 := by omega
  have md2 : d2.length ≤ 8589934592 := by omega
  have b3 := RB.raw (s := s3) hn3 hd3
  have mn3 : n3.length ≤ 8589934592 := by omega
  have md3 : d3.length ≤ 8589934592 := by omega
  have b4 := RB.raw (s := s4) hn4 hd4
  have mn4 : n4.length ≤ 8589934592 := by omega
  have md4 : d4.length ≤ 8589934592 := by omega
  have b5 := RB.raw (s := s5) hn5 hd5
  have mn5 : n5.length ≤ 8589934592 := by omega
  have md5 : d5.length ≤ 8589934592 := by omega
  have b6 := RB.raw (s := s6) hn6 hd6
  have mn6 : n6.length ≤ 8589934592 := by omega
  have md6 : d6.length ≤ 8589934592 := by omega
  have p0 := RB.mul (k := 4294967298) b2 b6 (by omega)
  have pn0 := p0.num (k := 8589934592) (by omega)
  have pd0 := p0.den (k := 8589934592) (by omega)
  have pe0 := p0.den' (k := 8589934592) (by omega)
  have p1 := RB.mul (k := 4294967298) b3 b5 (by omega)
  have pn1 := p1.num (k := 8589934592) (by omega)
  have pd1 := p1.den (k := 8589934592) (by omega)
  have pe1 := p1.den' (k := 8589934592) (by omega)
  have p2 := RB.mul (k := 4294967298) b3 b4 (by omega)
  have pn2 := p2.num (k := 8589934592) (by omega)
  have pd2 := p2.den (k := 8589934592) (by omega)
  have pe2 := p2.den' (k := 8589934592) (by omega)
  have p3 := RB.mul (k := 4294967298) b1 b6 (by omega)
  have pn3 := p3.num (k := 8589934592) (by omega)
  have pd3 := p3.den (k := 8589934592) (by omega)
  have pe3 := p3.den' (k := 8589934592) (by omega)
  have p4 := RB.mul (k := 4294967298) b1 b5 (by omega)
  have pn4 := p4.num (k := 8589934592) (by omega)
  have pd4 := p4.den (k := 8589934592) (by omega)
  have pe4 := p4.den' (k := 8589934592) (by omega)
  have p5 := RB.mul (k := 4294967298) b2 b4 (by omega)
  have pn5 := p5.num (k := 8589934592) (by omega)
  have pd5 := p5.den (k := 8589934592) (by omega)
  have pe5 := p5.den' (k := 8589934592) (by omega)
  have w1 : IntKind.i64.wrap 1 = 1 := i64_in _ (by omega)
  have w2 : IntKind.i64.wrap 2 = 2 := i64_in _ (by omega)
  have w3 : IntKind.i64.wrap 3 = 3 := i64_in _ (by omega)
  have w4 : IntKind.i64.wrap 4 = 4 := i64_in _ (by omega)
  have r1 : Int.tmod 1 3 = 1 := rfl
  have r2 : Int.tmod 2 3 = 2 := rfl
  have r3 : Int.tmod 3 3 = 0 := rfl
  have r4 : Int.tmod 4 3 = 1 := rfl
  simp only [c40, initT, List.zipIdx_cons, List.zipIdx_nil, List.map_cons, List.map_nil, Nat.reduceAdd]
  simp only [↓R0, R1, rdL, rdH, isCall, istep, ibin, vcells, fillI, setR, flat, okCell, isBase, List.set, List.drop, List.take, List.append, bnds, bhi, blo, srcOf, simprocAttr, -Int.reduceAbs]
  refine lp_step ?_
  simp only [↓R0, R1, rdL, rdH, isCall, istep, ibin, vcells, fillI, setR, flat, okCell, isBase, List.set, List.drop, List.take, List.append, bnds, bhi, blo, srcOf, simprocAttr, -Int.reduceAbs, spR3Mul, spR3Sub, rv_can, w1, w2, w3, w4, r1, r2, r3, r4, rE, mn1, md1, mn2, md2, mn3, md3, mn4, md4, mn5, md5, mn6, md6, pn0, pd0, pe0, pn1, pd1, pe1, pn2, pd2, pe2, pn3, pd3, pe3, pn4, pd4, pe4, pn5, pd5, pe5]
  refine lp_step ?_
  simp only [↓R0, R1, rdL, rdH, isCall, istep, ibin, vcells, fillI, setR, flat, okCell, isBase, List.set, List.drop, List.take, List.append, bnds, bhi, blo, srcOf, simprocAttr, -Int.reduceAbs, spR3Mul, spR3Sub, rv_can, w1, w2, w3, w4, r1, r2, r3, r4, rE, mn1, md1, mn2, md2, mn3, md3, mn4, md4, mn5, md5, mn6, md6, pn0, pd0, pe0, pn1, pd1, pe1, pn2, pd2, pe2, pn3, pd3, pe3, pn4, pd4, pe4, pn5, pd5, pe5]
  refine lp_step ?_
  simp only [↓R0, R1, rdL, rdH, isCall, istep, ibin, vcells, fillI, setR, flat, okCell, isBase, List.set, List.drop, List.take, List.append, bnds, bhi, blo, srcOf, simprocAttr, -Int.reduceAbs, spR3Mul, spR3Sub, rv_can, w1, w2, w3, w4, r1, r2, r3, r4, rE, mn1, md1, mn2, md2, mn3, md3, mn4, md4, mn5, md5, mn6, md6, pn0, pd0, pe0, pn1, pd1, pe1, pn2, pd2, pe2, pn3, pd3, pe3, pn4, pd4, pe4, pn5, pd5, pe5]
  refine lp_step ?_
  simp only [↓R0, R1, rdL, rdH, isCall, istep, ibin, vcells, fillI, setR, flat, okCell, isBase, List.set, List.drop, List.take, List.append, bnds, bhi, blo, srcOf, simprocAttr, -Int.reduceAbs, r3E, Fin, isEnd, resL, res1, iE, rE]
  exact ⟨_, rfl, rfl, fun k hk => by simp only [ne_nb hk, if_false]⟩
def spR6Plus : List Value → Option Value
  | [.agg ⟨[.bool s1, .string ⟨⟨n1⟩⟩, .string ⟨⟨d1⟩⟩, .bool s2, .string ⟨⟨n2⟩⟩, .string ⟨⟨d2⟩⟩, .bool s3, .string ⟨⟨n3⟩⟩, .string ⟨⟨d3⟩⟩]⟩, .agg ⟨[.bool s4, .string ⟨⟨n4⟩⟩, .string ⟨⟨d4⟩⟩, .bool s5, .string ⟨⟨n5⟩⟩, .string ⟨⟨d5⟩⟩, .bool s6, .string ⟨⟨n6⟩⟩, .string ⟨⟨d6⟩⟩]⟩] =>
    if n1.length ≤ 8589934592 ∧ d1.length ≤ 8589934592 ∧ n2.length ≤ 8589934592 ∧ d2.length ≤ 8589934592 ∧ n3.length ≤ 8589934592 ∧ d3.length ≤ 8589934592 ∧ n4.length ≤ 8589934592 ∧ d4.length ≤ 8589934592 ∧ n5.length ≤ 8589934592 ∧ d5.length ≤ 8589934592 ∧ n6.length ≤ 8589934592 ∧ d6.length ≤ 8589934592 then some (.agg ⟨r3E (rv s1 n1 d1 + rv s4 n4 d4) (rv s2 n2 d2 + rv s5 n5 d5) (rv s3 n3 d3 + rv s6 n6 d6)⟩) else none
  | _ => none
def spR6Scale : List Value → Option Value
  | [.agg ⟨[.bool s1, .string ⟨⟨n1⟩⟩, .string ⟨⟨d1⟩⟩, .bool s2, .string ⟨⟨n2⟩⟩, .string ⟨⟨d2⟩⟩, .bool s3, .string ⟨⟨n3⟩⟩, .string ⟨⟨d3⟩⟩]⟩, .agg ⟨[.bool s4, .string ⟨⟨n4⟩⟩, .string ⟨⟨d4⟩⟩]⟩] =>
    if n1.length ≤ 8589934592 ∧ d1.length ≤ 8589934592 ∧ n2.length ≤ 8589934592 ∧ d2.length ≤ 8589934592 ∧ n3.length ≤ 8589934592 ∧ d3.length ≤ 8589934592 ∧ n4.length ≤ 8589934592 ∧ d4.length ≤ 8589934592 then some (.agg ⟨r3E (rv s1 n1 d1 * rv s4 n4 d4) (rv s2 n2 d2 * rv s4 n4 d4) (rv s3 n3 d3 * rv s4 n4 d4)⟩) else none
  | _ => none
def spR4Make : List Value → Option Value
  | [.agg ⟨[.bool s1, .string ⟨⟨n1⟩⟩, .string ⟨⟨d1⟩⟩, .bool s2, .string ⟨⟨n2⟩⟩, .string ⟨⟨d2⟩⟩, .bool s3, .string ⟨⟨n3⟩⟩, .string ⟨⟨d3⟩⟩]⟩] =>
    if n1.length ≤ 2147483648 ∧ d1.length ≤ 2147483648 ∧ n2.length ≤ 2147483648 ∧ d2.length ≤ 2147483648 ∧ n3.length ≤ 2147483648 ∧ d3.length ≤ 2147483648 then some (.agg ⟨mkE (rv s1 n1 d1) (rv s2 n2 d2) (rv s3 n3 d3)⟩) else none
  | _ => none
end Go.Eng
end
section
set_option linter.unusedVariables false
set_option linter.unusedSimpArgs false
set_option linter.unusedSectionVars false
namespace Go.Eng
def lm (n j : Nat) : Nat := n / 4294967296 ^ j % 4294967296
theorem lm_lt (n j : Nat) : lm n j < 4294967296 := Nat.mod_lt _ (by omega)
theorem lm_zero (n : Nat) : lm n 0 = n % 4294967296 := by unfold lm; rw [Nat.pow_zero, Nat.div_one]
theorem lm_succ (n j : Nat) : lm n (j + 1) = lm (n / 4294967296) j := by
  unfold lm; rw [Nat.pow_succ, Nat.mul_comm, Nat.div_div_eq_div_mul]
theorem pB (j : Nat) : 0 < 4294967296 ^ j := Nat.pow_pos (by omega)
theorem lm_of_lt {n j : Nat} (h : n < 4294967296 ^ j) : lm n j = 0 := by
  unfold lm; rw [Nat.div_eq_of_lt h]
theorem lm_of_lt' {n k j : Nat} (h : n < 4294967296 ^ k) (hj : k ≤ j) : lm n j = 0 :=
  lm_of_lt (Nat.lt_of_lt_of_le h (Nat.pow_le_pow_right (by omega) hj))
theorem lm_top {n j : Nat} (h : n < 4294967296 ^ (j + 1)) : lm n j = n / 4294967296 ^ j := by
  unfold lm
  rw [Nat.mod_eq_of_lt]
  rw [Nat.pow_succ] at h
  exact Nat.div_lt_of_lt_mul h
theorem lm_mod {n k j : Nat} (h : j < k) : lm (n % 4294967296 ^ k) j = lm n j := by
  unfold lm
  have e : 4294967296 ^ k = 4294967296 ^ j * (4294967296 * 4294967296 ^ (k - j - 1)) := by
    rw [← Nat.pow_add_one', ← Nat.pow_add]; congr 1; omega
  rw [e, Nat.mod_mul_right_div_self, Nat.mod_mul_right_mod]
theorem lm_add_mul {n x i j : Nat} (h : j < i) : lm (n + x * 4294967296 ^ i) j = lm n j := by
  rw [← lm_mod (n := n + x * 4294967296 ^ i) h, Nat.add_mul_mod_self_right, lm_mod h]
theorem lm_congr {n m i j : Nat} (h : n % 4294967296 ^ i = m % 4294967296 ^ i) (hj : j < i) : lm n j = lm m j := by
  rw [← lm_mod hj, h, lm_mod hj]
theorem mod_step (n i : Nat) : n % 4294967296 ^ (i + 1) = n % 4294967296 ^ i + 4294967296 ^ i * lm n i := by
  rw [Nat.pow_succ, Nat.mod_mul]; rfl
theorem div_step (n i : Nat) : n / 4294967296 ^ i = 4294967296 * (n / 4294967296 ^ (i + 1)) + lm n i := by
  unfold lm
  rw [Nat.pow_succ, ← Nat.div_div_eq_div_mul, Nat.div_add_mod]
def tb (k : Nat) (f : Nat → Nat) : List Value := (List.range k).map fun j => .int .u32 (f j : Nat)
theorem tb_length (k : Nat) (f : Nat → Nat) : (tb k f).length = k := by simp [tb]
theorem tb_get (k : Nat) (f : Nat → Nat) (i : Nat) : (tb k f)[i]? = if i < k then some (.int .u32 (f i : Nat)) else none := by
  unfold tb
  rw [List.getElem?_map]
  by_cases h : i < k
  · rw [if_pos h, List.getElem?_range h]; rfl
  · rw [if_neg h, List.getElem?_eq_none (by simp; omega)]; rfl
theorem tb_get' {k i : Nat} (f : Nat → Nat) (h : i < k) : (tb k f)[i]? = some (.int .u32 (f i : Nat)) := by rw [tb_get, if_pos h]
theorem tb_congr {k : Nat} {f g : Nat → Nat} (h : ∀ j, j < k → f j = g j) : tb k f = tb k g := by
  apply List.ext_getElem?
  intro i
  rw [tb_get, tb_get]
  split
  · rename_i hi; rw [h i hi]
  · rfl
theorem tb_set (k : Nat) (f : Nat → Nat) (i v : Nat) : (tb k f).set i (.int .u32 (v : Nat)) = tb k (fun j => if j = i then v else f j) := by
  apply List.ext_getElem?
  intro j
  rw [tb_get, List.getElem?_set, tb_get, tb_length]
  by_cases h : i = j
  · subst h
    simp
  · rw [if_neg h]
    by_cases h2 : j < k
    · rw [if_pos h2, if_pos h2, if_neg (by omega)]
    · rw [if_neg h2, if_neg h2]
theorem tb_setR (k : Nat) (f : Nat → Nat) (i v : Nat) : setR (tb k f) i [.int .u32 (v : Nat)] = tb k (fun j => if j = i then v else f j) := by
  simp only [setR, tb_set]
theorem tb_slice {k a b : Nat} (f : Nat → Nat) (h : a + b ≤ k) : ((tb k f).drop a).take b = tb b (fun j => f (a + j)) := by
  apply List.ext_getElem?
  intro j
  rw [tb_get, List.getElem?_take, List.getElem?_drop, tb_get]
  by_cases h1 : j < b
  · rw [if_pos h1, if_pos h1, if_pos (by omega)]
  · rw [if_neg h1, if_neg h1]
theorem tb_take {k b : Nat} (f : Nat → Nat) (h : b ≤ k) : (tb k f).take b = tb b f := by
  have := tb_slice (k := k) (a := 0) (b := b) f (by omega)
  rw [List.drop_zero] at this
  rw [this]; apply tb_congr; intro j _; rw [Nat.zero_add]
theorem tb_all (k : Nat) (f : Nat → Nat) : (tb k f).take k = tb k f := tb_take f (Nat.le_refl _)
theorem tb_zero (f : Nat → Nat) : tb 0 f = [] := rfl
theorem tb_succ (k : Nat) (f : Nat → Nat) : tb (k + 1) f = .int .u32 (f 0 : Nat) :: tb k (fun j => f (j + 1)) := by
  unfold tb; rw [List.range_succ_eq_map]; simp
theorem tb_rep (k : Nat) : (List.replicate k [Value.int .u32 0]).flatten = tb k (fun _ => 0) := by
  induction k with
  | zero => rfl
  | succ k ih => rw [List.replicate_succ, List.flatten_cons, ih, tb_succ]; rfl
theorem tb_base (k : Nat) (f : Nat → Nat) : (tb k f).all isBase = true := by
  unfold tb; rw [List.all_map, List.all_eq_true]; intro x _; rfl
theorem tb_ok (k : Nat) (f : Nat → Nat) : (tb k f).all okCell = true := by
  unfold tb; rw [List.all_map, List.all_eq_true]; intro x _; rfl
def ud : List Value → Nat
  | .int _ i :: r => i.toNat + 4294967296 * ud r
  | _ => 0
def uok : List Value → Bool
  | [] => true
  | .int .u32 i :: r => decide (0 ≤ i) && decide (i < 4294967296) && uok r
  | _ => false
theorem uok_tb : ∀ (k : Nat) (f : Nat → Nat), (∀ j, j < k → f j < 4294967296) → uok (tb k f) = true
  | 0, f, h => rfl
  | k + 1, f, h => by
    rw [tb_succ]
    have h0 := h 0 (by omega)
    simp only [uok, Bool.and_eq_true, decide_eq_true_eq]
    refine ⟨⟨by omega, by omega⟩, uok_tb k _ fun j hj => h (j + 1) (by omega)⟩
theorem uok_lm (k n : Nat) : uok (tb k (lm n)) = true := uok_tb k _ fun j _ => lm_lt n j
theorem ud_tb : ∀ (k n : Nat), ud (tb k (lm n)) = n % 4294967296 ^ k
  | 0, n => by simp [tb_zero, ud, Nat.mod_one]
  | k + 1, n => by
    rw [tb_succ]
    have e : (fun j => lm n (j + 1)) = lm (n / 4294967296) := by funext j; rw [lm_succ]
    rw [e, ud, ud_tb k, lm_zero, Nat.pow_succ, Nat.mul_comm (4294967296 ^ k), Nat.mod_mul, Int.toNat_natCast]
theorem ud_lt : ∀ {cells : List Value}, uok cells = true → ud cells < 4294967296 ^ cells.length
  | [], _ => by simp [ud]
  | c :: r, h => by
    unfold uok at h
    split at h
    · rename_i heq; cases heq
    · rename_i a i r' heq
      cases heq
      simp only [Bool.and_eq_true, decide_eq_true_eq] at h
      have := ud_lt h.2
      simp only [ud, List.length_cons, Nat.pow_succ]
      omega
    · cases h
theorem tb_ud : ∀ {cells : List Value}, uok cells = true → cells = tb cells.length (lm (ud cells))
  | [], _ => rfl
  | c :: r, h => by
    unfold uok at h
    split at h
    · rename_i heq; cases heq
    · rename_i a i r' heq
      cases heq
      simp only [Bool.and_eq_true, decide_eq_true_eq] at h
      rw [List.length_cons, tb_succ]
      have e : (fun j => lm (ud (.int .u32 i :: r)) (j + 1)) = lm (ud r) := by
        funext j; rw [lm_succ, ud]; congr 1; omega
      rw [e, ← tb_ud h.2, lm_zero, ud]
      congr 2
      omega
    · cases h
def cyA (a b i : Nat) : Nat := (a % 4294967296 ^ i + b % 4294967296 ^ i) / 4294967296 ^ i
theorem cyA_zero (a b : Nat) : cyA a b 0 = 0 := by simp [cyA, Nat.mod_one]
theorem cyA_le (a b i : Nat) : cyA a b i ≤ 1 := by
  unfold cyA
  have h1 := Nat.mod_lt a (pB i)
  have h2 := Nat.mod_lt b (pB i)
  rw [← Nat.lt_succ_iff, Nat.div_lt_iff_lt_mul (pB i)]
  omega
theorem add_limb (a b i : Nat) : lm (a + b) i = (lm a i + lm b i + cyA a b i) % 4294967296 := by
  have h : (a + b) / 4294967296 ^ i = a / 4294967296 ^ i + b / 4294967296 ^ i + cyA a b i := by
    unfold cyA
    have ea := Nat.div_add_mod a (4294967296 ^ i)
    have eb := Nat.div_add_mod b (4294967296 ^ i)
    have e : a + b = 4294967296 ^ i * (a / 4294967296 ^ i + b / 4294967296 ^ i) + (a % 4294967296 ^ i + b % 4294967296 ^ i) := by rw [Nat.mul_add]; omega
    rw [e, Nat.mul_add_div (pB i)]
  unfold lm
  rw [h]; omega
theorem cyA_succ (a b i : Nat) : cyA a b (i + 1) = (lm a i + lm b i + cyA a b i) / 4294967296 := by
  unfold cyA
  rw [mod_step, mod_step, Nat.pow_succ, ← Nat.div_div_eq_div_mul]
  have e : a % 4294967296 ^ i + 4294967296 ^ i * lm a i + (b % 4294967296 ^ i + 4294967296 ^ i * lm b i) = 4294967296 ^ i * (lm a i + lm b i) + (a % 4294967296 ^ i + b % 4294967296 ^ i) := by rw [Nat.mul_add]; omega
  rw [e, Nat.mul_add_div (pB i)]
def cyS (a b i : Nat) : Nat := if a % 4294967296 ^ i < b % 4294967296 ^ i then 1 else 0
theorem cyS_zero (a b : Nat) : cyS a b 0 = 0 := by simp [cyS, Nat.mod_one]
theorem cyS_le (a b i : Nat) : cyS a b i ≤ 1 := by unfold cyS; split <;> omega
theorem cyS_succ (a b i : Nat) : cyS a b (i + 1) = if lm a i < lm b i + cyS a b i then 1 else 0 := by
  unfold cyS
  rw [mod_step, mod_step]
  have h1 := Nat.mod_lt a (pB i)
  have h2 := Nat.mod_lt b (pB i)
  generalize a % 4294967296 ^ i = r at *
  generalize b % 4294967296 ^ i = s at *
  generalize 4294967296 ^ i = P at *
  generalize lm a i = x
  generalize lm b i = y
  by_cases c : x < y
  · have : P * (x + 1) ≤ P * y := Nat.mul_le_mul_left _ (by omega)
    rw [Nat.mul_add, Nat.mul_one] at this
    rw [if_pos (by omega), if_pos (by split <;> omega)]
  · by_cases c2 : y < x
    · have : P * (y + 1) ≤ P * x := Nat.mul_le_mul_left _ (by omega)
      rw [Nat.mul_add, Nat.mul_one] at this
      rw [if_neg (by omega), if_neg (by split <;> omega)]
    · have : x = y := by omega
      subst this
      by_cases c3 : r < s
      · rw [if_pos (by omega), if_pos (by rw [if_pos c3]; omega)]
      · rw [if_neg (by omega), if_neg (by rw [if_neg c3]; omega)]
theorem sub_limb {a b c : Nat} {i : Nat} (h : c % 4294967296 ^ (i + 1) + b % 4294967296 ^ (i + 1) = a % 4294967296 ^ (i + 1) ∨ c % 4294967296 ^ (i + 1) + b % 4294967296 ^ (i + 1) = a % 4294967296 ^ (i + 1) + 4294967296 ^ (i + 1)) :
    (lm c i : Int) = ((lm a i : Int) - lm b i - cyS a b i) % 4294967296 := by
  unfold cyS
  rw [mod_step, mod_step, mod_step, Nat.pow_succ] at h
  have h1 := Nat.mod_lt a (pB i)
  have h2 := Nat.mod_lt b (pB i)
  have h3 := Nat.mod_lt c (pB i)
  have l3 := lm_lt c i
  generalize a % 4294967296 ^ i = r at *
  generalize b % 4294967296 ^ i = s at *
  generalize c % 4294967296 ^ i = t at *
  generalize 4294967296 ^ i = P at *
  generalize lm a i = x at *
  generalize lm b i = y at *
  generalize lm c i = z at *
  have key : ∀ u v : Nat, P * u + t + s = P * v + r → (r < s → u + 1 = v) ∧ (¬ r < s → u = v) := by
    intro u v e
    constructor
    · intro hr
      rcases Nat.lt_trichotomy (u + 1) v with g | g | g
      · have : P * (u + 2) ≤ P * v := Nat.mul_le_mul_left _ (by omega)
        rw [Nat.mul_add] at this; omega
      · exact g
      · have : P * v ≤ P * u := Nat.mul_le_mul_left _ (by omega)
        omega
    · intro hr
      rcases Nat.lt_trichotomy u v with g | g | g
      · have : P * (u + 1) ≤ P * v := Nat.mul_le_mul_left _ (by omega)
        rw [Nat.mul_add, Nat.mul_one] at this; omega
      · exact g
      · have : P * (v + 1) ≤ P * u := Nat.mul_le_mul_left _ (by omega)
        rw [Nat.mul_add, Nat.mul_one] at this; omega
  rcases h with h | h
  · have := key (z + y) x (by rw [Nat.mul_add]; omega)
    by_cases c : r < s
    · rw [if_pos c]; have := this.1 c; omega
    · rw [if_neg c]; have := this.2 c; omega
  · have := key (z + y) (x + 4294967296) (by rw [Nat.mul_add, Nat.mul_add]; omega)
    by_cases c : r < s
    · rw [if_pos c]; have := this.1 c; omega
    · rw [if_neg c]; have := this.2 c; omega
theorem pow4 (k : Nat) : (256 : Nat) ^ (4 * k) = 4294967296 ^ k := by rw [Nat.pow_mul]
def lk (n : Nat) : Nat := ((bl n).length + 3) / 4
theorem lk_lt (n : Nat) : n < 4294967296 ^ lk n := by
  rw [← pow4, ← bl_length_le]; unfold lk; omega
theorem lk_le {n k : Nat} (h : n < 4294967296 ^ k) : lk n ≤ k := by
  rw [← pow4, ← bl_length_le] at h; unfold lk; omega
theorem lk_zero {n : Nat} : lk n = 0 ↔ n = 0 := by
  constructor
  · intro h; have := lk_lt n; rw [h] at this; omega
  · intro h; subst h; unfold lk; rw [bl_zero]; rfl
theorem lk_top {n k : Nat} (h : lk n = k + 1) : 4294967296 ^ k ≤ n := by
  refine Nat.le_of_not_lt fun hlt => ?_
  have := lk_le hlt
  omega
end Go.Eng
end
section
set_option linter.unusedVariables false
set_option linter.unusedSimpArgs false
set_option linter.unusedSectionVars false
namespace Go.Eng
open Go Go.IntWalk
theorem or_nat {x c s : Nat} (h : x < 2 ^ s) : x ||| c * 2 ^ s = x + c * 2 ^ s := by
  rw [Nat.or_comm, ← Nat.shiftLeft_eq, ← Nat.shiftLeft_add_eq_or_of_lt h, Nat.add_comm]
theorem u32_nat {n : Nat} (h : n < 4294967296) : IntKind.u32.wrap (n : Int) = (n : Int) := by
  have : IntKind.u32.wrap (n : Int) = ((n : Int) % 4294967296) := rfl
  rw [this]; omega
theorem u64_nat {n : Nat} (h : n < 18446744073709551616) : IntKind.u64.wrap (n : Int) = (n : Int) := by
  have : IntKind.u64.wrap (n : Int) = ((n : Int) % 18446744073709551616) := rfl
  rw [this]; omega
theorem u32_mod (n : Nat) : IntKind.u32.wrap (n : Int) = ((n % 4294967296 : Nat) : Int) := by
  have : IntKind.u32.wrap (n : Int) = ((n : Int) % 4294967296) := rfl
  rw [this]; omega
theorem u32_int (n : Int) : IntKind.u32.wrap n = n % 4294967296 := rfl
theorem bv32 {n : Nat} (h : n < 4294967296) : (BitVec.ofInt IntKind.u32.bits (n : Int)).toNat = n := by
  have : (BitVec.ofInt 32 (n : Int)).toNat = n := by
    rw [BitVec.ofInt_natCast, BitVec.toNat_ofNat]; omega
  exact this
theorem bv64 {n : Nat} (h : n < 18446744073709551616) : (BitVec.ofInt IntKind.u64.bits (n : Int)).toNat = n := by
  have : (BitVec.ofInt 64 (n : Int)).toNat = n := by
    rw [BitVec.ofInt_natCast, BitVec.toNat_ofNat]; omega
  exact this
theorem or_u32 {x c s : Nat} (hx : x < 2 ^ s) (h : x + c * 2 ^ s < 4294967296) : IntKind.u32.wrap ((BitVec.ofInt IntKind.u32.bits (x : Int) ||| BitVec.ofInt IntKind.u32.bits ((c * 2 ^ s : Nat) : Int)).toNat : Int) = ((x + c * 2 ^ s : Nat) : Int) := by
  rw [BitVec.toNat_or, bv32 (by omega), bv32 (by omega), or_nat hx, u32_nat h]
theorem or_u64 {x c s : Nat} (hx : x < 2 ^ s) (h : x + c * 2 ^ s < 18446744073709551616) : IntKind.u64.wrap ((BitVec.ofInt IntKind.u64.bits (x : Int) ||| BitVec.ofInt IntKind.u64.bits ((c * 2 ^ s : Nat) : Int)).toNat : Int) = ((x + c * 2 ^ s : Nat) : Int) := by
  rw [BitVec.toNat_or, bv64 (by omega), bv64 (by omega), or_nat hx, u64_nat h]
theorem borrow32 (X Y D : BitVec 32) (b : Nat) (hb : b ≤ 1) (hD : (D.toNat : Int) = ((X.toNat : Int) - Y.toNat - b) % 4294967296) :
    ((~~~X &&& Y) ||| (~~~(X ^^^ Y) &&& D)).toNat / 2147483648 = if X.toNat < Y.toNat + b then 1 else 0 := by
  have top : ∀ V : BitVec 32, V.toNat / 2147483648 = if V.msb then 1 else 0 := by
    intro V
    have := V.isLt
    rw [BitVec.msb_eq_decide]
    by_cases h : 2 ^ (32 - 1) ≤ V.toNat
    · simp only [h, decide_true, if_true]; omega
    · simp only [h, decide_false]; simp at h ⊢; omega
  rw [top]
  have hx := X.isLt
  have hy := Y.isLt
  have hd := D.isLt
  simp only [BitVec.msb_or, BitVec.msb_and, BitVec.msb_not, BitVec.msb_xor]
  rw [BitVec.msb_eq_decide, BitVec.msb_eq_decide, BitVec.msb_eq_decide]
  by_cases h1 : 2 ^ (32 - 1) ≤ X.toNat <;> by_cases h2 : 2 ^ (32 - 1) ≤ Y.toNat <;> by_cases h3 : 2 ^ (32 - 1) ≤ D.toNat <;> simp only [h1, h2, h3, decide_true, decide_false] <;> simp <;> simp at h1 h2 h3 <;> omega
end Go.Eng
end
section
set_option linter.unusedVariables false
set_option linter.unusedSimpArgs false
set_option linter.unusedSectionVars false
namespace Go.Eng
theorem lm_shift (n k j : Nat) : lm (n / 4294967296 ^ k) j = lm n (k + j) := by
  unfold lm; rw [Nat.div_div_eq_div_mul, ← Nat.pow_add]
theorem kn_step {front top d2 u2 q r qd B : Nat} (h : qd * (top * B + d2) ≤ front * B + u2) (hr : q * top + r = front) (hq : qd ≤ q) (hB : qd < B) (c : q ≥ B ∨ r * B + u2 < q * d2) : qd + 1 ≤ q := by
  rcases Nat.lt_or_ge qd q with g | g
  · exact g
  · have e : q = qd := by omega
    subst e
    rcases c with c | c
    · omega
    · rw [← hr, Nat.mul_add, Nat.add_mul, Nat.mul_assoc q top B] at h
      omega
theorem kn_end {front top d2 u2 q r dl P B : Nat} (hr : q * top + r = front) (c : q * d2 ≤ r * B + u2) (hq : q < B) (ht : 1 ≤ top) (hdl : dl < P) : (q - 1) * ((top * B + d2) * P + dl) ≤ (front * B + u2) * P := by
  rcases Nat.eq_zero_or_pos q with e | e
  · subst e; simp
  · obtain ⟨p, rfl⟩ : ∃ p, q = p + 1 := ⟨q - 1, by omega⟩
    rw [Nat.add_sub_cancel]
    have h1 : (p + 1) * (top * B + d2) ≤ front * B + u2 := by
      rw [← hr, Nat.mul_add, Nat.add_mul ((p + 1) * top), Nat.mul_assoc (p + 1) top B]; omega
    have h2 : (p + 1) * (top * B + d2) * P ≤ (front * B + u2) * P := Nat.mul_le_mul_right _ h1
    refine Nat.le_trans ?_ h2
    have h3 : p * dl ≤ (top * B + d2) * P := Nat.mul_le_mul (by have : 1 * B ≤ top * B := Nat.mul_le_mul_right _ ht; omega) (by omega)
    generalize top * B + d2 = X at *
    rw [Nat.mul_add, Nat.add_mul p 1 X, Nat.add_mul, Nat.one_mul, ← Nat.mul_assoc]
    omega
theorem kn_break {front top d2 u2 q r B : Nat} (hr : q * top + r = front) (hf : front < (top + 1) * B) (h : B ≤ r) (hd : d2 < B) : q < B ∧ q * d2 ≤ r * B + u2 := by
  have hq : q < B := by
    refine Nat.lt_of_not_le fun hle => ?_
    have : B * top ≤ q * top := Nat.mul_le_mul_right _ hle
    rw [Nat.add_mul, Nat.one_mul, Nat.mul_comm top] at hf
    omega
  refine ⟨hq, ?_⟩
  have h1 : q * d2 ≤ r * B := Nat.mul_le_mul (by omega) (by omega)
  omega
theorem kn_parts {n m : Nat} (h : n < 4294967296 ^ (m + 2)) : n = (lm n (m + 1) * 4294967296 + lm n m) * 4294967296 ^ m + n % 4294967296 ^ m := by
  have h1 := div_step n m
  have h2 := Nat.div_add_mod n (4294967296 ^ m)
  rw [h1, lm_top (j := m + 1) h] at *
  rw [← Nat.mul_comm] at h2
  rw [Nat.mul_comm (n / 4294967296 ^ (m + 1))]
  omega
theorem kn_front {n m : Nat} (h : n < 4294967296 ^ (m + 3)) : n = ((lm n (m + 2) * 4294967296 + lm n (m + 1)) * 4294967296 + lm n m) * 4294967296 ^ m + n % 4294967296 ^ m := by
  have h1 := div_step n m
  have h0 := div_step n (m + 1)
  have h2 := Nat.div_add_mod n (4294967296 ^ m)
  rw [← Nat.mul_comm, h1, h0, ← lm_top (j := m + 2) h] at h2
  rw [Nat.mul_comm (lm n (m + 2)), Nat.mul_comm _ 4294967296]
  omega
theorem kn_true {dv seg top d2 dl X u2 sl P B qd : Nat} (hd : dv = (top * B + d2) * P + dl) (hs : seg = (X * B + u2) * P + sl) (hsl : sl < P) (h : qd * dv ≤ seg) : qd * (top * B + d2) ≤ X * B + u2 := by
  refine Nat.le_of_not_lt fun hlt => ?_
  have h1 : (X * B + u2 + 1) * P ≤ qd * (top * B + d2) * P := Nat.mul_le_mul_right _ hlt
  rw [Nat.add_mul, Nat.one_mul] at h1
  have h2 : qd * (top * B + d2) * P ≤ qd * dv := by
    rw [hd, Nat.mul_assoc]; exact Nat.mul_le_mul_left _ (by omega)
  omega
theorem kn_lt {dv seg top d2 dl X u2 sl P B : Nat} (hd : dv = (top * B + d2) * P + dl) (hd2 : d2 < B) (hdl : dl < P) (hs : seg = (X * B + u2) * P + sl) (h : seg < dv * B) (hB : 0 < B) : X < (top + 1) * B := by
  refine Nat.lt_of_not_le fun hle => ?_
  have h0 : dv < (top + 1) * B * P := by
    rw [hd]
    have : (top * B + d2 + 1) * P ≤ (top + 1) * B * P := Nat.mul_le_mul_right _ (by rw [Nat.add_mul]; omega)
    rw [Nat.add_mul, Nat.one_mul] at this
    omega
  have h1 : dv * B ≤ (top + 1) * B * P * B := Nat.mul_le_mul_right _ (by omega)
  have h2 : (top + 1) * B * B * P ≤ (X * B + u2) * P := Nat.mul_le_mul_right _ (by
    have := Nat.mul_le_mul_right B hle; omega)
  have e : (top + 1) * B * P * B = (top + 1) * B * B * P := by rw [Nat.mul_assoc, Nat.mul_comm P B, ← Nat.mul_assoc]
  omega
theorem dig_lm (u dv k : Nat) (hd : 0 < dv) : (u % (dv * 4294967296 ^ (k + 1))) / 4294967296 ^ k / dv = lm (u / dv) k := by
  unfold lm
  rw [Nat.div_div_eq_div_mul, Nat.mul_comm _ dv, Nat.pow_succ, ← Nat.mul_assoc, Nat.mod_mul_right_div_self, ← Nat.div_div_eq_div_mul]
theorem dig_rest (u dv k : Nat) (hd : 0 < dv) : u % (dv * 4294967296 ^ k) = (u % (dv * 4294967296 ^ (k + 1))) - lm (u / dv) k * (dv * 4294967296 ^ k) := by
  have e : u % (dv * 4294967296 ^ (k + 1)) % (dv * 4294967296 ^ k) = u % (dv * 4294967296 ^ k) := by
    rw [Nat.pow_succ, ← Nat.mul_assoc, Nat.mod_mul_right_mod]
  rw [← e, ← dig_lm u dv k hd, Nat.div_div_eq_div_mul, Nat.mul_comm (4294967296 ^ k) dv]
  generalize u % (dv * 4294967296 ^ (k + 1)) = R
  have := Nat.div_add_mod R (dv * 4294967296 ^ k)
  rw [Nat.mul_comm] at this
  omega
theorem limb_byte {v c i : Nat} (hv : v < 256 ^ i) (hc : c < 256) :
    (∀ j, lm (v + 256 ^ i * c) j = if j = i / 4 then lm v (i / 4) + c * 2 ^ (8 * (i % 4)) else lm v j) ∧ lm v (i / 4) < 2 ^ (8 * (i % 4)) ∧ lm v (i / 4) + c * 2 ^ (8 * (i % 4)) < 4294967296 := by
  have e2 : 2 ^ (8 * (i % 4)) = 256 ^ (i % 4) := by rw [Nat.pow_mul]
  have ei : 256 ^ i = 4294967296 ^ (i / 4) * 256 ^ (i % 4) := by rw [← pow4, ← Nat.pow_add]; congr 1; omega
  have hW : 256 ^ (i % 4) * 256 ≤ 4294967296 := by
    have : i % 4 = 0 ∨ i % 4 = 1 ∨ i % 4 = 2 ∨ i % 4 = 3 := by omega
    rcases this with h | h | h | h <;> rw [h] <;> decide
  rw [e2]
  rw [ei] at hv ⊢
  generalize 256 ^ (i % 4) = W at *
  have hq : v / 4294967296 ^ (i / 4) < W := Nat.div_lt_of_lt_mul hv
  have hlq : lm v (i / 4) = v / 4294967296 ^ (i / 4) := by unfold lm; rw [Nat.mod_eq_of_lt (by omega)]
  have hb : v / 4294967296 ^ (i / 4) + c * W < 4294967296 := by
    have : (c + 1) * W ≤ 256 * W := Nat.mul_le_mul_right _ (by omega)
    rw [Nat.add_mul, Nat.one_mul] at this
    omega
  refine ⟨fun j => ?_, by rw [hlq]; exact hq, by rw [hlq]; exact hb⟩
  have es : v + 4294967296 ^ (i / 4) * W * c = v + W * c * 4294967296 ^ (i / 4) := by rw [Nat.mul_assoc, Nat.mul_comm]
  rcases Nat.lt_trichotomy j (i / 4) with g | g | g
  · rw [if_neg (by omega), es, lm_add_mul g]
  · rw [if_pos g, g, hlq]
    unfold lm
    rw [es, Nat.add_mul_div_right _ _ (pB _), Nat.mul_comm W c, Nat.mod_eq_of_lt hb]
  · rw [if_neg (by omega)]
    have h1 : v < 4294967296 ^ (i / 4 + 1) := by
      rw [Nat.pow_succ]
      exact Nat.lt_of_lt_of_le hv (Nat.mul_le_mul_left _ (by omega))
    have h2 : v + 4294967296 ^ (i / 4) * W * c < 4294967296 ^ (i / 4 + 1) := by
      have hd := Nat.div_add_mod v (4294967296 ^ (i / 4))
      have hm := Nat.mod_lt v (pB (i / 4))
      have : 4294967296 ^ (i / 4) * (v / 4294967296 ^ (i / 4) + c * W + 1) ≤ 4294967296 ^ (i / 4) * 4294967296 := Nat.mul_le_mul_left _ (by omega)
      rw [Nat.mul_add, Nat.mul_add, Nat.mul_one, ← Nat.mul_assoc, ← Nat.pow_succ] at this
      have e3 : 4294967296 ^ (i / 4) * c * W = 4294967296 ^ (i / 4) * W * c := by rw [Nat.mul_assoc, Nat.mul_comm c W, ← Nat.mul_assoc]
      omega
    rw [lm_of_lt' h1 (by omega), lm_of_lt' h2 (by omega)]
theorem byte_limb (n i k : Nat) (hk : k < 4) : lm n i / 2 ^ (8 * k) % 256 = n / 256 ^ (4 * i + k) % 256 := by
  have e2 : 2 ^ (8 * k) = 256 ^ k := by rw [Nat.pow_mul]
  rw [e2, Nat.pow_add, pow4, ← Nat.div_div_eq_div_mul]
  unfold lm
  have hk' : k = 0 ∨ k = 1 ∨ k = 2 ∨ k = 3 := by omega
  rcases hk' with h | h | h | h <;> subst h <;> simp only [Nat.pow_zero, Nat.reducePow] <;> omega
theorem byte_step (n p : Nat) : n % 256 ^ (p + 1) = n % 256 ^ p + 256 ^ p * (n / 256 ^ p % 256) := by
  rw [Nat.pow_succ, Nat.mod_mul]
theorem mod_add_cases (b c : Nat) {P : Nat} (hP : 0 < P) : c % P + b % P = (b + c) % P ∨ c % P + b % P = (b + c) % P + P := by
  rw [Nat.add_mod b c]
  have u1 := Nat.mod_lt b hP
  have u2 := Nat.mod_lt c hP
  generalize b % P = x at *
  generalize c % P = y at *
  by_cases g : x + y < P
  · rw [Nat.mod_eq_of_lt g]; omega
  · rw [Nat.mod_eq_sub_mod (by omega), Nat.mod_eq_of_lt (by omega)]; omega
theorem sub_mods {a b : Nat} (h : b ≤ a) (i : Nat) : (a - b) % 4294967296 ^ (i + 1) + b % 4294967296 ^ (i + 1) = a % 4294967296 ^ (i + 1) ∨ (a - b) % 4294967296 ^ (i + 1) + b % 4294967296 ^ (i + 1) = a % 4294967296 ^ (i + 1) + 4294967296 ^ (i + 1) := by
  obtain ⟨c, rfl⟩ : ∃ c, a = b + c := ⟨a - b, by omega⟩
  rw [Nat.add_sub_cancel_left]
  exact mod_add_cases b c (pB _)
end Go.Eng
end
section
set_option linter.unusedVariables false
set_option linter.unusedSimpArgs false
set_option linter.unusedSectionVars false
namespace Go.Eng
variable {P : Program} {E : Env}
theorem iota1 (n k N k' : Nat) : iotaE [(n, k)] N k' = if n = k' then some ⟨k, 0, []⟩ else if k' < N then some ⟨k', 0, []⟩ else none := by
  unfold iotaE
  by_cases h : n = k'
  · simp [h]
  · simp [h]
theorem iota2 (n k m l N k' : Nat) : iotaE [(n, k), (m, l)] N k' = if n = k' then some ⟨k, 0, []⟩ else if m = k' then some ⟨l, 0, []⟩ else if k' < N then some ⟨k', 0, []⟩ else none := by
  unfold iotaE
  by_cases h : n = k'
  · simp [h]
  · by_cases h2 : m = k'
    · simp [h, h2]
    · simp [h, h2]
theorem iota0 (N k' : Nat) : iotaE [] N k' = if k' < N then some ⟨k', 0, []⟩ else none := by
  simp [iotaE]
def vr1 (vf : Nat → Value) : Prop := ∀ (β : Emb) i j, β i = some ⟨j, 0, []⟩ → VR β (vf i) (vf j)
theorem vr1_sl (off len cap : Nat) : vr1 fun k => .slice (some ⟨k, off, none⟩) len cap := fun β i j h => .sl i off len cap ⟨j, 0, []⟩ h
theorem vr1_flat {v : Value} (h : flatV v = true) : vr1 fun _ => v := fun β i j _ => flatV_vr h
theorem vr1_pair {f g : Nat → Value} (hf : vr1 f) (hg : vr1 g) : vr1 fun k => .tuple ⟨[f k, g k]⟩ :=
  fun β i j h => .tup _ _ (.cons _ _ _ _ (hf β i j h) (.cons _ _ _ _ (hg β i j h) .nil))
def nwS (F : List Value → Heap → Option ((Nat → Value) × Blk)) : Spec := fun args h n => (F args h).map fun r => (r.1 n, [(n, some r.2)], 1)
def FinN (res : List IRes) (vf : Nat → Value) (b : Blk) (h : Heap) (N : Nat) (e : IExit) (s : St) : Prop :=
  isEnd e ∧ ∃ vs k x, resL s res = some vs ∧ one vs = vf k ∧ N ≤ k ∧ hget s.hp k = some ⟨b.elem, b.sz, x, b.cells⟩ ∧ ∀ k, k < N → hget s.hp k = hget h k
theorem nw_run (hE : EnvOK P E) (hm : P.follows .mixedOrders = true) {f : Nat} {nt : Nat} {res : List IRes} {c : ICode} (ht : trFun P f = some ⟨nt, res, c⟩) {F : List Value → Heap → Option ((Nat → Value) × Blk)}
    (mono : ∀ args h h' v, hle h h' → F args h = some v → F args h' = some v)
    (hrun : ∀ args vf b h N, F args h = some (vf, b) → (∀ k b, hget h k = some b → k < N) → b.x = false ∧ b.cells.all isBase = true ∧ vr1 vf ∧ args.length ≤ nt ∧ wpI E c (FinN res vf b h N) ⟨initT args, h, N + 0⟩) : SpecOK P f (nwS F) := by
  refine spec_ok hE hm ht ?_ ?_
  · intro args h h' n o hl e
    simp only [nwS, Option.map_eq_some_iff] at e ⊢
    obtain ⟨v, e1, e2⟩ := e
    exact ⟨v, mono args h h' v hl e1, e2⟩
  · intro args h n v δ m N e hn hN
    simp only [nwS, Option.map_eq_some_iff, Prod.mk.injEq] at e
    obtain ⟨⟨vf, b⟩, e1, rfl, rfl, rfl⟩ := e
    obtain ⟨hx, hb, hv, h2, h3⟩ := hrun args vf b h N e1 hN
    refine ⟨h2, wpI_mono _ ?_ h3⟩
    rintro e s ⟨he, vs, k, x, hvs, hvk, hNk, hk, hh⟩
    refine ⟨he, vs, hvs, [(n, k)], ?_, ?_, ?_, ?_⟩
    · intro p hp
      rw [List.mem_singleton] at hp; subst hp
      simp only; omega
    · rw [hvk]; exact hv _ n k (by rw [iota1, if_pos rfl])
    · intro k' blk e
      simp only [List.cons_append, List.nil_append, hget] at e
      by_cases c : n = k'
      · rw [if_pos c] at e; cases e
        refine .inr ⟨⟨k, 0, []⟩, _, by rw [iota1, if_pos c], hk, rfl, rfl, fun h => ?_, VRs.of_base hb⟩
        rw [hx] at h; cases h
      · rw [if_neg c] at e
        have hlt := hN k' blk e
        exact .inl ⟨hlt, e, by rw [hh k' hlt]; exact e⟩
    · intro k1 k2 L1 L2 a1 a2 b1 b2 e
      rw [iota1] at b1 b2
      by_cases c1 : n = k1
      · by_cases c2 : n = k2
        · omega
        · rw [if_pos c1] at b1; cases b1
          rw [if_neg c2] at b2
          by_cases c3 : k2 < N
          · rw [if_pos c3] at b2; cases b2; simp only at e; omega
          · rw [if_neg c3] at b2; cases b2
      · rw [if_neg c1] at b1
        by_cases c3 : k1 < N
        · rw [if_pos c3] at b1; cases b1
          by_cases c2 : n = k2
          · rw [if_pos c2] at b2; cases b2; simp only at e; omega
          · rw [if_neg c2] at b2
            by_cases c4 : k2 < N
            · rw [if_pos c4] at b2; cases b2; exact e
            · rw [if_neg c4] at b2; cases b2
        · rw [if_neg c3] at b1; cases b1
def vr2 (vf : Nat → Nat → Value) : Prop := ∀ (β : Emb) i j i' j', β i = some ⟨j, 0, []⟩ → β i' = some ⟨j', 0, []⟩ → VR β (vf i i') (vf j j')
def nw2S (F : List Value → Heap → Option ((Nat → Nat → Value) × Blk × Blk)) : Spec := fun args h n => (F args h).map fun r => (r.1 n (n + 1), [(n, some r.2.1), (n + 1, some r.2.2)], 2)
def Fin2 (res : List IRes) (vf : Nat → Nat → Value) (b b' : Blk) (h : Heap) (N : Nat) (e : IExit) (s : St) : Prop :=
  isEnd e ∧ ∃ vs k k' x x', resL s res = some vs ∧ one vs = vf k k' ∧ N ≤ k ∧ N ≤ k' ∧ k ≠ k' ∧ hget s.hp k = some ⟨b.elem, b.sz, x, b.cells⟩ ∧ hget s.hp k' = some ⟨b'.elem, b'.sz, x', b'.cells⟩ ∧ ∀ k, k < N → hget s.hp k = hget h k
theorem nw2_run (hE : EnvOK P E) (hm : P.follows .mixedOrders = true) {f : Nat} {nt : Nat} {res : List IRes} {c : ICode} (ht : trFun P f = some ⟨nt, res, c⟩) {F : List Value → Heap → Option ((Nat → Nat → Value) × Blk × Blk)}
    (mono : ∀ args h h' v, hle h h' → F args h = some v → F args h' = some v)
    (hrun : ∀ args vf b b' h N, F args h = some (vf, b, b') → (∀ k b, hget h k = some b → k < N) → b.x = false ∧ b'.x = false ∧ b.cells.all isBase = true ∧ b'.cells.all isBase = true ∧ vr2 vf ∧ args.length ≤ nt ∧ wpI E c (Fin2 res vf b b' h N) ⟨initT args, h, N + 0⟩) : SpecOK P f (nw2S F) := by
  refine spec_ok hE hm ht ?_ ?_
  · intro args h h' n o hl e
    simp only [nw2S, Option.map_eq_some_iff] at e ⊢
    obtain ⟨v, e1, e2⟩ := e
    exact ⟨v, mono args h h' v hl e1, e2⟩
  · intro args h n v δ m N e hn hN
    simp only [nw2S, Option.map_eq_some_iff, Prod.mk.injEq] at e
    obtain ⟨⟨vf, b, b'⟩, e1, rfl, rfl, rfl⟩ := e
    obtain ⟨hx, hx', hb, hb', hv, h2, h3⟩ := hrun args vf b b' h N e1 hN
    refine ⟨h2, wpI_mono _ ?_ h3⟩
    rintro e s ⟨he, vs, k, l, x, x', hvs, hvk, hNk, hNl, hkl, hk, hl, hh⟩
    refine ⟨he, vs, hvs, [(n, k), (n + 1, l)], ?_, ?_, ?_, ?_⟩
    · intro p hp
      rw [List.mem_cons, List.mem_singleton] at hp
      rcases hp with rfl | rfl
      · simp only; omega
      · simp only; omega
    · rw [hvk]; exact hv _ n k (n + 1) l (by rw [iota2, if_pos rfl]) (by rw [iota2, if_neg (by omega), if_pos rfl])
    · intro k' blk e
      simp only [List.cons_append, List.nil_append, hget] at e
      by_cases c : n = k'
      · rw [if_pos c] at e; cases e
        refine .inr ⟨⟨k, 0, []⟩, _, by rw [iota2, if_pos c], hk, rfl, rfl, fun h => ?_, VRs.of_base hb⟩
        rw [hx] at h; cases h
      · rw [if_neg c] at e
        by_cases c' : n + 1 = k'
        · rw [if_pos c'] at e; cases e
          refine .inr ⟨⟨l, 0, []⟩, _, by rw [iota2, if_neg c, if_pos c'], hl, rfl, rfl, fun h => ?_, VRs.of_base hb'⟩
          rw [hx'] at h; cases h
        · rw [if_neg c'] at e
          have hlt := hN k' blk e
          exact .inl ⟨hlt, e, by rw [hh k' hlt]; exact e⟩
    · have tell : ∀ k1 L1, iotaE [(n, k), (n + 1, l)] N k1 = some L1 → (k1 = n ∧ L1.b = k) ∨ (k1 = n + 1 ∧ L1.b = l) ∨ (k1 ≠ n ∧ k1 ≠ n + 1 ∧ L1.b = k1 ∧ k1 < N) := by
        intro k1 L1 b1
        rw [iota2] at b1
        by_cases c1 : n = k1
        · rw [if_pos c1] at b1; cases b1; exact .inl ⟨c1.symm, rfl⟩
        · rw [if_neg c1] at b1
          by_cases c2 : n + 1 = k1
          · rw [if_pos c2] at b1; cases b1; exact .inr (.inl ⟨c2.symm, rfl⟩)
          · rw [if_neg c2] at b1
            by_cases c3 : k1 < N
            · rw [if_pos c3] at b1; cases b1; exact .inr (.inr ⟨fun h => c1 h.symm, fun h => c2 h.symm, rfl, c3⟩)
            · rw [if_neg c3] at b1; cases b1
      intro k1 k2 L1 L2 a1 a2 b1 b2 e
      have t1 := tell k1 L1 b1
      have t2 := tell k2 L2 b2
      omega
def upS (F : List Value → Heap → Option (Value × Nat × Blk)) : Spec := fun args h n => (F args h).map fun r => (r.1, [(r.2.1, some r.2.2)], 0)
def FinU (res : List IRes) (v : Value) (k : Nat) (b : Blk) (h : Heap) (N : Nat) (e : IExit) (s : St) : Prop :=
  isEnd e ∧ ∃ vs, resL s res = some vs ∧ one vs = v ∧ hget s.hp k = some b ∧ ∀ k', k' < N → k' ≠ k → hget s.hp k' = hget h k'
theorem up_run (hE : EnvOK P E) (hm : P.follows .mixedOrders = true) {f : Nat} {nt : Nat} {res : List IRes} {c : ICode} (ht : trFun P f = some ⟨nt, res, c⟩) {F : List Value → Heap → Option (Value × Nat × Blk)}
    (mono : ∀ args h h' v, hle h h' → F args h = some v → F args h' = some v)
    (hrun : ∀ args v k b h N, F args h = some (v, k, b) → (∀ k b, hget h k = some b → k < N) → k < N ∧ b.cells.all isBase = true ∧ flatW v = true ∧ args.length ≤ nt ∧ wpI E c (FinU res v k b h N) ⟨initT args, h, N + 0⟩) : SpecOK P f (upS F) := by
  refine spec_ok hE hm ht ?_ ?_
  · intro args h h' n o hl e
    simp only [upS, Option.map_eq_some_iff] at e ⊢
    obtain ⟨v, e1, e2⟩ := e
    exact ⟨v, mono args h h' v hl e1, e2⟩
  · intro args h n v δ m N e hn hN
    simp only [upS, Option.map_eq_some_iff, Prod.mk.injEq] at e
    obtain ⟨⟨v0, k, b⟩, e1, rfl, rfl, rfl⟩ := e
    obtain ⟨hk, hb, hv, h2, h3⟩ := hrun args v0 k b h N e1 hN
    refine ⟨h2, wpI_mono _ ?_ h3⟩
    rintro e s ⟨he, vs, hvs, hvk, hbk, hh⟩
    refine ⟨he, vs, hvs, [], fun p hp => (by simp at hp), by rw [hvk]; exact flatW_vr hv, ?_, ?_⟩
    · intro k' blk e
      simp only [List.cons_append, List.nil_append, hget] at e
      by_cases c : k = k'
      · rw [if_pos c] at e; cases e
        refine .inr ⟨⟨k, 0, []⟩, b, by rw [iota0, if_pos (by omega), c], hbk, rfl, rfl, id, VRs.of_base hb⟩
      · rw [if_neg c] at e
        have hlt := hN k' blk e
        exact .inl ⟨hlt, e, by rw [hh k' hlt (fun e => c e.symm)]; exact e⟩
    · intro k1 k2 L1 L2 a1 a2 b1 b2 e
      rw [iota0] at b1 b2
      by_cases c1 : k1 < N
      · by_cases c2 : k2 < N
        · rw [if_pos c1] at b1; rw [if_pos c2] at b2
          cases b1; cases b2; exact e
        · rw [if_neg c2] at b2; cases b2
      · rw [if_neg c1] at b1; cases b1
theorem a_call2 {tm : List (Nat × Value)} {hp : Heap} {N k d : Nat} {v : Value} {x y : Nat × Option Blk} {K : St → Prop} :
    @aft (some d) (some (v, [x, y], 2)) ⟨(⟨tm, hp, N + k⟩, K)⟩ = K ⟨(d, v) :: tm, x :: y :: hp, N + (k + 2)⟩ := propext Iff.rfl
def shows (h : Heap) : Value → Option (List Value)
  | .slice (some ⟨k, off, none⟩) len _ => match hget h k with
    | some blk => if off + len ≤ blk.cells.length then some ((blk.cells.drop off).take len) else none
    | none => none
  | _ => none
theorem shows_mono {h h' : Heap} {v : Value} {cs : List Value} (hl : hle h h') (e : shows h v = some cs) : shows h' v = some cs := by
  unfold shows at e ⊢
  split at e
  · split at e
    · rename_i blk hb
      simp only [hl _ _ hb]; exact e
    · cases e
  · cases e
theorem shows_inv {h : Heap} {v : Value} {cs : List Value} (e : shows h v = some cs) : ∃ k off len cap blk, v = .slice (some ⟨k, off, none⟩) len cap ∧ hget h k = some blk ∧ off + len ≤ blk.cells.length ∧ cs = (blk.cells.drop off).take len ∧ cs.length = len := by
  unfold shows at e
  split at e
  · rename_i k off len cap
    split at e
    · rename_i blk hb
      split at e
      · rename_i hl
        cases e
        refine ⟨k, off, len, cap, blk, rfl, hb, hl, rfl, ?_⟩
        rw [List.length_take, List.length_drop]; omega
      · cases e
    · cases e
  · cases e
end Go.Eng
end
section
set_option linter.unusedVariables false
set_option linter.unusedSimpArgs false
set_option linter.unusedSectionVars false
set_option maxRecDepth 4000
namespace Go.Eng
open Go Go.Proofs Go.IntWalk
def spTrB : List Value → Option Value
  | [.string ⟨⟨l⟩⟩, .int .u8 0] => if l.length ≤ 1099511627776 then some (.string ⟨⟨bl (nl l)⟩⟩) else none
  | _ => none
def c141 : ICode :=
  (.seq (.reg [⟨(some 4), none, (.mv (.c (.string ⟨⟨[]⟩⟩)))⟩])
  (.seq (.block 0 (.loop (.seq (.seq (.reg [⟨(some 5), none, (.mv (.t 0))⟩, ⟨(some 6), none, (.lens (.t 5))⟩, ⟨(some 7), none, (.bin .gtr (.t 6) (.c (.int .i64 0)))⟩, ⟨(some 8), none, (.mv (.t 7))⟩, ⟨(some 9), (some (8, true)), (.mv (.t 0))⟩, ⟨(some 10), (some (8, true)), (.mv (.t 0))⟩, ⟨(some 11), (some (8, true)), (.lens (.t 10))⟩, ⟨(some 12), (some (8, true)), (.bin .sub (.t 11) (.c (.int .i64 1)))⟩, ⟨(some 13), (some (8, true)), (.idstr (.t 9) (.t 12))⟩, ⟨(some 14), (some (8, true)), (.mv (.t 1))⟩, ⟨(some 15), (some (8, true)), (.bin .eql (.t 13) (.t 14))⟩, ⟨(some 16), none, (.pick (.t 8) (.t 15) (.c (.bool false)))⟩])
  (.cond (.t 16)
  .skip
  (.exit 0)))
  (.block 1 (.reg [⟨(some 17), none, (.mv (.t 0))⟩, ⟨(some 18), none, (.mv (.t 0))⟩, ⟨(some 19), none, (.lens (.t 18))⟩, ⟨(some 20), none, (.bin .sub (.t 19) (.c (.int .i64 1)))⟩, ⟨(some 21), none, (.slstr (.t 17) none (some (.t 20)))⟩, ⟨(some 0), none, (.mv (.t 21))⟩])))))
  (.seq (.reg [⟨(some 22), none, (.mv (.t 0))⟩, ⟨(some 4), none, (.mv (.t 22))⟩])
  .ret)))
theorem tr141 : trFun Tryz.prog 141 = some ⟨23, [.t 4], c141⟩ := by kernel_rfl
theorem ok_trB : SpecOK Tryz.prog 141 (flat spTrB) := by
  refine flat_run (env_nil _) mixed tr141 ?_
  intro args v h N hG
  unfold spTrB at hG
  split at hG
  case h_2 => cases hG
  rename_i l
  split at hG
  case isFalse => cases hG
  rename_i hl
  cases hG
  refine ⟨rfl, by simp, ?_⟩
  simp only [c141, initT, List.zipIdx_cons, List.zipIdx_nil, List.map_cons, List.map_nil, Nat.reduceAdd]
  simp only [↓R0, R1, rdL, rdH, isCall, istep, ibin, vcells, fillI, setR, flat, okCell, isBase, List.set, List.drop, List.take, List.append, bnds, bhi, blo, srcOf, simprocAttr, -Int.reduceAbs]
  refine lp_parts (fun n tm hp nx => tmget tm 0 = .string ⟨⟨l.take n⟩⟩ ∧ tmget tm 1 = .int .u8 0 ∧ n ≤ l.length ∧ (∀ i, n ≤ i → i < l.length → l[i]? = some 0) ∧ hp = h ∧ nx = N + 0) ?_ l.length ⟨?_, ?_, Nat.le_refl _, fun i h1 h2 => by omega, rfl, rfl⟩
  · intro n tm hp nx ⟨h0, h1, hn, hz, rfl, rfl⟩
    have hlen : (l.take n).length = n := by rw [List.length_take]; omega
    simp only [↓R0, R1, rdL, rdH, isCall, istep, ibin, vcells, fillI, setR, flat, okCell, isBase, List.set, List.drop, List.take, List.append, bnds, bhi, blo, srcOf, simprocAttr, -Int.reduceAbs, h0, h1, hlen]
    by_cases hb : 0 < n
    · obtain ⟨n, rfl⟩ : ∃ n', n = n' + 1 := ⟨n - 1, by omega⟩
      have e1 : IntKind.i64.wrap (((n + 1 : Nat) : Int) - 1) = (n : Int) := by rw [i64_in _ (by omega)]; omega
      obtain ⟨b, hbb⟩ : ∃ b, l[n]? = some b := ⟨_, List.getElem?_eq_getElem (by omega)⟩
      have ht : (l.take (n + 1))[n]? = some b := by rw [List.getElem?_take, if_pos (by omega), hbb]
      have ht2 : (l.take (n + 1)).take n = l.take n := by rw [List.take_take]; congr 1; omega
      have hb2 : (((n + 1 : Nat) : Int) > 0) = True := eq_true (by omega)
      have hb3 : n ≤ n + 1 := by omega
      simp only [↓R0, R1, rdL, rdH, isCall, istep, ibin, vcells, fillI, setR, flat, okCell, isBase, List.set, List.drop, List.take, List.append, bnds, bhi, blo, srcOf, simprocAttr, -Int.reduceAbs, h0, h1, hb2, hlen, e1, ht]
      refine cd_case (fun hc => ?_) (fun hc => ?_)
      · simp only [↓R0, R1, rdL, rdH, isCall, istep, ibin, vcells, fillI, setR, flat, okCell, isBase, List.set, List.drop, List.take, List.append, bnds, bhi, blo, srcOf, simprocAttr, -Int.reduceAbs, h0, h1, e1, hlen, hb3, ht2]
        refine ⟨n, by omega, rfl, by omega, fun i h1 h2 => ?_⟩
        by_cases e : i = n
        · subst e; rw [hbb]; congr 1; apply UInt8.toNat_inj.1; simp at hc ⊢; omega
        · exact hz i (by omega) h2
      · simp only [↓R0, R1, rdL, rdH, isCall, istep, ibin, vcells, fillI, setR, flat, okCell, isBase, List.set, List.drop, List.take, List.append, bnds, bhi, blo, srcOf, simprocAttr, -Int.reduceAbs, h0]
        refine fin_t trivial ?_ (fun k hk => rfl)
        simp only [↓R0, R1, rdL, rdH, isCall, istep, ibin, vcells, fillI, setR, flat, okCell, isBase, List.set, List.drop, List.take, List.append, bnds, bhi, blo, srcOf, simprocAttr, -Int.reduceAbs, h0]
        rw [take_norm hn hz (.inr ⟨b, hbb, fun e => by subst e; simp at hc⟩)]
    · have e : n = 0 := by omega
      subst e
      simp only [↓R0, R1, rdL, rdH, isCall, istep, ibin, vcells, fillI, setR, flat, okCell, isBase, List.set, List.drop, List.take, List.append, bnds, bhi, blo, srcOf, simprocAttr, -Int.reduceAbs, h0, Int.natCast_zero]
      refine fin_t trivial ?_ (fun k hk => rfl)
      simp only [↓R0, R1, rdL, rdH, isCall, istep, ibin, vcells, fillI, setR, flat, okCell, isBase, List.set, List.drop, List.take, List.append, bnds, bhi, blo, srcOf, simprocAttr, -Int.reduceAbs, h0]
      have := take_norm hn hz (.inl rfl)
      rw [List.take_zero] at this
      rw [← this]
  · simp only [↓R0, R1, rdL, rdH, isCall, istep, ibin, vcells, fillI, setR, flat, okCell, isBase, List.set, List.drop, List.take, List.append, bnds, bhi, blo, srcOf, simprocAttr, -Int.reduceAbs, List.take_length]
  · simp only [↓R0, R1, rdL, rdH, isCall, istep, ibin, vcells, fillI, setR, flat, okCell, isBase, List.set, List.drop, List.take, List.append, bnds, bhi, blo, srcOf, simprocAttr, -Int.reduceAbs]
def spTrR : List Value → Option Value
  | [.string ⟨⟨l⟩⟩, .string ⟨⟨[0]⟩⟩] => if l.length ≤ 1099511627776 then some (.string ⟨⟨bl (nl l)⟩⟩) else none
  | _ => none
def c133 : ICode :=
  (.seq (.reg [⟨(some 4), none, (.mv (.c (.string ⟨⟨[]⟩⟩)))⟩])
  (.seq (.seq (.reg [⟨(some 7), none, (.mv (.t 0))⟩, ⟨(some 8), none, (.bin .eql (.t 7) (.c (.string ⟨⟨[]⟩⟩)))⟩, ⟨(some 9), none, (.mv (.t 8))⟩, ⟨(some 10), (some (9, false)), (.mv (.t 1))⟩, ⟨(some 11), (some (9, false)), (.bin .eql (.t 10) (.c (.string ⟨⟨[]⟩⟩)))⟩, ⟨(some 12), none, (.pick (.t 9) (.c (.bool true)) (.t 11))⟩])
  (.cond (.t 12)
  (.seq (.reg [⟨(some 13), none, (.mv (.t 0))⟩, ⟨(some 4), none, (.mv (.t 13))⟩])
  .ret)
  .skip))
  (.seq (.seq (.reg [⟨(some 14), none, (.mv (.t 1))⟩, ⟨(some 15), none, (.lens (.t 14))⟩, ⟨(some 16), none, (.bin .eql (.t 15) (.c (.int .i64 1)))⟩, ⟨(some 17), none, (.mv (.t 16))⟩, ⟨(some 18), (some (17, true)), (.mv (.t 1))⟩, ⟨(some 19), (some (17, true)), (.idstr (.t 18) (.c (.int .i64 0)))⟩, ⟨(some 20), (some (17, true)), (.bin .lss (.t 19) (.c (.int .u8 128)))⟩, ⟨(some 21), none, (.pick (.t 17) (.t 20) (.c (.bool false)))⟩])
  (.cond (.t 21)
  (.seq (.reg [⟨(some 22), none, (.mv (.t 0))⟩, ⟨(some 23), none, (.mv (.t 1))⟩, ⟨(some 24), none, (.idstr (.t 23) (.c (.int .i64 0)))⟩, ⟨(some 25), none, (.call 141 [(.t 22), (.t 24)])⟩, ⟨(some 4), none, (.mv (.t 25))⟩])
  .ret)
  .skip))
  (.seq (.seq (.reg [⟨(some 27), none, (.mv (.t 1))⟩, ⟨(some 28), none, (.call 142 [(.t 27)])⟩, ⟨(some 26), none, (.mv (.t 28))⟩, ⟨(some 29), none, (.ext (.t 26) 0)⟩, ⟨(some 30), none, (.ext (.t 26) 1)⟩, ⟨(some 5), none, (.alloc 142 256 [(.bool false), (.bool false), (.bool false), (.bool false), (.bool false), (.bool false), (.bool false), (.bool false), (.bool false), (.bool false), (.bool false), (.bool false), (.bool false), (.bool false), (.bool false), (.bool false), (.bool false), (.bool false), (.bool false), (.bool false), (.bool false), (.bool false), (.bool false), (.bool false), (.bool false), (.bool false), (.bool false), (.bool false), (.bool false), (.bool false), (.bool false), (.bool false), (.bool false), (.bool false), (.bool false), (.bool false), (.bool false), (.bool false), (.bool false), (.bool false), (.bool false), (.bool false), (.bool false), (.bool false), (.bool false), (.bool false), (.bool false), (.bool false), (.bool false), (.bool false), (.bool false), (.bool false), (.bool false), (.bool false), (.bool false), (.bool false), (.bool false), (.bool false), (.bool false), (.bool false), (.bool false), (.bool false), (.bool false), (.bool false), (.bool false), (.bool false), (.bool false), (.bool false), (.bool false), (.bool false), (.bool false), (.bool false), (.bool false), (.bool false), (.bool false), (.bool false), (.bool false), (.bool false), (.bool false), (.bool false), (.bool false), (.bool false), (.bool false), (.bool false), (.bool false), (.bool false), (.bool false), (.bool false), (.bool false), (.bool false), (.bool false), (.bool false), (.bool false), (.bool false), (.bool false), (.bool false), (.bool false), (.bool false), (.bool false), (.bool false), (.bool false), (.bool false), (.bool false), (.bool false), (.bool false), (.bool false), (.bool false), (.bool false), (.bool false), (.bool false), (.bool false), (.bool false), (.bool false), (.bool false), (.bool false), (.bool false), (.bool false), (.bool false), (.bool false), (.bool false), (.bool false), (.bool false), (.bool false), (.bool false), (.bool false), (.bool false), (.bool false), (.bool false), (.bool false), (.bool false), (.bool false), (.bool false), (.bool false), (.bool false), (.bool false), (.bool false), (.bool false), (.bool false), (.bool false), (.bool false), (.bool false), (.bool false), (.bool false), (.bool false), (.bool false), (.bool false), (.bool false), (.bool false), (.bool false), (.bool false), (.bool false), (.bool false), (.bool false), (.bool false), (.bool false), (.bool false), (.bool false), (.bool false), (.bool false), (.bool false), (.bool false), (.bool false), (.bool false), (.bool false), (.bool false), (.bool false), (.bool false), (.bool false), (.bool false), (.bool false), (.bool false), (.bool false), (.bool false), (.bool false), (.bool false), (.bool false), (.bool false), (.bool false), (.bool false), (.bool false), (.bool false), (.bool false), (.bool false), (.bool false), (.bool false), (.bool false), (.bool false), (.bool false), (.bool false), (.bool false), (.bool false), (.bool false), (.bool false), (.bool false), (.bool false), (.bool false), (.bool false), (.bool false), (.bool false), (.bool false), (.bool false), (.bool false), (.bool false), (.bool false), (.bool false), (.bool false), (.bool false), (.bool false), (.bool false), (.bool false), (.bool false), (.bool false), (.bool false), (.bool false), (.bool false), (.bool false), (.bool false), (.bool false), (.bool false), (.bool false), (.bool false), (.bool false), (.bool false), (.bool false), (.bool false), (.bool false), (.bool false), (.bool false), (.bool false), (.bool false), (.bool false), (.bool false), (.bool false), (.bool false), (.bool false), (.bool false), (.bool false), (.bool false), (.bool false), (.bool false), (.bool false), (.bool false), (.bool false), (.bool false), (.bool false), (.bool false), (.bool false), (.bool false), (.bool false), (.bool false), (.bool false), (.bool false), (.bool false), (.bool false), (.bool false), (.bool false)])⟩, ⟨none, none, (.store 256 (.t 5) (.t 29))⟩, ⟨(some 6), none, (.mv (.t 30))⟩])
  (.seq (.reg [⟨(some 31), none, (.mv (.t 6))⟩])
  (.cond (.t 31)
  (.seq (.reg [⟨(some 32), none, (.mv (.t 0))⟩, ⟨(some 33), none, (.call 143 [(.t 32), (.t 5)])⟩, ⟨(some 4), none, (.mv (.t 33))⟩])
  .ret)
  .skip)))
  (.seq (.reg [⟨(some 34), none, (.mv (.t 0))⟩, ⟨(some 35), none, (.mv (.t 1))⟩, ⟨(some 36), none, (.call 144 [(.t 34), (.t 35)])⟩, ⟨(some 4), none, (.mv (.t 36))⟩])
  .ret)))))
theorem tr133 : trFun Tryz.prog 133 = some ⟨37, [.t 4], c133⟩ := by kernel_rfl
theorem ok_trR : SpecOK Tryz.prog 133 (flat spTrR) := by
  refine flat_run (env_cons ok_trB (env_nil _)) mixed tr133 ?_
  intro args v h N hG
  unfold spTrR at hG
  split at hG
  case h_2 => cases hG
  rename_i l
  split at hG
  case isFalse => cases hG
  rename_i hl
  cases hG
  refine ⟨rfl, by simp, ?_⟩
  simp only [c133, initT, List.zipIdx_cons, List.zipIdx_nil, List.map_cons, List.map_nil, Nat.reduceAdd]
  by_cases e : l = []
  · subst e
    have : bl (nl []) = [] := by simp [nl, bl_zero]
    rw [this]
    simp only [↓R0, R1, rdL, rdH, isCall, istep, ibin, vcells, fillI, setR, flat, okCell, isBase, List.set, List.drop, List.take, List.append, bnds, bhi, blo, srcOf, simprocAttr, -Int.reduceAbs, Fin, isEnd, resL, res1, iE, rE]
    exact ⟨_, rfl, rfl, fun k hk => by simp only [ne_nb hk, if_false]⟩
  · have e' : ¬ (l = ([] : List UInt8)) := e
    have z0 : ((0 : UInt8).toNat : Int) = 0 := rfl
    simp only [↓R0, R1, rdL, rdH, isCall, istep, ibin, vcells, fillI, setR, flat, okCell, isBase, List.set, List.drop, List.take, List.append, bnds, bhi, blo, srcOf, simprocAttr, -Int.reduceAbs, e', spTrB, hl, z0, List.cons_ne_nil, Fin, isEnd, resL, res1, iE, rE]
    exact ⟨_, rfl, rfl, fun k hk => by simp only [ne_nb hk, if_false]⟩
def spNNorm : List Value → Option Value
  | [.string ⟨⟨l⟩⟩] => if l.length ≤ 1099511627776 then some (.string ⟨⟨bl (nl l)⟩⟩) else none
  | _ => none
def c108 : ICode :=
  (.seq (.reg [⟨(some 2), none, (.mv (.c (.string ⟨⟨[]⟩⟩)))⟩])
  (.seq (.reg [⟨(some 3), none, (.mv (.t 0))⟩, ⟨(some 4), none, (.call 133 [(.t 3), (.c (.string ⟨⟨[0]⟩⟩))])⟩, ⟨(some 2), none, (.mv (.t 4))⟩])
  .ret))
theorem tr108 : trFun Tryz.prog 108 = some ⟨5, [.t 2], c108⟩ := by kernel_rfl
theorem ok_nNorm : SpecOK Tryz.prog 108 (flat spNNorm) := by
  refine flat_run (env_cons ok_trR (env_nil _)) mixed tr108 ?_
  intro args v h N hG
  unfold spNNorm at hG
  split at hG
  case h_2 => cases hG
  rename_i l
  split at hG
  case isFalse => cases hG
  rename_i hl
  cases hG
  refine ⟨rfl, by simp, ?_⟩
  simp only [c108, initT, List.zipIdx_cons, List.zipIdx_nil, List.map_cons, List.map_nil, Nat.reduceAdd]
  simp only [↓R0, R1, rdL, rdH, isCall, istep, ibin, vcells, fillI, setR, flat, okCell, isBase, List.set, List.drop, List.take, List.append, bnds, bhi, blo, srcOf, simprocAttr, -Int.reduceAbs, spTrR, hl, Fin, isEnd, resL, res1, iE, rE]
  exact ⟨_, rfl, rfl, fun k hk => by simp only [ne_nb hk, if_false]⟩
end Go.Eng
end
section
set_option linter.unusedVariables false
set_option linter.unusedSimpArgs false
set_option linter.unusedSectionVars false
set_option maxRecDepth 4000
namespace Go.Eng
open Go Go.Proofs Go.IntWalk
def spAdd32 : List Value → Option Value
  | [.int .u32 x, .int .u32 y, .int .u32 c] => if 0 ≤ x ∧ x < 4294967296 ∧ 0 ≤ y ∧ y < 4294967296 ∧ 0 ≤ c ∧ c ≤ 1 then some (.tuple ⟨[.int .u32 ((x + y + c) % 4294967296), .int .u32 ((x + y + c) / 4294967296)]⟩) else none
  | _ => none
def c122 : ICode :=
  (.seq (.reg [⟨(some 6), none, (.mv (.c (.int .u32 0)))⟩, ⟨(some 7), none, (.mv (.c (.int .u32 0)))⟩])
  (.seq (.reg [⟨(some 9), none, (.mv (.t 0))⟩, ⟨(some 10), none, (.conv .u64 (.t 9))⟩, ⟨(some 11), none, (.mv (.t 1))⟩, ⟨(some 12), none, (.conv .u64 (.t 11))⟩, ⟨(some 13), none, (.bin .add (.t 10) (.t 12))⟩, ⟨(some 14), none, (.mv (.t 2))⟩, ⟨(some 15), none, (.conv .u64 (.t 14))⟩, ⟨(some 16), none, (.bin .add (.t 13) (.t 15))⟩, ⟨(some 8), none, (.mv (.t 16))⟩])
  (.seq (.reg [⟨(some 17), none, (.mv (.t 8))⟩, ⟨(some 18), none, (.conv .u32 (.t 17))⟩, ⟨(some 6), none, (.mv (.t 18))⟩])
  (.seq (.reg [⟨(some 19), none, (.mv (.t 8))⟩, ⟨(some 20), none, (.bin .shr (.t 19) (.c (.int .u64 32)))⟩, ⟨(some 21), none, (.conv .u32 (.t 20))⟩, ⟨(some 7), none, (.mv (.t 21))⟩])
  .ret))))
theorem tr122 : trFun Tryz.prog 122 = some ⟨22, [.t 6, .t 7], c122⟩ := by kernel_rfl
theorem ok_add32 : SpecOK Tryz.prog 122 (flat spAdd32) := by
  refine flat_run (env_nil _) mixed tr122 ?_
  intro args v h N hG
  unfold spAdd32 at hG
  split at hG
  case h_2 => cases hG
  rename_i x y c
  split at hG
  case isFalse => cases hG
  rename_i hl
  cases hG
  refine ⟨rfl, by simp, ?_⟩
  have w64 : ∀ z : Int, 0 ≤ z → z < 18446744073709551616 → IntKind.u64.wrap z = z := fun z h1 h2 => u64_in z ⟨h1, by omega⟩
  have w1 := w64 x (by omega) (by omega)
  have w2 := w64 y (by omega) (by omega)
  have w3 := w64 c (by omega) (by omega)
  have w4 := w64 (x + y) (by omega) (by omega)
  have w5 := w64 (x + y + c) (by omega) (by omega)
  have s1 : IntKind.u32.wrap ((x + y + c).fdiv (2 ^ min 32 IntKind.u64.bits)) = (x + y + c) / 4294967296 := by
    have : (2 : Int) ^ min 32 IntKind.u64.bits = 4294967296 := rfl
    rw [this, Int.fdiv_eq_ediv_of_nonneg _ (by omega), u32_int]; omega
  have s2 := u32_int (x + y + c)
  simp only [c122, initT, List.zipIdx_cons, List.zipIdx_nil, List.map_cons, List.map_nil, Nat.reduceAdd]
  simp only [↓R0, R1, rdL, rdH, isCall, istep, ibin, vcells, fillI, setR, flat, okCell, isBase, List.set, List.drop, List.take, List.append, bnds, bhi, blo, srcOf, simprocAttr, -Int.reduceAbs, w1, w2, w3, w4, w5, s1, s2, Fin, isEnd, resL, res1, iE, rE]
  exact ⟨_, rfl, rfl, fun k hk => by simp only [ne_nb hk, if_false]⟩
def spSub32 : List Value → Option Value
  | [.int .u32 x, .int .u32 y, .int .u32 c] => if 0 ≤ x ∧ x < 4294967296 ∧ 0 ≤ y ∧ y < 4294967296 ∧ 0 ≤ c ∧ c ≤ 1 then some (.tuple ⟨[.int .u32 ((x - y - c) % 4294967296), .int .u32 (if x < y + c then 1 else 0)]⟩) else none
  | _ => none
def c123 : ICode :=
  (.seq (.reg [⟨(some 6), none, (.mv (.c (.int .u32 0)))⟩, ⟨(some 7), none, (.mv (.c (.int .u32 0)))⟩])
  (.seq (.reg [⟨(some 8), none, (.mv (.t 0))⟩, ⟨(some 9), none, (.mv (.t 1))⟩, ⟨(some 10), none, (.bin .sub (.t 8) (.t 9))⟩, ⟨(some 11), none, (.mv (.t 2))⟩, ⟨(some 12), none, (.bin .sub (.t 10) (.t 11))⟩, ⟨(some 6), none, (.mv (.t 12))⟩])
  (.seq (.reg [⟨(some 13), none, (.mv (.t 0))⟩, ⟨(some 14), none, (.un .xor (.t 13))⟩, ⟨(some 15), none, (.mv (.t 1))⟩, ⟨(some 16), none, (.bin .and (.t 14) (.t 15))⟩, ⟨(some 17), none, (.mv (.t 0))⟩, ⟨(some 18), none, (.mv (.t 1))⟩, ⟨(some 19), none, (.bin .xor (.t 17) (.t 18))⟩, ⟨(some 20), none, (.un .xor (.t 19))⟩, ⟨(some 21), none, (.mv (.t 6))⟩, ⟨(some 22), none, (.bin .and (.t 20) (.t 21))⟩, ⟨(some 23), none, (.bin .or (.t 16) (.t 22))⟩, ⟨(some 24), none, (.bin .shr (.t 23) (.c (.int .u64 31)))⟩, ⟨(some 7), none, (.mv (.t 24))⟩])
  .ret)))
theorem tr123 : trFun Tryz.prog 123 = some ⟨25, [.t 6, .t 7], c123⟩ := by kernel_rfl
theorem w_and (X Y : BitVec 32) : IntKind.u32.wrap ((BitVec.ofInt IntKind.u32.bits (X.toNat : Int) &&& BitVec.ofInt IntKind.u32.bits (Y.toNat : Int)).toNat : Int) = ((X &&& Y).toNat : Int) := by
  rw [BitVec.toNat_and, bv32 X.isLt, bv32 Y.isLt, ← BitVec.toNat_and, u32_nat (X &&& Y).isLt]
theorem w_or (X Y : BitVec 32) : IntKind.u32.wrap ((BitVec.ofInt IntKind.u32.bits (X.toNat : Int) ||| BitVec.ofInt IntKind.u32.bits (Y.toNat : Int)).toNat : Int) = ((X ||| Y).toNat : Int) := by
  rw [BitVec.toNat_or, bv32 X.isLt, bv32 Y.isLt, ← BitVec.toNat_or, u32_nat (X ||| Y).isLt]
theorem w_xor (X Y : BitVec 32) : IntKind.u32.wrap ((BitVec.ofInt IntKind.u32.bits (X.toNat : Int) ^^^ BitVec.ofInt IntKind.u32.bits (Y.toNat : Int)).toNat : Int) = ((X ^^^ Y).toNat : Int) := by
  rw [BitVec.toNat_xor, bv32 X.isLt, bv32 Y.isLt, ← BitVec.toNat_xor, u32_nat (X ^^^ Y).isLt]
theorem w_not (X : BitVec 32) : IntKind.u32.wrap ((BitVec.ofInt IntKind.u32.bits (if IntKind.u32.signed = true then -1 else IntKind.u32.max) ^^^ BitVec.ofInt IntKind.u32.bits (X.toNat : Int)).toNat : Int) = ((~~~X).toNat : Int) := by
  have e : (BitVec.ofInt IntKind.u32.bits (if IntKind.u32.signed = true then -1 else IntKind.u32.max)).toNat = 4294967295 := rfl
  have e2 : (4294967295 : Nat) = (BitVec.allOnes 32).toNat := rfl
  rw [BitVec.toNat_xor, bv32 X.isLt, e, e2, ← BitVec.toNat_xor, BitVec.allOnes_xor, u32_nat (~~~X).isLt]
theorem ok_sub32 : SpecOK Tryz.prog 123 (flat spSub32) := by
  refine flat_run (env_nil _) mixed tr123 ?_
  intro args v h N hG
  unfold spSub32 at hG
  split at hG
  case h_2 => cases hG
  rename_i x y c
  split at hG
  case isFalse => cases hG
  rename_i hl
  cases hG
  refine ⟨rfl, by simp, ?_⟩
  obtain ⟨h1, h2, h3, h4, h5, h6⟩ := hl
  obtain ⟨X, hX⟩ : ∃ X : BitVec 32, x = (X.toNat : Int) := ⟨BitVec.ofNat 32 x.toNat, by rw [BitVec.toNat_ofNat]; omega⟩
  obtain ⟨Y, hY⟩ : ∃ Y : BitVec 32, y = (Y.toNat : Int) := ⟨BitVec.ofNat 32 y.toNat, by rw [BitVec.toNat_ofNat]; omega⟩
  obtain ⟨D, hD⟩ : ∃ D : BitVec 32, (x - y - c) % 4294967296 = (D.toNat : Int) := ⟨BitVec.ofNat 32 ((x - y - c) % 4294967296).toNat, by rw [BitVec.toNat_ofNat]; omega⟩
  subst hX
  subst hY
  have wd : IntKind.u32.wrap (IntKind.u32.wrap ((X.toNat : Int) - (Y.toNat : Int)) - c) = (D.toNat : Int) := by
    rw [u32_int, u32_int, ← hD]; omega
  have sh : ∀ n : Nat, (n : Int).fdiv (2 ^ min 31 IntKind.u32.bits) = ((n / 2147483648 : Nat) : Int) := by
    intro n
    have : (2 : Int) ^ min 31 IntKind.u32.bits = 2147483648 := rfl
    rw [this, Int.fdiv_eq_ediv_of_nonneg _ (by omega)]; omega
  have bw := borrow32 X Y D c.toNat (by omega) (by rw [← hD]; congr 1; omega)
  have bw2 : ((((~~~X &&& Y) ||| (~~~(X ^^^ Y) &&& D)).toNat / 2147483648 : Nat) : Int) = if (X.toNat : Int) < (Y.toNat : Int) + c then 1 else 0 := by
    rw [bw]
    by_cases g : X.toNat < Y.toNat + c.toNat
    · rw [if_pos g, if_pos (by omega)]; rfl
    · rw [if_neg g, if_neg (by omega)]; rfl
  simp only [c123, initT, List.zipIdx_cons, List.zipIdx_nil, List.map_cons, List.map_nil, Nat.reduceAdd]
  simp only [↓R0, R1, rdL, rdH, isCall, istep, ibin, vcells, fillI, setR, flat, okCell, isBase, List.set, List.drop, List.take, List.append, bnds, bhi, blo, srcOf, simprocAttr, -Int.reduceAbs, wd, w_and, w_or, w_xor, w_not, sh, Fin, isEnd, resL, res1, iE, rE]
  refine ⟨_, rfl, ?_, fun k hk => trivial⟩
  rw [hD, ← bw2]
  rfl
def spDiv32 : List Value → Option Value
  | [.int .u32 x, .int .u32 y, .int .u32 d] => if 0 ≤ x ∧ x < d ∧ 0 ≤ y ∧ y < 4294967296 ∧ d < 4294967296 then some (.tuple ⟨[.int .u32 ((x * 4294967296 + y) / d), .int .u32 ((x * 4294967296 + y) % d)]⟩) else none
  | _ => none
def c134 : ICode :=
  (.seq (.reg [⟨(some 6), none, (.mv (.c (.int .u32 0)))⟩, ⟨(some 7), none, (.mv (.c (.int .u32 0)))⟩])
  (.seq (.seq (.reg [⟨(some 9), none, (.mv (.t 2))⟩, ⟨(some 10), none, (.bin .neq (.t 9) (.c (.int .u32 0)))⟩, ⟨(some 11), none, (.mv (.t 10))⟩, ⟨(some 12), (some (11, true)), (.mv (.t 2))⟩, ⟨(some 13), (some (11, true)), (.mv (.t 0))⟩, ⟨(some 14), (some (11, true)), (.bin .leq (.t 12) (.t 13))⟩, ⟨(some 15), none, (.pick (.t 11) (.t 14) (.c (.bool false)))⟩])
  (.cond (.t 15)
  .fail
  .skip))
  (.seq (.reg [⟨(some 17), none, (.mv (.t 0))⟩, ⟨(some 18), none, (.conv .u64 (.t 17))⟩, ⟨(some 19), none, (.bin .shl (.t 18) (.c (.int .u64 32)))⟩, ⟨(some 20), none, (.mv (.t 1))⟩, ⟨(some 21), none, (.conv .u64 (.t 20))⟩, ⟨(some 22), none, (.bin .or (.t 19) (.t 21))⟩, ⟨(some 8), none, (.mv (.t 22))⟩])
  (.seq (.dreg [⟨(some 23), none, [], (.mv (.t 8))⟩, ⟨(some 24), none, [], (.mv (.t 2))⟩, ⟨(some 25), none, [], (.conv .u64 (.t 24))⟩, ⟨(some 26), none, [], (.bin .quo (.t 23) (.t 25))⟩, ⟨(some 27), none, [], (.conv .u32 (.t 26))⟩, ⟨(some 28), none, [], (.mv (.t 8))⟩, ⟨(some 29), none, [], (.mv (.t 2))⟩, ⟨(some 30), none, [], (.conv .u64 (.t 29))⟩, ⟨(some 31), none, [], (.bin .rem (.t 28) (.t 30))⟩, ⟨(some 32), none, [], (.conv .u32 (.t 31))⟩, ⟨(some 6), none, [], (.mv (.t 27))⟩, ⟨(some 7), none, [], (.mv (.t 32))⟩])
  .ret))))
theorem tr134 : trFun Tryz.prog 134 = some ⟨33, [.t 6, .t 7], c134⟩ := by kernel_rfl
theorem ok_div32 : SpecOK Tryz.prog 134 (flat spDiv32) := by
  refine flat_run (env_nil _) mixed tr134 ?_
  intro args v h N hG
  unfold spDiv32 at hG
  split at hG
  case h_2 => cases hG
  rename_i x y d
  split at hG
  case isFalse => cases hG
  rename_i hl
  cases hG
  refine ⟨rfl, by simp, ?_⟩
  obtain ⟨h1, h2, h3, h4, h5⟩ := hl
  obtain ⟨x, rfl⟩ := Int.eq_ofNat_of_zero_le h1
  obtain ⟨y, rfl⟩ := Int.eq_ofNat_of_zero_le h3
  obtain ⟨d, rfl⟩ := Int.eq_ofNat_of_zero_le (show 0 ≤ d by omega)
  have w1 := u64_nat (n := x) (by omega)
  have w2 := u64_nat (n := y) (by omega)
  have w3 := u64_nat (n := d) (by omega)
  have d0 : ¬ (d = 0) := by omega
  have c1 : ¬ ((d : Int) = 0) := by omega
  have c2 : ¬ (d ≤ x) := by omega
  have s1 : IntKind.u64.wrap ((x : Int) * 2 ^ min 32 IntKind.u64.bits) = ((x * 2 ^ 32 : Nat) : Int) := by
    have : (2 : Int) ^ min 32 IntKind.u64.bits = 4294967296 := rfl
    rw [this, ← u64_nat (n := x * 2 ^ 32) (by omega)]; congr 1
  have s2 : IntKind.u64.wrap ((BitVec.ofInt IntKind.u64.bits ((x * 2 ^ 32 : Nat) : Int) ||| BitVec.ofInt IntKind.u64.bits (y : Int)).toNat : Int) = ((y + x * 2 ^ 32 : Nat) : Int) := by
    rw [← or_u64 (x := y) (c := x) (s := 32) (by omega) (by omega), BitVec.or_comm]
  have e0 : (x : Int) * 4294967296 + y = ((y + x * 2 ^ 32 : Nat) : Int) := by omega
  have hz : y + x * 2 ^ 32 < d * 4294967296 := by omega
  have hz2 : (y + x * 2 ^ 32) / d < 4294967296 := (Nat.div_lt_iff_lt_mul (by omega)).2 (by omega)
  have hz3 := Nat.mod_lt (y + x * 2 ^ 32) (show d > 0 by omega)
  rw [e0]
  have e1 : ((y + x * 2 ^ 32 : Nat) : Int).tdiv (d : Int) = (((y + x * 2 ^ 32) / d : Nat) : Int) := by rw [Int.tdiv_eq_ediv_of_nonneg (by omega)]; rfl
  have e2 : ((y + x * 2 ^ 32 : Nat) : Int).tmod (d : Int) = (((y + x * 2 ^ 32) % d : Nat) : Int) := by rw [Int.tmod_eq_emod_of_nonneg (by omega)]; rfl
  have hz4 : (y + x * 2 ^ 32) / d < 18446744073709551616 := by omega
  have w4 := u64_nat hz4
  have w5 := u32_nat hz2
  have w6 := u32_nat (n := (y + x * 2 ^ 32) % d) (by omega)
  simp only [c134, initT, List.zipIdx_cons, List.zipIdx_nil, List.map_cons, List.map_nil, Nat.reduceAdd]
  simp only [↓R0, R1, rdL, rdH, isCall, istep, ibin, vcells, fillI, setR, flat, okCell, isBase, List.set, List.drop, List.take, List.append, bnds, bhi, blo, srcOf, simprocAttr, -Int.reduceAbs, w1, w2, w3, c1, c2, d0, s1, s2, e1, e2, w4, w5, w6, Fin, isEnd, resL, res1, iE, rE]
  exact ⟨_, rfl, rfl, fun k hk => by simp only [ne_nb hk, if_false]⟩
def tab8 : List UInt8 := [0, 1, 2, 2, 3, 3, 3, 3, 4, 4, 4, 4, 4, 4, 4, 4, 5, 5, 5, 5, 5, 5, 5, 5, 5, 5, 5, 5, 5, 5, 5, 5, 6, 6, 6, 6, 6, 6, 6, 6, 6, 6, 6, 6, 6, 6, 6, 6, 6, 6, 6, 6, 6, 6, 6, 6, 6, 6, 6, 6, 6, 6, 6, 6, 7, 7, 7, 7, 7, 7, 7, 7, 7, 7, 7, 7, 7, 7, 7, 7, 7, 7, 7, 7, 7, 7, 7, 7, 7, 7, 7, 7, 7, 7, 7, 7, 7, 7, 7, 7, 7, 7, 7, 7, 7, 7, 7, 7, 7, 7, 7, 7, 7, 7, 7, 7, 7, 7, 7, 7, 7, 7, 7, 7, 7, 7, 7, 7, 8, 8, 8, 8, 8, 8, 8, 8, 8, 8, 8, 8, 8, 8, 8, 8, 8, 8, 8, 8, 8, 8, 8, 8, 8, 8, 8, 8, 8, 8, 8, 8, 8, 8, 8, 8, 8, 8, 8, 8, 8, 8, 8, 8, 8, 8, 8, 8, 8, 8, 8, 8, 8, 8, 8, 8, 8, 8, 8, 8, 8, 8, 8, 8, 8, 8, 8, 8, 8, 8, 8, 8, 8, 8, 8, 8, 8, 8, 8, 8, 8, 8, 8, 8, 8, 8, 8, 8, 8, 8, 8, 8, 8, 8, 8, 8, 8, 8, 8, 8, 8, 8, 8, 8, 8, 8, 8, 8, 8, 8, 8, 8, 8, 8, 8, 8, 8, 8, 8, 8, 8, 8, 8, 8, 8, 8, 8, 8]
def l8 (n : Nat) : Nat := (tab8[n]?.getD 0).toNat
def l32r (n : Nat) : Nat :=
  if 65536 ≤ n then (if 256 ≤ n / 65536 then 24 + l8 (n / 16777216) else 16 + l8 (n / 65536)) else (if 256 ≤ n then 8 + l8 (n / 256) else l8 n)
theorem l32_ex : ∃ f : Nat → Nat, ∀ n, f n = l32r n := ⟨_, fun _ => rfl⟩
noncomputable def l32 : Nat → Nat := Classical.choose l32_ex
theorem l32_eq (n : Nat) : l32 n = l32r n := Classical.choose_spec l32_ex n
theorem l8_tab : ∀ n, n < 256 → n < 2 ^ l8 n ∧ l8 n ≤ 8 := of_decide_eq_true (by kernel_rfl)
theorem l8_lt {n : Nat} (h : n < 256) : n < 2 ^ l8 n := (l8_tab n h).1
theorem l8_le {n : Nat} (h : n < 256) : l8 n ≤ 8 := (l8_tab n h).2
theorem l32_le {n : Nat} (h : n < 4294967296) : l32 n ≤ 32 := by
  rw [l32_eq]; unfold l32r
  split
  · split
    · have := l8_le (n := n / 16777216) (by omega); omega
    · have := l8_le (n := n / 65536) (by omega); omega
  · split
    · have := l8_le (n := n / 256) (by omega); omega
    · have := l8_le (n := n) (by omega); omega
theorem l32_lt {n : Nat} (h : n < 4294967296) : n < 2 ^ l32 n := by
  rw [l32_eq]; unfold l32r
  split
  · split
    · have := l8_lt (n := n / 16777216) (by omega)
      rw [Nat.pow_add]; omega
    · have := l8_lt (n := n / 65536) (by omega)
      rw [Nat.pow_add]; omega
  · split
    · have := l8_lt (n := n / 256) (by omega)
      rw [Nat.pow_add]; omega
    · exact l8_lt (by omega)
theorem l32_pos {n : Nat} (h : 0 < n) (h2 : n < 4294967296) : 1 ≤ l32 n := by
  have := l32_lt h2
  rcases Nat.eq_zero_or_pos (l32 n) with e | e
  · rw [e] at this; omega
  · exact e
noncomputable def spLen32 : List Value → Option Value
  | [.int .u32 x] => if 0 ≤ x ∧ x < 4294967296 then some (.int .i64 (l32 x.toNat : Nat)) else none
  | _ => none
def c145 : ICode :=
  (.seq (.reg [⟨(some 2), none, (.mv (.c (.int .i64 0)))⟩])
  (.seq (.seq (.reg [⟨(some 3), none, (.mv (.t 0))⟩, ⟨(some 4), none, (.bin .geq (.t 3) (.c (.int .u32 65536)))⟩])
  (.cond (.t 4)
  (.seq (.reg [⟨(some 5), none, (.mv (.t 0))⟩, ⟨(some 6), none, (.bin .shr (.t 5) (.c (.int .u64 16)))⟩, ⟨(some 0), none, (.mv (.t 6))⟩])
  (.reg [⟨(some 2), none, (.mv (.c (.int .i64 16)))⟩]))
  .skip))
  (.seq (.seq (.reg [⟨(some 7), none, (.mv (.t 0))⟩, ⟨(some 8), none, (.bin .geq (.t 7) (.c (.int .u32 256)))⟩])
  (.cond (.t 8)
  (.seq (.reg [⟨(some 9), none, (.mv (.t 0))⟩, ⟨(some 10), none, (.bin .shr (.t 9) (.c (.int .u64 8)))⟩, ⟨(some 0), none, (.mv (.t 10))⟩])
  (.reg [⟨(some 11), none, (.mv (.t 2))⟩, ⟨(some 12), none, (.bin .add (.t 11) (.c (.int .i64 8)))⟩, ⟨(some 2), none, (.mv (.t 12))⟩]))
  .skip))
  (.seq (.reg [⟨(some 13), none, (.mv (.t 2))⟩, ⟨(some 14), none, (.mv (.t 0))⟩, ⟨(some 15), none, (.conv .u8 (.t 14))⟩, ⟨(some 16), none, (.idstr (.c (.string ⟨⟨[0, 1, 2, 2, 3, 3, 3, 3, 4, 4, 4, 4, 4, 4, 4, 4, 5, 5, 5, 5, 5, 5, 5, 5, 5, 5, 5, 5, 5, 5, 5, 5, 6, 6, 6, 6, 6, 6, 6, 6, 6, 6, 6, 6, 6, 6, 6, 6, 6, 6, 6, 6, 6, 6, 6, 6, 6, 6, 6, 6, 6, 6, 6, 6, 7, 7, 7, 7, 7, 7, 7, 7, 7, 7, 7, 7, 7, 7, 7, 7, 7, 7, 7, 7, 7, 7, 7, 7, 7, 7, 7, 7, 7, 7, 7, 7, 7, 7, 7, 7, 7, 7, 7, 7, 7, 7, 7, 7, 7, 7, 7, 7, 7, 7, 7, 7, 7, 7, 7, 7, 7, 7, 7, 7, 7, 7, 7, 7, 8, 8, 8, 8, 8, 8, 8, 8, 8, 8, 8, 8, 8, 8, 8, 8, 8, 8, 8, 8, 8, 8, 8, 8, 8, 8, 8, 8, 8, 8, 8, 8, 8, 8, 8, 8, 8, 8, 8, 8, 8, 8, 8, 8, 8, 8, 8, 8, 8, 8, 8, 8, 8, 8, 8, 8, 8, 8, 8, 8, 8, 8, 8, 8, 8, 8, 8, 8, 8, 8, 8, 8, 8, 8, 8, 8, 8, 8, 8, 8, 8, 8, 8, 8, 8, 8, 8, 8, 8, 8, 8, 8, 8, 8, 8, 8, 8, 8, 8, 8, 8, 8, 8, 8, 8, 8, 8, 8, 8, 8, 8, 8, 8, 8, 8, 8, 8, 8, 8, 8, 8, 8, 8, 8, 8, 8, 8, 8]⟩⟩)) (.t 15))⟩, ⟨(some 17), none, (.conv .i64 (.t 16))⟩, ⟨(some 18), none, (.bin .add (.t 13) (.t 17))⟩, ⟨(some 2), none, (.mv (.t 18))⟩])
  .ret))))
theorem tr145 : trFun Tryz.prog 145 = some ⟨19, [.t 2], c145⟩ := by kernel_rfl
theorem tab8_get {n : Nat} (h : n < 256) : tab8[n]? = some (UInt8.ofNat (l8 n)) := by
  unfold l8
  have hl : n < tab8.length := h
  rw [List.getElem?_eq_getElem hl]; simp
theorem shr32 (n k : Nat) (h : k ≤ 32) : (n : Int).fdiv (2 ^ min k IntKind.u32.bits) = ((n / 2 ^ k : Nat) : Int) := by
  have : min k IntKind.u32.bits = k := Nat.min_eq_left h
  rw [this, Int.fdiv_eq_ediv_of_nonneg _ (Int.pow_nonneg (by omega))]
  rw [Int.natCast_ediv, Int.natCast_pow]; rfl
theorem ok_len32 : SpecOK Tryz.prog 145 (flat spLen32) := by
  refine flat_run (env_nil _) mixed tr145 ?_
  intro args v h N hG
  unfold spLen32 at hG
  split at hG
  case h_2 => cases hG
  rename_i x
  split at hG
  case isFalse => cases hG
  rename_i hl
  cases hG
  refine ⟨rfl, by simp, ?_⟩
  obtain ⟨h1, h2⟩ := hl
  obtain ⟨x, rfl⟩ := Int.eq_ofNat_of_zero_le h1
  have s16 := shr32 x 16 (by omega)
  have s8 := shr32 x 8 (by omega)
  have s24 := shr32 (x / 2 ^ 16) 8 (by omega)
  have u8 : ∀ n : Nat, n < 256 → IntKind.u8.wrap (n : Int) = n := fun n h => u8_in _ ⟨by omega, by omega⟩
  have i64 : ∀ n : Nat, n ≤ 32 → IntKind.i64.wrap (n : Int) = n := fun n h => i64_in _ (by omega)
  have fold8 : ∀ n : Nat, n < 256 → ([0, 1, 2, 2, 3, 3, 3, 3, 4, 4, 4, 4, 4, 4, 4, 4, 5, 5, 5, 5, 5, 5, 5, 5, 5, 5, 5, 5, 5, 5, 5, 5, 6, 6, 6, 6, 6, 6, 6, 6, 6, 6, 6, 6, 6, 6, 6, 6, 6, 6, 6, 6, 6, 6, 6, 6, 6, 6, 6, 6, 6, 6, 6, 6, 7, 7, 7, 7, 7, 7, 7, 7, 7, 7, 7, 7, 7, 7, 7, 7, 7, 7, 7, 7, 7, 7, 7, 7, 7, 7, 7, 7, 7, 7, 7, 7, 7, 7, 7, 7, 7, 7, 7, 7, 7, 7, 7, 7, 7, 7, 7, 7, 7, 7, 7, 7, 7, 7, 7, 7, 7, 7, 7, 7, 7, 7, 7, 7, 8, 8, 8, 8, 8, 8, 8, 8, 8, 8, 8, 8, 8, 8, 8, 8, 8, 8, 8, 8, 8, 8, 8, 8, 8, 8, 8, 8, 8, 8, 8, 8, 8, 8, 8, 8, 8, 8, 8, 8, 8, 8, 8, 8, 8, 8, 8, 8, 8, 8, 8, 8, 8, 8, 8, 8, 8, 8, 8, 8, 8, 8, 8, 8, 8, 8, 8, 8, 8, 8, 8, 8, 8, 8, 8, 8, 8, 8, 8, 8, 8, 8, 8, 8, 8, 8, 8, 8, 8, 8, 8, 8, 8, 8, 8, 8, 8, 8, 8, 8, 8, 8, 8, 8, 8, 8, 8, 8, 8, 8, 8, 8, 8, 8, 8, 8, 8, 8, 8, 8, 8, 8, 8, 8, 8, 8, 8, 8] : List UInt8)[n]? = some (UInt8.ofNat (l8 n)) := fun n h => tab8_get h
  have t8 : ∀ n : Nat, n < 256 → ((UInt8.ofNat (l8 n)).toNat : Int) = (l8 n : Int) := fun n h => by
    have := l8_le h
    simp; omega
  simp only [c145, initT, List.zipIdx_cons, List.zipIdx_nil, List.map_cons, List.map_nil, Nat.reduceAdd]
  simp only [Int.toNat_natCast]
  rw [l32_eq]; unfold l32r
  by_cases c1 : 65536 ≤ x
  · rw [if_pos c1]
    have g1 : ((x : Int) ≥ 65536) = True := eq_true (by omega)
    by_cases c2 : 256 ≤ x / 65536
    · rw [if_pos c2]
      have g2 : (((x / 2 ^ 16 : Nat) : Int) ≥ 256) = True := eq_true (by omega)
      have e : x / 2 ^ 16 / 2 ^ 8 = x / 16777216 := by omega
      have w1 := u8 (x / 16777216) (by omega)
      have w2 := fold8 (x / 16777216) (by omega)
      have w3 := t8 (x / 16777216) (by omega)
      have w4 := i64 (l8 (x / 16777216)) (Nat.le_trans (l8_le (by omega)) (by omega))
      have w5 := i64 (24 + l8 (x / 16777216)) (by have := l8_le (n := x / 16777216) (by omega); omega)
      have w6 : IntKind.i64.wrap 24 = 24 := i64_in _ (by omega)
      have e2 : (24 : Int) + (l8 (x / 16777216) : Int) = ((24 + l8 (x / 16777216) : Nat) : Int) := by omega
      simp only [↓R0, R1, rdL, rdH, isCall, istep, ibin, vcells, fillI, setR, flat, okCell, isBase, List.set, List.drop, List.take, List.append, bnds, bhi, blo, srcOf, simprocAttr, -Int.reduceAbs, g1, s16, g2, s24, e, w1, w2, w3, w4, w6, e2, w5, Fin, isEnd, resL, res1, iE, rE]
      exact ⟨_, rfl, rfl, fun k hk => by simp only [ne_nb hk, if_false]⟩
    · rw [if_neg c2]
      have g2 : (((x / 2 ^ 16 : Nat) : Int) ≥ 256) = False := eq_false (by omega)
      have e : x / 2 ^ 16 = x / 65536 := by omega
      have w1 := u8 (x / 65536) (by omega)
      have w2 := fold8 (x / 65536) (by omega)
      have w3 := t8 (x / 65536) (by omega)
      have w4 := i64 (l8 (x / 65536)) (Nat.le_trans (l8_le (by omega)) (by omega))
      have w5 := i64 (16 + l8 (x / 65536)) (by have := l8_le (n := x / 65536) (by omega); omega)
      have e2 : (16 : Int) + (l8 (x / 65536) : Int) = ((16 + l8 (x / 65536) : Nat) : Int) := by omega
      rw [e] at g2
      simp only [↓R0, R1, rdL, rdH, isCall, istep, ibin, vcells, fillI, setR, flat, okCell, isBase, List.set, List.drop, List.take, List.append, bnds, bhi, blo, srcOf, simprocAttr, -Int.reduceAbs, g1, s16, g2, e, w1, w2, w3, w4, e2, w5, Fin, isEnd, resL, res1, iE, rE]
      exact ⟨_, rfl, rfl, fun k hk => by simp only [ne_nb hk, if_false]⟩
  · rw [if_neg c1]
    have g1 : ((x : Int) ≥ 65536) = False := eq_false (by omega)
    by_cases c2 : 256 ≤ x
    · rw [if_pos c2]
      have g2 : ((x : Int) ≥ 256) = True := eq_true (by omega)
      have e : x / 2 ^ 8 = x / 256 := by omega
      have w1 := u8 (x / 256) (by omega)
      have w2 := fold8 (x / 256) (by omega)
      have w3 := t8 (x / 256) (by omega)
      have w4 := i64 (l8 (x / 256)) (Nat.le_trans (l8_le (by omega)) (by omega))
      have w5 := i64 (8 + l8 (x / 256)) (by have := l8_le (n := x / 256) (by omega); omega)
      have w6 : IntKind.i64.wrap 8 = 8 := i64_in _ (by omega)
      have e2 : (8 : Int) + (l8 (x / 256) : Int) = ((8 + l8 (x / 256) : Nat) : Int) := by omega
      simp only [↓R0, R1, rdL, rdH, isCall, istep, ibin, vcells, fillI, setR, flat, okCell, isBase, List.set, List.drop, List.take, List.append, bnds, bhi, blo, srcOf, simprocAttr, -Int.reduceAbs, g1, g2, s8, e, w1, w2, w3, w4, w6, e2, w5, Fin, isEnd, resL, res1, iE, rE]
      exact ⟨_, rfl, rfl, fun k hk => by simp only [ne_nb hk, if_false]⟩
    · rw [if_neg c2]
      have g2 : ((x : Int) ≥ 256) = False := eq_false (by omega)
      have w1 := u8 x (by omega)
      have w2 := fold8 x (by omega)
      have w3 := t8 x (by omega)
      have w4 := i64 (l8 x) (Nat.le_trans (l8_le (by omega)) (by omega))
      have e2 : (0 : Int) + (l8 x : Int) = (l8 x : Int) := by omega
      simp only [↓R0, R1, rdL, rdH, isCall, istep, ibin, vcells, fillI, setR, flat, okCell, isBase, List.set, List.drop, List.take, List.append, bnds, bhi, blo, srcOf, simprocAttr, -Int.reduceAbs, g1, g2, w1, w2, w3, w4, e2, Fin, isEnd, resL, res1, iE, rE]
      exact ⟨_, rfl, rfl, fun k hk => by simp only [ne_nb hk, if_false]⟩
noncomputable def spLz32 : List Value → Option Value
  | [.int .u32 x] => if 0 ≤ x ∧ x < 4294967296 then some (.int .i64 ((32 - l32 x.toNat : Nat) : Int)) else none
  | _ => none
def c135 : ICode :=
  (.seq (.reg [⟨(some 2), none, (.mv (.c (.int .i64 0)))⟩])
  (.seq (.reg [⟨(some 3), none, (.mv (.t 0))⟩, ⟨(some 4), none, (.call 145 [(.t 3)])⟩, ⟨(some 5), none, (.bin .sub (.c (.int .i64 32)) (.t 4))⟩, ⟨(some 2), none, (.mv (.t 5))⟩])
  .ret))
theorem tr135 : trFun Tryz.prog 135 = some ⟨6, [.t 2], c135⟩ := by kernel_rfl
theorem ok_lz32 : SpecOK Tryz.prog 135 (flat spLz32) := by
  refine flat_run (env_cons ok_len32 (env_nil _)) mixed tr135 ?_
  intro args v h N hG
  unfold spLz32 at hG
  split at hG
  case h_2 => cases hG
  rename_i x
  split at hG
  case isFalse => cases hG
  rename_i hl
  cases hG
  refine ⟨rfl, by simp, ?_⟩
  obtain ⟨h1, h2⟩ := hl
  have hb := l32_le (n := x.toNat) (by omega)
  have e : IntKind.i64.wrap (32 - (l32 x.toNat : Int)) = ((32 - l32 x.toNat : Nat) : Int) := by rw [i64_in _ (by omega)]; omega
  simp only [c135, initT, List.zipIdx_cons, List.zipIdx_nil, List.map_cons, List.map_nil, Nat.reduceAdd]
  simp only [↓R0, R1, rdL, rdH, isCall, istep, ibin, vcells, fillI, setR, flat, okCell, isBase, List.set, List.drop, List.take, List.append, bnds, bhi, blo, srcOf, simprocAttr, -Int.reduceAbs, spLen32, h1, h2, e, Fin, isEnd, resL, res1, iE, rE]
  exact ⟨_, rfl, rfl, fun k hk => by simp only [ne_nb hk, if_false]⟩
end Go.Eng
end
section
set_option linter.unusedVariables false
set_option linter.unusedSimpArgs false
set_option linter.unusedSectionVars false
namespace Go.Eng
theorem shows_tb {h : Heap} {v : Value} {cs : List Value} (e : shows h v = some cs) (hu : uok cs = true) : ∃ kb off K cap blk, v = .slice (some ⟨kb, off, none⟩) K cap ∧ hget h kb = some blk ∧ off + K ≤ blk.cells.length ∧
    (∀ i, i < K → blk.cells[off + i]? = some (.int .u32 (lm (ud cs) i : Nat))) ∧ ud cs < 4294967296 ^ K ∧ cs.length = K := by
  obtain ⟨kb, off, K, cap, blk, rfl, hb, hle, hcs', hlen⟩ := shows_inv e
  refine ⟨kb, off, K, cap, blk, rfl, hb, hle, fun i hi => ?_, ?_, hlen⟩
  · have h1 : cs[i]? = some (.int .u32 (lm (ud cs) i : Nat)) := by
      conv => lhs; rw [tb_ud hu, hlen]
      rw [tb_get' _ hi]
    rw [hcs', List.getElem?_take, if_pos hi, List.getElem?_drop] at h1
    rw [← hcs'] at h1
    exact h1
  · have := ud_lt hu; rw [hlen] at this; exact this
end Go.Eng
end
section
set_option linter.unusedVariables false
set_option linter.unusedSimpArgs false
set_option linter.unusedSectionVars false
set_option maxRecDepth 4000
namespace Go.Eng
open Go Go.Proofs Go.IntWalk
theorem lm_0 : lm 0 = fun _ => 0 := by funext j; unfold lm; simp
theorem shl32 {c s : Nat} (h : c * 2 ^ s < 4294967296) (hs : s ≤ 32) : IntKind.u32.wrap ((c : Int) * 2 ^ min s IntKind.u32.bits) = ((c * 2 ^ s : Nat) : Int) := by
  have : min s IntKind.u32.bits = s := Nat.min_eq_left hs
  rw [this, ← u32_nat h, Int.natCast_mul, Int.natCast_pow]; rfl
def spLimbs (args : List Value) (_ : Heap) : Option ((Nat → Value) × Blk) := match args with
  | [.string ⟨⟨l⟩⟩] => if l.length ≤ 1099511627776 then some (fun k => .slice (some ⟨k, 0, none⟩) (lk (nl l)) (lk (nl l)), ⟨118, 1, false, tb (lk (nl l)) (lm (nl l))⟩) else none
  | _ => none
def c110 : ICode :=
  (.seq (.reg [⟨(some 2), none, (.mv (.c (.slice none 0 0)))⟩])
  (.seq (.reg [⟨(some 5), none, (.mv (.t 0))⟩, ⟨(some 6), none, (.call 108 [(.t 5)])⟩, ⟨(some 0), none, (.mv (.t 6))⟩])
  (.seq (.reg [⟨(some 7), none, (.mv (.t 0))⟩, ⟨(some 8), none, (.lens (.t 7))⟩, ⟨(some 9), none, (.bin .add (.t 8) (.c (.int .i64 4)))⟩, ⟨(some 10), none, (.bin .sub (.t 9) (.c (.int .i64 1)))⟩, ⟨(some 11), none, (.bin .quo (.t 10) (.c (.int .i64 4)))⟩, ⟨(some 12), none, (.mkslice 118 1 4 [(.int .u32 0)] (.t 11) (.t 11))⟩, ⟨(some 3), none, (.mv (.t 12))⟩])
  (.seq (.seq (.reg [⟨(some 13), none, (.mv (.t 0))⟩, ⟨(some 14), none, (.lens (.t 13))⟩, ⟨(some 15), none, (.mv (.c (.int .i64 0)))⟩])
  (.block 0 (.loop (.seq (.reg [⟨(some 16), none, (.bin .lss (.t 15) (.t 14))⟩])
  (.seq (.cond (.t 16)
  .skip
  (.exit 0))
  (.seq (.block 1 (.seq (.reg [⟨(some 17), none, (.mv (.t 15))⟩, ⟨(some 4), none, (.mv (.t 17))⟩])
  (.dreg [⟨(some 18), none, [], (.mv (.t 3))⟩, ⟨(some 19), none, [], (.mv (.t 4))⟩, ⟨(some 20), none, [], (.bin .quo (.t 19) (.c (.int .i64 4)))⟩, ⟨(some 21), none, [], (.ixsl 1 (.t 18) (.t 20))⟩, ⟨(some 22), none, [], (.load false 1 (.t 21))⟩, ⟨(some 23), none, [], (.mv (.t 0))⟩, ⟨(some 24), none, [], (.mv (.t 4))⟩, ⟨(some 25), none, [], (.idstr (.t 23) (.t 24))⟩, ⟨(some 26), none, [], (.conv .u32 (.t 25))⟩, ⟨(some 27), none, [], (.mv (.t 4))⟩, ⟨(some 28), none, [], (.bin .rem (.t 27) (.c (.int .i64 4)))⟩, ⟨(some 29), none, [], (.bin .mul (.c (.int .i64 8)) (.t 28))⟩, ⟨(some 30), none, [], (.bin .shl (.t 26) (.t 29))⟩, ⟨(some 31), none, [], (.bin .or (.t 22) (.t 30))⟩, ⟨(some 32), none, [], (.ixsl 1 (.t 18) (.t 20))⟩, ⟨none, none, [], (.store 1 (.t 32) (.t 31))⟩])))
  (.reg [⟨(some 33), none, (.bin .add (.t 15) (.c (.int .i64 1)))⟩, ⟨(some 15), none, (.mv (.t 33))⟩])))))))
  (.seq (.reg [⟨(some 34), none, (.mv (.t 3))⟩, ⟨(some 2), none, (.mv (.t 34))⟩])
  .ret)))))
theorem tr110 : trFun Tryz.prog 110 = some ⟨35, [.t 2], c110⟩ := by kernel_rfl
theorem ok_nlimbs : SpecOK Tryz.prog 110 (nwS spLimbs) := by
  refine nw_run (env_cons ok_nNorm (env_nil _)) mixed tr110 ?_ ?_
  · intro args h h' v hl e; exact e
  intro args vf b h N hG hN
  unfold spLimbs at hG
  split at hG
  case h_2 => cases hG
  rename_i l
  split at hG
  case isFalse => cases hG
  rename_i hl
  cases hG
  refine ⟨rfl, tb_base _ _, vr1_sl _ _ _, by simp, ?_⟩
  have hL : (bl (nl l)).length ≤ 1099511627776 := Nat.le_trans (bl_length_nl l) hl
  generalize hn : nl l = n at *
  have hK : lk n = ((bl n).length + 3) / 4 := rfl
  have a1 : IntKind.i64.wrap (((bl n).length : Int) + 4) = (((bl n).length + 4 : Nat) : Int) := by rw [i64_in _ (by omega)]; omega
  have a2 : IntKind.i64.wrap ((((bl n).length + 4 : Nat) : Int) - 1) = (((bl n).length + 3 : Nat) : Int) := by rw [i64_in _ (by omega)]; omega
  have a3 : IntKind.i64.wrap ((((bl n).length + 3 : Nat) : Int).tdiv 4) = (lk n : Int) := by
    rw [i64_quo _ _ (by omega), hK]; omega
  have a4 : 4 * (lk n : Int) ≤ 281474976710656 := by omega
  have a5 : (lk n : Int) ≤ 9223372036854775807 := by omega
  simp only [c110, initT, List.zipIdx_cons, List.zipIdx_nil, List.map_cons, List.map_nil, Nat.reduceAdd]
  simp only [↓R0, R1, rdL, rdH, isCall, istep, ibin, vcells, fillI, setR, flat, okCell, isBase, List.set, List.drop, List.take, List.append, bnds, bhi, blo, srcOf, simprocAttr, -Int.reduceAbs, spNNorm, hl, hn, a1, a2, a3, a4, a5, tb_rep]
  refine lp_parts (fun m tm hp nx => ∃ (i : Nat), m + i = (bl n).length ∧ tmget tm 0 = .string ⟨⟨bl n⟩⟩ ∧ tmget tm 3 = .slice (some ⟨N + 0, 0, none⟩) (lk n) (lk n) ∧ tmget tm 14 = .int .i64 (bl n).length ∧ tmget tm 15 = .int .i64 i ∧
      hget hp (N + 0) = some ⟨118, 1, false, tb (lk n) (lm (nl ((bl n).take i)))⟩ ∧ (∀ q, q < N → hget hp q = hget h q) ∧ nx = N + 1) ?_ (bl n).length
    ⟨0, by omega, ?_, ?_, ?_, ?_, ?_, ?_, rfl⟩
  · intro m tm hp nx ⟨i, hm, h0, h3, h14, h15, hb, hh, hnx⟩
    subst hnx
    by_cases c1 : i < (bl n).length
    · obtain ⟨b, hbb⟩ : ∃ b, (bl n)[i]? = some b := ⟨_, List.getElem?_eq_getElem c1⟩
      have hts := nl_take_succ (bl n) i
      rw [hbb, Option.getD_some] at hts
      obtain ⟨g1, g2, g3⟩ := limb_byte (v := nl ((bl n).take i)) (c := b.toNat) (i := i) (nl_take_lt _ _) b.toNat_lt
      have hi : i / 4 < lk n := by omega
      have e1 : IntKind.i64.wrap ((i : Int).tdiv 4) = ((i / 4 : Nat) : Int) := by rw [i64_quo _ _ (by omega)]; omega
      have e2 : (i : Int).tmod 4 = ((i % 4 : Nat) : Int) := by rw [Int.tmod_eq_emod_of_nonneg (by omega)]; omega
      have e3 : IntKind.i64.wrap (8 * ((i % 4 : Nat) : Int)) = ((8 * (i % 4) : Nat) : Int) := by rw [i64_in _ (by omega)]; omega
      have e4 : ¬ (((8 * (i % 4) : Nat) : Int) < 0) := by omega
      have e5 := shl32 (c := b.toNat) (s := 8 * (i % 4)) (by omega) (by omega)
      have e6 := or_u32 g2 g3
      have e7 : IntKind.i64.wrap ((i : Int) + 1) = ((i + 1 : Nat) : Int) := by rw [i64_in _ (by omega)]; omega
      have e8 := tb_get' (lm (nl ((bl n).take i))) hi
      have e9 : i / 4 + 1 ≤ lk n := hi
      have ew := u32_nat (n := b.toNat) (by have := b.toNat_lt; omega)
      simp only [↓R0, R1, rdL, rdH, isCall, istep, ibin, vcells, fillI, setR, flat, okCell, isBase, List.set, List.drop, List.take, List.append, bnds, bhi, blo, srcOf, simprocAttr, -Int.reduceAbs, h0, h3, h14, h15, hb, c1, e1, e2, e3, e4, e5, e6, e7, e8, e9, ew, hi, hbb, tb_length]
      refine ⟨m - 1, by omega, i + 1, by omega, rfl, ?_, ?_⟩
      · rw [tb_set, hts]
        rw [show (fun j => if j = i / 4 then lm (nl ((bl n).take i)) (i / 4) + b.toNat * 2 ^ (8 * (i % 4)) else lm (nl ((bl n).take i)) j) = lm (nl ((bl n).take i) + 256 ^ i * b.toNat) from funext fun j => (g1 j).symm]
      · intro q hq
        simp only [if_neg (show ¬ N + 0 = q by omega)]
        exact hh q hq
    · have ei : i = (bl n).length := by omega
      subst ei
      rw [List.take_length, nl_bl] at hb
      simp only [↓R0, R1, rdL, rdH, isCall, istep, ibin, vcells, fillI, setR, flat, okCell, isBase, List.set, List.drop, List.take, List.append, bnds, bhi, blo, srcOf, simprocAttr, -Int.reduceAbs, h0, h3, h14, h15, c1]
      refine ⟨trivial, _, N + 0, false, rfl, ?_, by omega, hb, hh⟩
      (first | (simp only [↓R0, R1, rdL, rdH, isCall, istep, ibin, vcells, fillI, setR, flat, okCell, isBase, List.set, List.drop, List.take, List.append, bnds, bhi, blo, srcOf, simprocAttr, -Int.reduceAbs, one]; done) | (simp only [↓R0, R1, rdL, rdH, isCall, istep, ibin, vcells, fillI, setR, flat, okCell, isBase, List.set, List.drop, List.take, List.append, bnds, bhi, blo, srcOf, simprocAttr, -Int.reduceAbs, one]; rfl) | rfl)
  · (first | (simp only [↓R0, R1, rdL, rdH, isCall, istep, ibin, vcells, fillI, setR, flat, okCell, isBase, List.set, List.drop, List.take, List.append, bnds, bhi, blo, srcOf, simprocAttr, -Int.reduceAbs]; done) | (simp only [↓R0, R1, rdL, rdH, isCall, istep, ibin, vcells, fillI, setR, flat, okCell, isBase, List.set, List.drop, List.take, List.append, bnds, bhi, blo, srcOf, simprocAttr, -Int.reduceAbs]; rfl) | rfl)
  · (first | (simp only [↓R0, R1, rdL, rdH, isCall, istep, ibin, vcells, fillI, setR, flat, okCell, isBase, List.set, List.drop, List.take, List.append, bnds, bhi, blo, srcOf, simprocAttr, -Int.reduceAbs]; done) | (simp only [↓R0, R1, rdL, rdH, isCall, istep, ibin, vcells, fillI, setR, flat, okCell, isBase, List.set, List.drop, List.take, List.append, bnds, bhi, blo, srcOf, simprocAttr, -Int.reduceAbs]; rfl) | rfl)
  · (first | (simp only [↓R0, R1, rdL, rdH, isCall, istep, ibin, vcells, fillI, setR, flat, okCell, isBase, List.set, List.drop, List.take, List.append, bnds, bhi, blo, srcOf, simprocAttr, -Int.reduceAbs]; done) | (simp only [↓R0, R1, rdL, rdH, isCall, istep, ibin, vcells, fillI, setR, flat, okCell, isBase, List.set, List.drop, List.take, List.append, bnds, bhi, blo, srcOf, simprocAttr, -Int.reduceAbs]; rfl) | rfl)
  · (first | (simp only [↓R0, R1, rdL, rdH, isCall, istep, ibin, vcells, fillI, setR, flat, okCell, isBase, List.set, List.drop, List.take, List.append, bnds, bhi, blo, srcOf, simprocAttr, -Int.reduceAbs]; done) | (simp only [↓R0, R1, rdL, rdH, isCall, istep, ibin, vcells, fillI, setR, flat, okCell, isBase, List.set, List.drop, List.take, List.append, bnds, bhi, blo, srcOf, simprocAttr, -Int.reduceAbs]; rfl) | rfl)
  · (first | (simp only [↓R0, R1, rdL, rdH, isCall, istep, ibin, vcells, fillI, setR, flat, okCell, isBase, List.set, List.drop, List.take, List.append, bnds, bhi, blo, srcOf, simprocAttr, -Int.reduceAbs, List.take_zero, nl, lm_0]; done) | (simp only [↓R0, R1, rdL, rdH, isCall, istep, ibin, vcells, fillI, setR, flat, okCell, isBase, List.set, List.drop, List.take, List.append, bnds, bhi, blo, srcOf, simprocAttr, -Int.reduceAbs, List.take_zero, nl, lm_0]; rfl) | rfl)
  · intro q hq
    simp only [↓R0, R1, rdL, rdH, isCall, istep, ibin, vcells, fillI, setR, flat, okCell, isBase, List.set, List.drop, List.take, List.append, bnds, bhi, blo, srcOf, simprocAttr, -Int.reduceAbs, hget_new hq]
def spMag : List Value → Heap → Option Value
  | [v], h => match shows h v with
    | some cs => if uok cs = true ∧ cs.length ≤ 34359738368 then some (.string ⟨⟨bl (ud cs)⟩⟩) else none
    | none => none
  | _, _ => none
def c113 : ICode :=
  (.seq (.reg [⟨(some 2), none, (.mv (.c (.string ⟨⟨[]⟩⟩)))⟩])
  (.seq (.reg [⟨(some 7), none, (.mv (.t 0))⟩, ⟨(some 8), none, (.lensl (.t 7))⟩, ⟨(some 9), none, (.bin .mul (.c (.int .i64 4)) (.t 8))⟩, ⟨(some 10), none, (.mkslice 5 1 1 [(.int .u8 0)] (.c (.int .i64 0)) (.t 9))⟩, ⟨(some 3), none, (.mv (.t 10))⟩])
  (.seq (.seq (.reg [⟨(some 11), none, (.mv (.t 0))⟩, ⟨(some 12), none, (.lensl (.t 11))⟩, ⟨(some 13), none, (.mv (.c (.int .i64 0)))⟩])
  (.block 0 (.loop (.seq (.reg [⟨(some 14), none, (.bin .lss (.t 13) (.t 12))⟩])
  (.seq (.cond (.t 14)
  .skip
  (.exit 0))
  (.seq (.block 1 (.seq (.reg [⟨(some 15), none, (.ixsl 1 (.t 11) (.t 13))⟩, ⟨(some 16), none, (.load false 1 (.t 15))⟩, ⟨(some 5), none, (.mv (.t 16))⟩])
  (.seq (.reg [⟨(some 17), none, (.mv (.c (.int .i64 0)))⟩])
  (.block 2 (.loop (.seq (.reg [⟨(some 18), none, (.bin .lss (.t 17) (.c (.int .i64 4)))⟩])
  (.seq (.cond (.t 18)
  .skip
  (.exit 2))
  (.seq (.block 3 (.seq (.reg [⟨(some 19), none, (.mv (.t 17))⟩, ⟨(some 6), none, (.mv (.t 19))⟩])
  (.reg [⟨(some 20), none, (.mv (.t 3))⟩, ⟨(some 21), none, (.mv (.t 5))⟩, ⟨(some 22), none, (.mv (.t 6))⟩, ⟨(some 23), none, (.bin .mul (.c (.int .i64 8)) (.t 22))⟩, ⟨(some 24), none, (.bin .shr (.t 21) (.t 23))⟩, ⟨(some 25), none, (.conv .u8 (.t 24))⟩, ⟨(some 26), none, (.bslice 5 1 1 [(.int .u8 0)] [(0, 1, (.t 25))])⟩, ⟨(some 27), none, (.app 5 1 1 (.t 20) (.t 26))⟩, ⟨(some 3), none, (.mv (.t 27))⟩])))
  (.reg [⟨(some 28), none, (.bin .add (.t 17) (.c (.int .i64 1)))⟩, ⟨(some 17), none, (.mv (.t 28))⟩])))))))))
  (.reg [⟨(some 29), none, (.bin .add (.t 13) (.c (.int .i64 1)))⟩, ⟨(some 13), none, (.mv (.t 29))⟩])))))))
  (.seq (.reg [⟨(some 30), none, (.mv (.t 3))⟩, ⟨(some 31), none, (.b2s (.t 30))⟩, ⟨(some 32), none, (.call 108 [(.t 31)])⟩, ⟨(some 2), none, (.mv (.t 32))⟩])
  .ret))))
theorem tr113 : trFun Tryz.prog 113 = some ⟨33, [.t 2], c113⟩ := by kernel_rfl
set_option maxHeartbeats 1000000 in
theorem ok_nmag : SpecOK Tryz.prog 113 (rdS spMag) := by
  refine rd_run (env_cons ok_nNorm (env_nil _)) mixed tr113 ?_ ?_
  · intro args h h' v hle e
    unfold spMag at e ⊢
    split at e
    · split at e
      · rename_i cs hcs
        simp only [shows_mono hle hcs]; exact e
      · cases e
    · cases e
  intro args v h N hG hN
  unfold spMag at hG
  split at hG
  case h_2 => cases hG
  rename_i sv _
  split at hG
  case h_2 => cases hG
  rename_i cs hcs
  split at hG
  case isFalse => cases hG
  rename_i hl
  obtain ⟨hu, hl⟩ := hl
  cases hG
  refine ⟨rfl, by simp, ?_⟩
  obtain ⟨kb, off, K, cap, blk, rfl, hb, hle, hcell, hV, hlen⟩ := shows_tb hcs hu
  have hkb := hN _ _ hb
  have hne : ∀ a, ¬ (N + a = kb) := fun a => by omega
  rw [hlen] at hl
  generalize ud cs = V at *
  have a1 : IntKind.i64.wrap (4 * (K : Int)) = ((4 * K : Nat) : Int) := by rw [i64_in _ (by omega)]; omega
  have a2 : 1 * ((4 * K : Nat) : Int) ≤ 281474976710656 := by omega
  have a3 : ((4 * K : Nat) : Int) ≤ 9223372036854775807 := by omega
  simp only [c113, initT, List.zipIdx_cons, List.zipIdx_nil, List.map_cons, List.map_nil, Nat.reduceAdd]
  simp only [↓R0, R1, rdL, rdH, isCall, istep, ibin, vcells, fillI, setR, flat, okCell, isBase, List.set, List.drop, List.take, List.append, bnds, bhi, blo, srcOf, simprocAttr, -Int.reduceAbs, a1, a2, a3]
  refine lp_parts (fun m tm hp nx => ∃ (i j kk : Nat) (out : List UInt8) (x : Bool), m + i = K ∧ tmget tm 11 = .slice (some ⟨kb, off, none⟩) K cap ∧ tmget tm 12 = .int .i64 K ∧ tmget tm 13 = .int .i64 i ∧
      tmget tm 3 = .slice (some ⟨N + kk, 0, none⟩) (4 * i) (4 * i) ∧ hget hp (N + kk) = some ⟨5, 1, x, bc out⟩ ∧ out.length = 4 * i ∧ nl out = V % 256 ^ (4 * i) ∧ (∀ q, q < N → hget hp q = hget h q) ∧ nx = N + j ∧ kk < j) ?_ K
    ⟨0, 1, 0, [], false, by omega, ?_, ?_, ?_, ?_, ?_, rfl, ?_, ?_, rfl, by omega⟩
  · intro m tm hp nx ⟨i, j, kk, out, x, hm, h11, h12, h13, h3, hk, ho, hv, hh, hnx, hkj⟩
    subst hnx
    by_cases c1 : i < K
    · have hbb : hget hp kb = some blk := by rw [hh kb hkb]; exact hb
      have e1 : IntKind.i64.wrap ((i : Int) + 1) = ((i + 1 : Nat) : Int) := by rw [i64_in _ (by omega)]; omega
      simp only [↓R0, R1, rdL, rdH, isCall, istep, ibin, vcells, fillI, setR, flat, okCell, isBase, List.set, List.drop, List.take, List.append, bnds, bhi, blo, srcOf, simprocAttr, -Int.reduceAbs, h11, h12, h13, h3, c1, hbb, hcell i c1]
      refine lp_parts (fun m2 tm hp nx => ∃ (k j kk : Nat) (out : List UInt8) (x : Bool), m2 + k = 4 ∧ tmget tm 11 = .slice (some ⟨kb, off, none⟩) K cap ∧ tmget tm 12 = .int .i64 K ∧ tmget tm 13 = .int .i64 i ∧ tmget tm 5 = .int .u32 (lm V i : Nat) ∧ tmget tm 17 = .int .i64 k ∧
        tmget tm 3 = .slice (some ⟨N + kk, 0, none⟩) (4 * i + k) (4 * i + k) ∧ hget hp (N + kk) = some ⟨5, 1, x, bc out⟩ ∧ out.length = 4 * i + k ∧ nl out = V % 256 ^ (4 * i + k) ∧ (∀ q, q < N → hget hp q = hget h q) ∧ nx = N + j ∧ kk < j) ?_ 4
        ⟨0, j, kk, out, x, by omega, ?_, ?_, ?_, ?_, ?_, ?_, hk, ho, hv, hh, rfl, hkj⟩
      · clear hk ho hv hh h11 h12 h13 h3 hbb hkj
        clear tm hp out x j kk
        intro m2 tm hp nx ⟨k, j, kk, out, x, hm2, h11, h12, h13, h5, h17, h3, hk, ho, hv, hh, hnx, hkj⟩
        subst hnx
        by_cases c2 : k < 4
        · have c2' : (k : Int) < 4 := by omega
          have e2 : IntKind.i64.wrap (8 * (k : Int)) = ((8 * k : Nat) : Int) := by rw [i64_in _ (by omega)]; omega
          have e3 : ¬ (((8 * k : Nat) : Int) < 0) := by omega
          have e4 := shr32 (lm V i) (8 * k) (by omega)
          have e5 : IntKind.u8.wrap ((lm V i / 2 ^ (8 * k) : Nat) : Int) = ((UInt8.ofNat (V / 256 ^ (4 * i + k) % 256)).toNat : Int) := by
            rw [← byte_limb V i k c2]
            have : IntKind.u8.wrap ((lm V i / 2 ^ (8 * k) : Nat) : Int) = ((lm V i / 2 ^ (8 * k) : Nat) : Int) % 256 := rfl
            rw [this]; simp
          have e6 : IntKind.i64.wrap ((k : Int) + 1) = ((k + 1 : Nat) : Int) := by rw [i64_in _ (by omega)]; omega
          have f1 : ¬ (4 * i + k + 1 ≤ 4 * i + k) := by omega
          have f2 : 4 * i + k + 1 ≤ 140737488355328 := by omega
          have f3 : ¬ (j = kk) := by omega
          have f4 : 0 + 1 ≤ 1 := by omega
          simp only [↓R0, R1, rdL, rdH, isCall, istep, ibin, vcells, fillI, setR, flat, okCell, isBase, List.set, List.drop, List.take, List.append, bnds, bhi, blo, srcOf, simprocAttr, -Int.reduceAbs, h11, h12, h13, h5, h17, h3, c2', e2, e3, e4, e5, e6, f1, f2, f3, f4, hk, ho]
          refine ⟨m2 - 1, by omega, k + 1, j + 2, j + 1, out ++ [UInt8.ofNat (V / 256 ^ (4 * i + k) % 256)], false, by omega, rfl, rfl, ?_, by simp [ho]; omega, ?_, ?_, rfl, Nat.lt_succ_self _⟩
          · rw [if_pos rfl, bc_append]; rfl
          · rw [nl_append, ho, hv]
            have : 4 * i + (k + 1) = (4 * i + k) + 1 := by omega
            rw [this, byte_step]
            simp [nl]
          · intro q hq
            simp only [if_neg (show ¬ N + (j + 1) = q by omega), if_neg (show ¬ N + kk = q by omega), if_neg (show ¬ N + j = q by omega)]
            exact hh q hq
        · have ek : k = 4 := by omega
          subst ek
          have c2' : ¬ (((4 : Nat) : Int) < 4) := by omega
          simp only [↓R0, R1, rdL, rdH, isCall, istep, ibin, vcells, fillI, setR, flat, okCell, isBase, List.set, List.drop, List.take, List.append, bnds, bhi, blo, srcOf, simprocAttr, -Int.reduceAbs, h11, h12, h13, h3, h17, c2', e1]
          refine ⟨m - 1, by omega, i + 1, j, kk, out, x, by omega, rfl, ?_, hk, by omega, ?_, hh, rfl, hkj⟩
          · rw [show 4 * (i + 1) = 4 * i + 4 by omega]
          · rw [show 4 * (i + 1) = 4 * i + 4 by omega]; exact hv
      · (first | (simp only [↓R0, R1, rdL, rdH, isCall, istep, ibin, vcells, fillI, setR, flat, okCell, isBase, List.set, List.drop, List.take, List.append, bnds, bhi, blo, srcOf, simprocAttr, -Int.reduceAbs, h11]; done) | (simp only [↓R0, R1, rdL, rdH, isCall, istep, ibin, vcells, fillI, setR, flat, okCell, isBase, List.set, List.drop, List.take, List.append, bnds, bhi, blo, srcOf, simprocAttr, -Int.reduceAbs, h11]; rfl) | rfl)
      · (first | (simp only [↓R0, R1, rdL, rdH, isCall, istep, ibin, vcells, fillI, setR, flat, okCell, isBase, List.set, List.drop, List.take, List.append, bnds, bhi, blo, srcOf, simprocAttr, -Int.reduceAbs, h12]; done) | (simp only [↓R0, R1, rdL, rdH, isCall, istep, ibin, vcells, fillI, setR, flat, okCell, isBase, List.set, List.drop, List.take, List.append, bnds, bhi, blo, srcOf, simprocAttr, -Int.reduceAbs, h12]; rfl) | rfl)
      · (first | (simp only [↓R0, R1, rdL, rdH, isCall, istep, ibin, vcells, fillI, setR, flat, okCell, isBase, List.set, List.drop, List.take, List.append, bnds, bhi, blo, srcOf, simprocAttr, -Int.reduceAbs, h13]; done) | (simp only [↓R0, R1, rdL, rdH, isCall, istep, ibin, vcells, fillI, setR, flat, okCell, isBase, List.set, List.drop, List.take, List.append, bnds, bhi, blo, srcOf, simprocAttr, -Int.reduceAbs, h13]; rfl) | rfl)
      · (first | (simp only [↓R0, R1, rdL, rdH, isCall, istep, ibin, vcells, fillI, setR, flat, okCell, isBase, List.set, List.drop, List.take, List.append, bnds, bhi, blo, srcOf, simprocAttr, -Int.reduceAbs]; done) | (simp only [↓R0, R1, rdL, rdH, isCall, istep, ibin, vcells, fillI, setR, flat, okCell, isBase, List.set, List.drop, List.take, List.append, bnds, bhi, blo, srcOf, simprocAttr, -Int.reduceAbs]; rfl) | rfl)
      · (first | (simp only [↓R0, R1, rdL, rdH, isCall, istep, ibin, vcells, fillI, setR, flat, okCell, isBase, List.set, List.drop, List.take, List.append, bnds, bhi, blo, srcOf, simprocAttr, -Int.reduceAbs]; done) | (simp only [↓R0, R1, rdL, rdH, isCall, istep, ibin, vcells, fillI, setR, flat, okCell, isBase, List.set, List.drop, List.take, List.append, bnds, bhi, blo, srcOf, simprocAttr, -Int.reduceAbs]; rfl) | rfl)
      · (first | (simp only [↓R0, R1, rdL, rdH, isCall, istep, ibin, vcells, fillI, setR, flat, okCell, isBase, List.set, List.drop, List.take, List.append, bnds, bhi, blo, srcOf, simprocAttr, -Int.reduceAbs, h3]; done) | (simp only [↓R0, R1, rdL, rdH, isCall, istep, ibin, vcells, fillI, setR, flat, okCell, isBase, List.set, List.drop, List.take, List.append, bnds, bhi, blo, srcOf, simprocAttr, -Int.reduceAbs, h3]; rfl) | rfl)
    · have ei : i = K := by omega
      subst ei
      have f5 : 4 * i ≤ out.length := by omega
      have hout : out.length ≤ 1099511627776 := by omega
      have hval : nl out = V := by rw [hv, pow4, Nat.mod_eq_of_lt hV]
      have f6 : (bc out).take (4 * i) = bc out := by rw [← ho, bc_take_all]
      simp only [↓R0, R1, rdL, rdH, isCall, istep, ibin, vcells, fillI, setR, flat, okCell, isBase, List.set, List.drop, List.take, List.append, bnds, bhi, blo, srcOf, simprocAttr, -Int.reduceAbs, h11, h12, h13, h3, c1, hk, f5, f6, byteList_bc, spNNorm, hout, hval, Fin, isEnd, resL, res1, iE, rE]
      exact ⟨_, rfl, rfl, hh⟩
  · (first | (simp only [↓R0, R1, rdL, rdH, isCall, istep, ibin, vcells, fillI, setR, flat, okCell, isBase, List.set, List.drop, List.take, List.append, bnds, bhi, blo, srcOf, simprocAttr, -Int.reduceAbs]; done) | (simp only [↓R0, R1, rdL, rdH, isCall, istep, ibin, vcells, fillI, setR, flat, okCell, isBase, List.set, List.drop, List.take, List.append, bnds, bhi, blo, srcOf, simprocAttr, -Int.reduceAbs]; rfl) | rfl)
  · (first | (simp only [↓R0, R1, rdL, rdH, isCall, istep, ibin, vcells, fillI, setR, flat, okCell, isBase, List.set, List.drop, List.take, List.append, bnds, bhi, blo, srcOf, simprocAttr, -Int.reduceAbs]; done) | (simp only [↓R0, R1, rdL, rdH, isCall, istep, ibin, vcells, fillI, setR, flat, okCell, isBase, List.set, List.drop, List.take, List.append, bnds, bhi, blo, srcOf, simprocAttr, -Int.reduceAbs]; rfl) | rfl)
  · (first | (simp only [↓R0, R1, rdL, rdH, isCall, istep, ibin, vcells, fillI, setR, flat, okCell, isBase, List.set, List.drop, List.take, List.append, bnds, bhi, blo, srcOf, simprocAttr, -Int.reduceAbs]; done) | (simp only [↓R0, R1, rdL, rdH, isCall, istep, ibin, vcells, fillI, setR, flat, okCell, isBase, List.set, List.drop, List.take, List.append, bnds, bhi, blo, srcOf, simprocAttr, -Int.reduceAbs]; rfl) | rfl)
  · (first | (simp only [↓R0, R1, rdL, rdH, isCall, istep, ibin, vcells, fillI, setR, flat, okCell, isBase, List.set, List.drop, List.take, List.append, bnds, bhi, blo, srcOf, simprocAttr, -Int.reduceAbs]; done) | (simp only [↓R0, R1, rdL, rdH, isCall, istep, ibin, vcells, fillI, setR, flat, okCell, isBase, List.set, List.drop, List.take, List.append, bnds, bhi, blo, srcOf, simprocAttr, -Int.reduceAbs]; rfl) | rfl)
  · (first | (simp only [↓R0, R1, rdL, rdH, isCall, istep, ibin, vcells, fillI, setR, flat, okCell, isBase, List.set, List.drop, List.take, List.append, bnds, bhi, blo, srcOf, simprocAttr, -Int.reduceAbs]; done) | (simp only [↓R0, R1, rdL, rdH, isCall, istep, ibin, vcells, fillI, setR, flat, okCell, isBase, List.set, List.drop, List.take, List.append, bnds, bhi, blo, srcOf, simprocAttr, -Int.reduceAbs]; rfl) | rfl)
  · simp [nl, Nat.mod_one]
  · intro q hq
    simp only [↓R0, R1, rdL, rdH, isCall, istep, ibin, vcells, fillI, setR, flat, okCell, isBase, List.set, List.drop, List.take, List.append, bnds, bhi, blo, srcOf, simprocAttr, -Int.reduceAbs, hget_new hq]
end Go.Eng
end
section
set_option linter.unusedVariables false
set_option linter.unusedSimpArgs false
set_option linter.unusedSectionVars false
set_option maxRecDepth 4000
namespace Go.Eng
open Go Go.Proofs Go.IntWalk
def spFU64 : List Value → Option Value
  | [.int .u64 n] => if 0 ≤ n ∧ n < 18446744073709551616 then some (.string ⟨⟨bl n.toNat⟩⟩) else none
  | _ => none
def c70 : ICode :=
  (.seq (.reg [⟨(some 2), none, (.mv (.c (.string ⟨⟨[]⟩⟩)))⟩])
  (.seq (.reg [⟨(some 3), none, (.mv (.t 0))⟩, ⟨(some 4), none, (.conv .u32 (.t 3))⟩, ⟨(some 5), none, (.mv (.t 0))⟩, ⟨(some 6), none, (.bin .shr (.t 5) (.c (.int .u64 32)))⟩, ⟨(some 7), none, (.conv .u32 (.t 6))⟩, ⟨(some 8), none, (.bslice 118 1 2 [(.int .u32 0), (.int .u32 0)] [(0, 1, (.t 4)), (1, 1, (.t 7))])⟩, ⟨(some 9), none, (.call 113 [(.t 8)])⟩, ⟨(some 2), none, (.mv (.t 9))⟩])
  .ret))
theorem tr70 : trFun Tryz.prog 70 = some ⟨10, [.t 2], c70⟩ := by kernel_rfl
theorem ok_nFU64 : SpecOK Tryz.prog 70 (flat spFU64) := by
  refine flat_run (env_cons ok_nmag (env_nil _)) mixed tr70 ?_
  intro args v h N hG
  unfold spFU64 at hG
  split at hG
  case h_2 => cases hG
  rename_i n
  split at hG
  case isFalse => cases hG
  rename_i hl
  obtain ⟨h1, h2⟩ := hl
  cases hG
  refine ⟨rfl, by simp, ?_⟩
  obtain ⟨n, rfl⟩ := Int.eq_ofNat_of_zero_le h1
  have e1 := u32_mod n
  have e2 : (n : Int).fdiv (2 ^ min 32 IntKind.u64.bits) = ((n / 4294967296 : Nat) : Int) := by
    have : (2 : Int) ^ min 32 IntKind.u64.bits = 4294967296 := rfl
    rw [this, Int.fdiv_eq_ediv_of_nonneg _ (by omega)]; omega
  have e3 := u32_nat (n := n / 4294967296) (by omega)
  have f1 : ((n % 4294967296 : Nat) : Int) < 4294967296 := by omega
  have f2 : ((n / 4294967296 : Nat) : Int) < 4294967296 := by omega
  have f3 : n % 4294967296 + 4294967296 * (n / 4294967296 + 4294967296 * 0) = n := by omega
  simp only [c70, initT, List.zipIdx_cons, List.zipIdx_nil, List.map_cons, List.map_nil, Nat.reduceAdd]
  simp only [↓R0, R1, rdL, rdH, isCall, istep, ibin, vcells, fillI, setR, flat, okCell, isBase, List.set, List.drop, List.take, List.append, bnds, bhi, blo, srcOf, simprocAttr, -Int.reduceAbs, e1, e2, e3, rdS, spMag, shows, uok, ud, f1, f2, f3, Fin, isEnd, resL, res1, iE, rE]
  exact ⟨_, rfl, rfl, fun k hk => by simp only [ne_nb hk, if_false]⟩
def spU64 : List Value → Option Value
  | [.string ⟨⟨l⟩⟩] => if l.length ≤ 1099511627776 then some (.tuple ⟨if nl l < 18446744073709551616 then [.int .u64 (nl l : Nat), .bool true] else [.int .u64 0, .bool false]⟩) else none
  | _ => none
def c109 : ICode :=
  (.seq (.reg [⟨(some 2), none, (.mv (.c (.int .u64 0)))⟩, ⟨(some 3), none, (.mv (.c (.bool false)))⟩])
  (.seq (.reg [⟨(some 6), none, (.mv (.t 0))⟩, ⟨(some 7), none, (.call 108 [(.t 6)])⟩, ⟨(some 0), none, (.mv (.t 7))⟩])
  (.seq (.seq (.reg [⟨(some 8), none, (.mv (.t 0))⟩, ⟨(some 9), none, (.lens (.t 8))⟩, ⟨(some 10), none, (.bin .gtr (.t 9) (.c (.int .i64 8)))⟩])
  (.cond (.t 10)
  (.seq (.reg [⟨(some 2), none, (.mv (.c (.int .u64 0)))⟩, ⟨(some 3), none, (.mv (.c (.bool false)))⟩])
  .ret)
  .skip))
  (.seq (.reg [⟨(some 4), none, (.mv (.c (.int .u64 0)))⟩])
  (.seq (.seq (.reg [⟨(some 11), none, (.mv (.t 0))⟩, ⟨(some 12), none, (.lens (.t 11))⟩, ⟨(some 13), none, (.mv (.c (.int .i64 0)))⟩])
  (.block 0 (.loop (.seq (.reg [⟨(some 14), none, (.bin .lss (.t 13) (.t 12))⟩])
  (.seq (.cond (.t 14)
  .skip
  (.exit 0))
  (.seq (.block 1 (.seq (.reg [⟨(some 15), none, (.mv (.t 13))⟩, ⟨(some 5), none, (.mv (.t 15))⟩])
  (.reg [⟨(some 16), none, (.mv (.t 4))⟩, ⟨(some 17), none, (.mv (.t 0))⟩, ⟨(some 18), none, (.mv (.t 5))⟩, ⟨(some 19), none, (.idstr (.t 17) (.t 18))⟩, ⟨(some 20), none, (.conv .u64 (.t 19))⟩, ⟨(some 21), none, (.mv (.t 5))⟩, ⟨(some 22), none, (.bin .mul (.c (.int .i64 8)) (.t 21))⟩, ⟨(some 23), none, (.bin .shl (.t 20) (.t 22))⟩, ⟨(some 24), none, (.bin .or (.t 16) (.t 23))⟩, ⟨(some 4), none, (.mv (.t 24))⟩])))
  (.reg [⟨(some 25), none, (.bin .add (.t 13) (.c (.int .i64 1)))⟩, ⟨(some 13), none, (.mv (.t 25))⟩])))))))
  (.seq (.reg [⟨(some 26), none, (.mv (.t 4))⟩, ⟨(some 2), none, (.mv (.t 26))⟩, ⟨(some 3), none, (.mv (.c (.bool true)))⟩])
  .ret))))))
theorem tr109 : trFun Tryz.prog 109 = some ⟨27, [.t 2, .t 3], c109⟩ := by kernel_rfl
theorem shl64 {c s : Nat} (h : c * 2 ^ s < 18446744073709551616) (hs : s ≤ 64) : IntKind.u64.wrap ((c : Int) * 2 ^ min s IntKind.u64.bits) = ((c * 2 ^ s : Nat) : Int) := by
  have : min s IntKind.u64.bits = s := Nat.min_eq_left hs
  rw [this, ← u64_nat h, Int.natCast_mul, Int.natCast_pow]; rfl
theorem ok_nU64 : SpecOK Tryz.prog 109 (flat spU64) := by
  refine flat_run (env_cons ok_nNorm (env_nil _)) mixed tr109 ?_
  intro args v h N hG
  unfold spU64 at hG
  split at hG
  case h_2 => cases hG
  rename_i l
  split at hG
  case isFalse => cases hG
  rename_i hl
  cases hG
  refine ⟨by split <;> rfl, by simp, ?_⟩
  have hL : (bl (nl l)).length ≤ 1099511627776 := Nat.le_trans (bl_length_nl l) hl
  generalize hn : nl l = n at *
  have h8 : (bl n).length ≤ 8 ↔ n < 18446744073709551616 := bl_length_le (k := 8)
  simp only [c109, initT, List.zipIdx_cons, List.zipIdx_nil, List.map_cons, List.map_nil, Nat.reduceAdd]
  by_cases c : n < 18446744073709551616
  · rw [if_pos c]
    have hle := h8.2 c
    have g : (((bl n).length : Int) > 8) = False := eq_false (by omega)
    simp only [↓R0, R1, rdL, rdH, isCall, istep, ibin, vcells, fillI, setR, flat, okCell, isBase, List.set, List.drop, List.take, List.append, bnds, bhi, blo, srcOf, simprocAttr, -Int.reduceAbs, spNNorm, hl, hn, g]
    refine lp_parts (fun m tm hp nx => ∃ (i : Nat), m + i = (bl n).length ∧ tmget tm 0 = .string ⟨⟨bl n⟩⟩ ∧ tmget tm 4 = .int .u64 (nl ((bl n).take i) : Nat) ∧ tmget tm 12 = .int .i64 (bl n).length ∧ tmget tm 13 = .int .i64 i ∧
        hp = h ∧ nx = N + 0) ?_ (bl n).length ⟨0, by omega, ?_, ?_, ?_, ?_, rfl, rfl⟩
    · intro m tm hp nx ⟨i, hm, h0, h4, h12, h13, hh, hnx⟩
      subst hnx hh
      by_cases c1 : i < (bl n).length
      · obtain ⟨b, hbb⟩ : ∃ b, (bl n)[i]? = some b := ⟨_, List.getElem?_eq_getElem c1⟩
        have hts := nl_take_succ (bl n) i
        rw [hbb, Option.getD_some] at hts
        have hlt := nl_take_lt (bl n) i
        have hlt2 := nl_take_lt (bl n) (i + 1)
        have hp8 : 256 ^ i = 2 ^ (8 * i) := by rw [Nat.pow_mul]
        have hq8 : 256 ^ (i + 1) ≤ 256 ^ 8 := Nat.pow_le_pow_right (by omega) (by omega)
        rw [hts] at hlt2
        rw [hp8] at hlt hlt2 hts
        have hsum : nl ((bl n).take i) + b.toNat * 2 ^ (8 * i) < 18446744073709551616 := by
          rw [Nat.mul_comm (b.toNat)]
          exact Nat.lt_of_lt_of_le hlt2 hq8
        have e1 := u64_nat (n := b.toNat) (by have := b.toNat_lt; omega)
        have e3 : IntKind.i64.wrap (8 * (i : Int)) = ((8 * i : Nat) : Int) := by rw [i64_in _ (by omega)]; omega
        have e4 : ¬ (((8 * i : Nat) : Int) < 0) := by omega
        have e5 := shl64 (c := b.toNat) (s := 8 * i) (by omega) (by omega)
        have e6 := or_u64 hlt hsum
        have e7 : IntKind.i64.wrap ((i : Int) + 1) = ((i + 1 : Nat) : Int) := by rw [i64_in _ (by omega)]; omega
        simp only [↓R0, R1, rdL, rdH, isCall, istep, ibin, vcells, fillI, setR, flat, okCell, isBase, List.set, List.drop, List.take, List.append, bnds, bhi, blo, srcOf, simprocAttr, -Int.reduceAbs, h0, h4, h12, h13, c1, hbb, e1, e3, e4, e5, e6, e7]
        refine ⟨m - 1, by omega, i + 1, by omega, ?_, rfl, rfl⟩
        rw [hts, Nat.mul_comm (b.toNat)]
      · have ei : i = (bl n).length := by omega
        subst ei
        rw [List.take_length, nl_bl] at h4
        simp only [↓R0, R1, rdL, rdH, isCall, istep, ibin, vcells, fillI, setR, flat, okCell, isBase, List.set, List.drop, List.take, List.append, bnds, bhi, blo, srcOf, simprocAttr, -Int.reduceAbs, h0, h4, h12, h13, c1, Fin, isEnd, resL, res1, iE, rE]
        exact ⟨_, rfl, rfl, fun k hk => by simp only [ne_nb hk, if_false]⟩
    · (first | (simp only [↓R0, R1, rdL, rdH, isCall, istep, ibin, vcells, fillI, setR, flat, okCell, isBase, List.set, List.drop, List.take, List.append, bnds, bhi, blo, srcOf, simprocAttr, -Int.reduceAbs]; done) | (simp only [↓R0, R1, rdL, rdH, isCall, istep, ibin, vcells, fillI, setR, flat, okCell, isBase, List.set, List.drop, List.take, List.append, bnds, bhi, blo, srcOf, simprocAttr, -Int.reduceAbs]; rfl) | rfl)
    · (first | (simp only [↓R0, R1, rdL, rdH, isCall, istep, ibin, vcells, fillI, setR, flat, okCell, isBase, List.set, List.drop, List.take, List.append, bnds, bhi, blo, srcOf, simprocAttr, -Int.reduceAbs, List.take_zero, nl]; done) | (simp only [↓R0, R1, rdL, rdH, isCall, istep, ibin, vcells, fillI, setR, flat, okCell, isBase, List.set, List.drop, List.take, List.append, bnds, bhi, blo, srcOf, simprocAttr, -Int.reduceAbs, List.take_zero, nl]; rfl) | rfl)
    · (first | (simp only [↓R0, R1, rdL, rdH, isCall, istep, ibin, vcells, fillI, setR, flat, okCell, isBase, List.set, List.drop, List.take, List.append, bnds, bhi, blo, srcOf, simprocAttr, -Int.reduceAbs]; done) | (simp only [↓R0, R1, rdL, rdH, isCall, istep, ibin, vcells, fillI, setR, flat, okCell, isBase, List.set, List.drop, List.take, List.append, bnds, bhi, blo, srcOf, simprocAttr, -Int.reduceAbs]; rfl) | rfl)
    · (first | (simp only [↓R0, R1, rdL, rdH, isCall, istep, ibin, vcells, fillI, setR, flat, okCell, isBase, List.set, List.drop, List.take, List.append, bnds, bhi, blo, srcOf, simprocAttr, -Int.reduceAbs]; done) | (simp only [↓R0, R1, rdL, rdH, isCall, istep, ibin, vcells, fillI, setR, flat, okCell, isBase, List.set, List.drop, List.take, List.append, bnds, bhi, blo, srcOf, simprocAttr, -Int.reduceAbs]; rfl) | rfl)
  · rw [if_neg c]
    have g : (((bl n).length : Int) > 8) = True := eq_true (by omega)
    simp only [↓R0, R1, rdL, rdH, isCall, istep, ibin, vcells, fillI, setR, flat, okCell, isBase, List.set, List.drop, List.take, List.append, bnds, bhi, blo, srcOf, simprocAttr, -Int.reduceAbs, spNNorm, hl, hn, g, Fin, isEnd, resL, res1, iE, rE]
    exact ⟨_, rfl, rfl, fun k hk => by simp only [ne_nb hk, if_false]⟩
def spNCmp : List Value → Option Value
  | [.string ⟨⟨l⟩⟩, .string ⟨⟨m⟩⟩] => if l.length ≤ 1099511627776 ∧ m.length ≤ 1099511627776 then some (.int .i64 (cmpN (nl l) (nl m))) else none
  | _ => none
def c111 : ICode :=
  (.seq (.reg [⟨(some 4), none, (.mv (.c (.int .i64 0)))⟩])
  (.seq (.reg [⟨(some 7), none, (.mv (.t 0))⟩, ⟨(some 8), none, (.call 108 [(.t 7)])⟩, ⟨(some 9), none, (.mv (.t 1))⟩, ⟨(some 10), none, (.call 108 [(.t 9)])⟩, ⟨(some 0), none, (.mv (.t 8))⟩, ⟨(some 1), none, (.mv (.t 10))⟩])
  (.seq (.seq (.reg [⟨(some 11), none, (.mv (.t 0))⟩, ⟨(some 12), none, (.lens (.t 11))⟩, ⟨(some 13), none, (.mv (.t 1))⟩, ⟨(some 14), none, (.lens (.t 13))⟩, ⟨(some 15), none, (.bin .neq (.t 12) (.t 14))⟩])
  (.cond (.t 15)
  (.seq (.seq (.reg [⟨(some 16), none, (.mv (.t 0))⟩, ⟨(some 17), none, (.lens (.t 16))⟩, ⟨(some 18), none, (.mv (.t 1))⟩, ⟨(some 19), none, (.lens (.t 18))⟩, ⟨(some 20), none, (.bin .lss (.t 17) (.t 19))⟩])
  (.cond (.t 20)
  (.seq (.reg [⟨(some 4), none, (.mv (.c (.int .i64 (-1))))⟩])
  .ret)
  .skip))
  (.seq (.reg [⟨(some 4), none, (.mv (.c (.int .i64 1)))⟩])
  .ret))
  .skip))
  (.seq (.seq (.reg [⟨(some 21), none, (.mv (.t 0))⟩, ⟨(some 22), none, (.lens (.t 21))⟩, ⟨(some 23), none, (.mv (.c (.int .i64 0)))⟩])
  (.block 0 (.loop (.seq (.reg [⟨(some 24), none, (.bin .lss (.t 23) (.t 22))⟩])
  (.seq (.cond (.t 24)
  .skip
  (.exit 0))
  (.seq (.block 1 (.seq (.reg [⟨(some 25), none, (.mv (.t 23))⟩, ⟨(some 5), none, (.mv (.t 25))⟩])
  (.seq (.reg [⟨(some 26), none, (.mv (.t 0))⟩, ⟨(some 27), none, (.lens (.t 26))⟩, ⟨(some 28), none, (.bin .sub (.t 27) (.c (.int .i64 1)))⟩, ⟨(some 29), none, (.mv (.t 5))⟩, ⟨(some 30), none, (.bin .sub (.t 28) (.t 29))⟩, ⟨(some 6), none, (.mv (.t 30))⟩])
  (.seq (.dreg [⟨(some 31), none, [], (.mv (.t 0))⟩, ⟨(some 32), none, [], (.mv (.t 6))⟩, ⟨(some 33), none, [], (.idstr (.t 31) (.t 32))⟩, ⟨(some 34), none, [], (.mv (.t 1))⟩, ⟨(some 35), none, [], (.mv (.t 6))⟩, ⟨(some 36), none, [], (.idstr (.t 34) (.t 35))⟩, ⟨(some 37), none, [], (.bin .neq (.t 33) (.t 36))⟩])
  (.cond (.t 37)
  (.seq (.seq (.dreg [⟨(some 38), none, [], (.mv (.t 0))⟩, ⟨(some 39), none, [], (.mv (.t 6))⟩, ⟨(some 40), none, [], (.idstr (.t 38) (.t 39))⟩, ⟨(some 41), none, [], (.mv (.t 1))⟩, ⟨(some 42), none, [], (.mv (.t 6))⟩, ⟨(some 43), none, [], (.idstr (.t 41) (.t 42))⟩, ⟨(some 44), none, [], (.bin .lss (.t 40) (.t 43))⟩])
  (.cond (.t 44)
  (.seq (.reg [⟨(some 4), none, (.mv (.c (.int .i64 (-1))))⟩])
  .ret)
  .skip))
  (.seq (.reg [⟨(some 4), none, (.mv (.c (.int .i64 1)))⟩])
  .ret))
  .skip)))))
  (.reg [⟨(some 45), none, (.bin .add (.t 23) (.c (.int .i64 1)))⟩, ⟨(some 23), none, (.mv (.t 45))⟩])))))))
  (.seq (.reg [⟨(some 4), none, (.mv (.c (.int .i64 0)))⟩])
  .ret)))))
theorem tr111 : trFun Tryz.prog 111 = some ⟨46, [.t 4], c111⟩ := by kernel_rfl
theorem ok_nCmp : SpecOK Tryz.prog 111 (flat spNCmp) := by
  refine flat_run (env_cons ok_nNorm (env_nil _)) mixed tr111 ?_
  intro args v h N hG
  unfold spNCmp at hG
  split at hG
  case h_2 => cases hG
  rename_i l m
  split at hG
  case isFalse => cases hG
  rename_i hl
  obtain ⟨hl, hm⟩ := hl
  cases hG
  refine ⟨rfl, by simp, ?_⟩
  have hL : (bl (nl l)).length ≤ 1099511627776 := Nat.le_trans (bl_length_nl l) hl
  have hM : (bl (nl m)).length ≤ 1099511627776 := Nat.le_trans (bl_length_nl m) hm
  generalize ha : nl l = a at *
  generalize hb : nl m = b at *
  simp only [c111, initT, List.zipIdx_cons, List.zipIdx_nil, List.map_cons, List.map_nil, Nat.reduceAdd]
  by_cases c0 : (bl a).length = (bl b).length
  · simp only [↓R0, R1, rdL, rdH, isCall, istep, ibin, vcells, fillI, setR, flat, okCell, isBase, List.set, List.drop, List.take, List.append, bnds, bhi, blo, srcOf, simprocAttr, -Int.reduceAbs, spNNorm, hl, hm, ha, hb, c0, decide_not, Bool.not_true]
    refine lp_parts (fun n tm hp nx => ∃ (i : Nat), n + i = (bl b).length ∧ tmget tm 0 = .string ⟨⟨bl a⟩⟩ ∧ tmget tm 1 = .string ⟨⟨bl b⟩⟩ ∧ tmget tm 22 = .int .i64 (bl b).length ∧ tmget tm 23 = .int .i64 i ∧
        (bl a).drop n = (bl b).drop n ∧ hp = h ∧ nx = N + 0) ?_ (bl b).length ⟨0, by omega, ?_, ?_, ?_, ?_, ?_, rfl, rfl⟩
    · intro n tm hp nx ⟨i, hn, h0, h1, h22, h23, hd, hh, hnx⟩
      subst hnx hh
      by_cases c1 : i < (bl b).length
      · obtain ⟨n, rfl⟩ : ∃ n', n = n' + 1 := ⟨n - 1, by omega⟩
        obtain ⟨p, hp⟩ : ∃ p, (bl a)[n]? = some p := ⟨_, List.getElem?_eq_getElem (by omega)⟩
        obtain ⟨q, hq⟩ : ∃ q, (bl b)[n]? = some q := ⟨_, List.getElem?_eq_getElem (by omega)⟩
        have e1 : IntKind.i64.wrap (((bl b).length : Int) - 1) = (((bl b).length - 1 : Nat) : Int) := by rw [i64_in _ (by omega)]; omega
        have e2 : IntKind.i64.wrap ((((bl b).length - 1 : Nat) : Int) - (i : Int)) = (n : Int) := by rw [i64_in _ (by omega)]; omega
        have e7 : IntKind.i64.wrap ((i : Int) + 1) = ((i + 1 : Nat) : Int) := by rw [i64_in _ (by omega)]; omega
        by_cases c2 : p = q
        · subst c2
          simp only [↓R0, R1, rdL, rdH, isCall, istep, ibin, vcells, fillI, setR, flat, okCell, isBase, List.set, List.drop, List.take, List.append, bnds, bhi, blo, srcOf, simprocAttr, -Int.reduceAbs, h0, h1, h22, h23, c1, c0, e1, e2, e7, hp, hq, decide_not, Bool.not_true]
          refine ⟨n, by omega, i + 1, by omega, rfl, ?_⟩
          rw [List.drop_eq_getElem_cons (by omega : n < (bl a).length), List.drop_eq_getElem_cons (by omega : n < (bl b).length), hd]
          rw [List.getElem?_eq_getElem (by omega)] at hp hq
          rw [Option.some.inj hp, Option.some.inj hq]
          exact ⟨rfl, rfl⟩
        · have c3 : ¬ ((p.toNat : Int) = (q.toNat : Int)) := fun e => c2 (UInt8.toNat_inj.1 (by omega))
          by_cases c4 : p.toNat < q.toNat
          · have hlt := nl_lt_of hp hq hd c4
            rw [nl_bl, nl_bl] at hlt
            rw [cmpN_lt hlt]
            have c3' : ¬ (p.toNat = q.toNat) := by omega
            simp only [↓R0, R1, rdL, rdH, isCall, istep, ibin, vcells, fillI, setR, flat, okCell, isBase, List.set, List.drop, List.take, List.append, bnds, bhi, blo, srcOf, simprocAttr, -Int.reduceAbs, h0, h1, h22, h23, c1, c0, e1, e2, e7, hp, hq, c3, c3', c4, decide_not, Bool.not_false, Fin, isEnd, resL, res1, iE, rE]
            exact ⟨_, rfl, rfl, fun k hk => by simp only [ne_nb hk, if_false]⟩
          · have hlt := nl_lt_of hq hp hd.symm (by omega)
            rw [nl_bl, nl_bl] at hlt
            rw [cmpN_gt hlt]
            have c3' : ¬ (p.toNat = q.toNat) := by omega
            simp only [↓R0, R1, rdL, rdH, isCall, istep, ibin, vcells, fillI, setR, flat, okCell, isBase, List.set, List.drop, List.take, List.append, bnds, bhi, blo, srcOf, simprocAttr, -Int.reduceAbs, h0, h1, h22, h23, c1, c0, e1, e2, e7, hp, hq, c3, c3', c4, decide_not, Bool.not_false, Fin, isEnd, resL, res1, iE, rE]
            exact ⟨_, rfl, rfl, fun k hk => by simp only [ne_nb hk, if_false]⟩
      · have en : n = 0 := by omega
        subst en
        rw [List.drop_zero, List.drop_zero] at hd
        have := bl_inj hd
        subst this
        rw [cmpN_eq]
        simp only [↓R0, R1, rdL, rdH, isCall, istep, ibin, vcells, fillI, setR, flat, okCell, isBase, List.set, List.drop, List.take, List.append, bnds, bhi, blo, srcOf, simprocAttr, -Int.reduceAbs, h0, h1, h22, h23, c1, Fin, isEnd, resL, res1, iE, rE]
        exact ⟨_, rfl, rfl, fun k hk => by simp only [ne_nb hk, if_false]⟩
    · (first | (simp only [↓R0, R1, rdL, rdH, isCall, istep, ibin, vcells, fillI, setR, flat, okCell, isBase, List.set, List.drop, List.take, List.append, bnds, bhi, blo, srcOf, simprocAttr, -Int.reduceAbs]; done) | (simp only [↓R0, R1, rdL, rdH, isCall, istep, ibin, vcells, fillI, setR, flat, okCell, isBase, List.set, List.drop, List.take, List.append, bnds, bhi, blo, srcOf, simprocAttr, -Int.reduceAbs]; rfl) | rfl)
    · (first | (simp only [↓R0, R1, rdL, rdH, isCall, istep, ibin, vcells, fillI, setR, flat, okCell, isBase, List.set, List.drop, List.take, List.append, bnds, bhi, blo, srcOf, simprocAttr, -Int.reduceAbs]; done) | (simp only [↓R0, R1, rdL, rdH, isCall, istep, ibin, vcells, fillI, setR, flat, okCell, isBase, List.set, List.drop, List.take, List.append, bnds, bhi, blo, srcOf, simprocAttr, -Int.reduceAbs]; rfl) | rfl)
    · (first | (simp only [↓R0, R1, rdL, rdH, isCall, istep, ibin, vcells, fillI, setR, flat, okCell, isBase, List.set, List.drop, List.take, List.append, bnds, bhi, blo, srcOf, simprocAttr, -Int.reduceAbs]; done) | (simp only [↓R0, R1, rdL, rdH, isCall, istep, ibin, vcells, fillI, setR, flat, okCell, isBase, List.set, List.drop, List.take, List.append, bnds, bhi, blo, srcOf, simprocAttr, -Int.reduceAbs]; rfl) | rfl)
    · (first | (simp only [↓R0, R1, rdL, rdH, isCall, istep, ibin, vcells, fillI, setR, flat, okCell, isBase, List.set, List.drop, List.take, List.append, bnds, bhi, blo, srcOf, simprocAttr, -Int.reduceAbs]; done) | (simp only [↓R0, R1, rdL, rdH, isCall, istep, ibin, vcells, fillI, setR, flat, okCell, isBase, List.set, List.drop, List.take, List.append, bnds, bhi, blo, srcOf, simprocAttr, -Int.reduceAbs]; rfl) | rfl)
    · rw [← c0, List.drop_length, c0, List.drop_length]
  · by_cases c1 : (bl a).length < (bl b).length
    · rw [cmpN_lt (bl_length_lt c1)]
      simp only [↓R0, R1, rdL, rdH, isCall, istep, ibin, vcells, fillI, setR, flat, okCell, isBase, List.set, List.drop, List.take, List.append, bnds, bhi, blo, srcOf, simprocAttr, -Int.reduceAbs, spNNorm, hl, hm, ha, hb, c0, c1, decide_not, Bool.not_false, Fin, isEnd, resL, res1, iE, rE]
      exact ⟨_, rfl, rfl, fun k hk => by simp only [ne_nb hk, if_false]⟩
    · rw [cmpN_gt (bl_length_lt (by omega))]
      simp only [↓R0, R1, rdL, rdH, isCall, istep, ibin, vcells, fillI, setR, flat, okCell, isBase, List.set, List.drop, List.take, List.append, bnds, bhi, blo, srcOf, simprocAttr, -Int.reduceAbs, spNNorm, hl, hm, ha, hb, c0, c1, decide_not, Bool.not_false, Fin, isEnd, resL, res1, iE, rE]
      exact ⟨_, rfl, rfl, fun k hk => by simp only [ne_nb hk, if_false]⟩
def spNAdd : List Value → Option Value
  | [.string ⟨⟨l⟩⟩, .string ⟨⟨m⟩⟩] => if l.length ≤ 68719476736 ∧ m.length ≤ 68719476736 then some (.string ⟨⟨bl (nl l + nl m)⟩⟩) else none
  | _ => none
def c79 : ICode :=
  (.seq (.reg [⟨(some 4), none, (.mv (.c (.string ⟨⟨[]⟩⟩)))⟩])
  (.seq (.reg [⟨(some 11), none, (.mv (.t 0))⟩, ⟨(some 12), none, (.call 110 [(.t 11)])⟩, ⟨(some 13), none, (.mv (.t 1))⟩, ⟨(some 14), none, (.call 110 [(.t 13)])⟩, ⟨(some 5), none, (.mv (.t 12))⟩, ⟨(some 6), none, (.mv (.t 14))⟩])
  (.seq (.seq (.reg [⟨(some 15), none, (.mv (.t 5))⟩, ⟨(some 16), none, (.lensl (.t 15))⟩, ⟨(some 17), none, (.mv (.t 6))⟩, ⟨(some 18), none, (.lensl (.t 17))⟩, ⟨(some 19), none, (.bin .lss (.t 16) (.t 18))⟩])
  (.cond (.t 19)
  (.reg [⟨(some 20), none, (.mv (.t 6))⟩, ⟨(some 21), none, (.mv (.t 5))⟩, ⟨(some 5), none, (.mv (.t 20))⟩, ⟨(some 6), none, (.mv (.t 21))⟩])
  .skip))
  (.seq (.reg [⟨(some 22), none, (.mv (.t 5))⟩, ⟨(some 23), none, (.lensl (.t 22))⟩, ⟨(some 24), none, (.bin .add (.t 23) (.c (.int .i64 1)))⟩, ⟨(some 25), none, (.mkslice 118 1 4 [(.int .u32 0)] (.t 24) (.t 24))⟩, ⟨(some 7), none, (.mv (.t 25))⟩])
  (.seq (.reg [⟨(some 8), none, (.mv (.c (.int .u32 0)))⟩])
  (.seq (.seq (.reg [⟨(some 26), none, (.mv (.t 5))⟩, ⟨(some 27), none, (.lensl (.t 26))⟩, ⟨(some 28), none, (.mv (.c (.int .i64 0)))⟩])
  (.block 0 (.loop (.seq (.reg [⟨(some 29), none, (.bin .lss (.t 28) (.t 27))⟩])
  (.seq (.cond (.t 29)
  .skip
  (.exit 0))
  (.seq (.block 1 (.seq (.reg [⟨(some 30), none, (.mv (.t 28))⟩, ⟨(some 9), none, (.mv (.t 30))⟩])
  (.seq (.reg [⟨(some 10), none, (.mv (.c (.int .u32 0)))⟩])
  (.seq (.seq (.reg [⟨(some 31), none, (.mv (.t 9))⟩, ⟨(some 32), none, (.mv (.t 6))⟩, ⟨(some 33), none, (.lensl (.t 32))⟩, ⟨(some 34), none, (.bin .lss (.t 31) (.t 33))⟩])
  (.cond (.t 34)
  (.reg [⟨(some 35), none, (.mv (.t 6))⟩, ⟨(some 36), none, (.mv (.t 9))⟩, ⟨(some 37), none, (.ixsl 1 (.t 35) (.t 36))⟩, ⟨(some 38), none, (.load false 1 (.t 37))⟩, ⟨(some 10), none, (.mv (.t 38))⟩])
  .skip))
  (.reg [⟨(some 40), none, (.mv (.t 7))⟩, ⟨(some 41), none, (.mv (.t 9))⟩, ⟨(some 42), none, (.mv (.t 5))⟩, ⟨(some 43), none, (.mv (.t 9))⟩, ⟨(some 44), none, (.ixsl 1 (.t 42) (.t 43))⟩, ⟨(some 45), none, (.load false 1 (.t 44))⟩, ⟨(some 46), none, (.mv (.t 10))⟩, ⟨(some 47), none, (.mv (.t 8))⟩, ⟨(some 48), none, (.call 122 [(.t 45), (.t 46), (.t 47)])⟩, ⟨(some 39), none, (.mv (.t 48))⟩, ⟨(some 49), none, (.ext (.t 39) 0)⟩, ⟨(some 50), none, (.ext (.t 39) 1)⟩, ⟨(some 51), none, (.ixsl 1 (.t 40) (.t 41))⟩, ⟨none, none, (.store 1 (.t 51) (.t 49))⟩, ⟨(some 8), none, (.mv (.t 50))⟩])))))
  (.reg [⟨(some 52), none, (.bin .add (.t 28) (.c (.int .i64 1)))⟩, ⟨(some 28), none, (.mv (.t 52))⟩])))))))
  (.seq (.reg [⟨(some 53), none, (.mv (.t 7))⟩, ⟨(some 54), none, (.mv (.t 5))⟩, ⟨(some 55), none, (.lensl (.t 54))⟩, ⟨(some 56), none, (.mv (.t 8))⟩, ⟨(some 57), none, (.ixsl 1 (.t 53) (.t 55))⟩, ⟨none, none, (.store 1 (.t 57) (.t 56))⟩])
  (.seq (.reg [⟨(some 58), none, (.mv (.t 7))⟩, ⟨(some 59), none, (.call 113 [(.t 58)])⟩, ⟨(some 4), none, (.mv (.t 59))⟩])
  .ret))))))))
theorem tr79 : trFun Tryz.prog 79 = some ⟨60, [.t 4], c79⟩ := by kernel_rfl
theorem lk_len {n k : Nat} (h : (bl n).length ≤ 4 * k) : lk n ≤ k := by unfold lk; omega
theorem lm_out {n i : Nat} (h : ¬ i < lk n) : lm n i = 0 := lm_of_lt' (lk_lt n) (by omega)
set_option maxHeartbeats 1000000 in
theorem ok_nAdd : SpecOK Tryz.prog 79 (flat spNAdd) := by
  refine flat_run (env_cons ok_nlimbs (env_cons ok_nmag (env_cons ok_add32 (env_nil _)))) mixed tr79 ?_
  intro args v h N hG
  unfold spNAdd at hG
  split at hG
  case h_2 => cases hG
  rename_i l m
  split at hG
  case isFalse => cases hG
  rename_i hl
  obtain ⟨hl, hm⟩ := hl
  cases hG
  refine ⟨rfl, by simp, ?_⟩
  have hL : lk (nl l) ≤ 17179869184 := lk_len (Nat.le_trans (bl_length_nl l) (by omega))
  have hM : lk (nl m) ≤ 17179869184 := lk_len (Nat.le_trans (bl_length_nl m) (by omega))
  have hl' : l.length ≤ 1099511627776 := by omega
  have hm' : m.length ≤ 1099511627776 := by omega
  simp only [c79, initT, List.zipIdx_cons, List.zipIdx_nil, List.map_cons, List.map_nil, Nat.reduceAdd]
  simp only [↓R0, R1, rdL, rdH, isCall, istep, ibin, vcells, fillI, setR, flat, okCell, isBase, List.set, List.drop, List.take, List.append, bnds, bhi, blo, srcOf, simprocAttr, -Int.reduceAbs, nwS, spLimbs, hl', hm']
  by_cases c0 : lk (nl l) < lk (nl m)
  · have hab : lk (nl l) ≤ lk (nl m) := by omega
    rw [Nat.add_comm (nl l)]
    generalize nl l = bb at *
    generalize nl m = aa at *
    simp only [↓R0, R1, rdL, rdH, isCall, istep, ibin, vcells, fillI, setR, flat, okCell, isBase, List.set, List.drop, List.take, List.append, bnds, bhi, blo, srcOf, simprocAttr, -Int.reduceAbs, c0]
    have g1 : IntKind.i64.wrap ((lk aa : Int) + 1) = ((lk aa + 1 : Nat) : Int) := by rw [i64_in _ (by omega)]; omega
    have g2 : 4 * ((lk aa + 1 : Nat) : Int) ≤ 281474976710656 := by omega
    have g3 : ((lk aa + 1 : Nat) : Int) ≤ 9223372036854775807 := by omega
    simp only [↓R0, R1, rdL, rdH, isCall, istep, ibin, vcells, fillI, setR, flat, okCell, isBase, List.set, List.drop, List.take, List.append, bnds, bhi, blo, srcOf, simprocAttr, -Int.reduceAbs, g1, g2, g3, tb_rep]
    clear g1 g2 g3
    refine lp_parts (fun m tm hp nx => ∃ (i : Nat) (f : Nat → Nat), m + i = lk aa ∧ tmget tm 5 = .slice (some ⟨N + 1, 0, none⟩) (lk aa) (lk aa) ∧ tmget tm 6 = .slice (some ⟨N + 0, 0, none⟩) (lk bb) (lk bb) ∧
        tmget tm 7 = .slice (some ⟨N + 2, 0, none⟩) (lk aa + 1) (lk aa + 1) ∧ tmget tm 8 = .int .u32 (cyA aa bb i : Nat) ∧ tmget tm 27 = .int .i64 (lk aa) ∧ tmget tm 28 = .int .i64 i ∧
        hget hp (N + 1) = some ⟨118, 1, false, tb (lk aa) (lm aa)⟩ ∧ hget hp (N + 0) = some ⟨118, 1, false, tb (lk bb) (lm bb)⟩ ∧
        hget hp (N + 2) = some ⟨118, 1, false, tb (lk aa + 1) f⟩ ∧ (∀ j, j < i → f j = lm (aa + bb) j) ∧ (∀ q, q < N → hget hp q = hget h q) ∧ nx = N + 3) ?_ (lk aa)
      ⟨0, fun _ => 0, by omega, ?_, ?_, ?_, ?_, ?_, ?_, ?_, ?_, ?_, fun j hj => by omega, ?_, rfl⟩
    · intro m tm hp nx ⟨i, f, hm, h5, h6, h7, h8, h27, h28, hb1, hb2, hb3, hf, hh, hnx⟩
      subst hnx
      have b1 := lm_lt aa i
      have b2 := lm_lt bb i
      have b3 := cyA_le aa bb i
      have v1 : ((lm aa i : Nat) : Int) < 4294967296 := by omega
      have v2 : ((lm bb i : Nat) : Int) < 4294967296 := by omega
      have v3 : ((cyA aa bb i : Nat) : Int) ≤ 1 := by omega
      have v4 : ((lm aa i : Int) + lm bb i + cyA aa bb i) % 4294967296 = (lm (aa + bb) i : Int) := by rw [add_limb]; omega
      have v5 : ((lm aa i : Int) + lm bb i + cyA aa bb i) / 4294967296 = (cyA aa bb (i + 1) : Int) := by rw [cyA_succ]; omega
      have e7 : IntKind.i64.wrap ((i : Int) + 1) = ((i + 1 : Nat) : Int) := by rw [i64_in _ (by omega)]; omega
      by_cases c1 : i < lk aa
      · have c1' : i < lk aa + 1 := by omega
        have c1'' : i ≤ lk aa := by omega
        have k1 := tb_get' (lm aa) c1
        have hset : ∀ j, j < i + 1 → (fun j => if j = i then lm (aa + bb) i else f j) j = lm (aa + bb) j := by
          intro j hj
          simp only
          by_cases e : j = i
          · rw [if_pos e, e]
          · rw [if_neg e]; exact hf j (by omega)
        by_cases c2 : i < lk bb
        · have k2 := tb_get' (lm bb) c2
          simp only [↓R0, R1, rdL, rdH, isCall, istep, ibin, vcells, fillI, setR, flat, okCell, isBase, List.set, List.drop, List.take, List.append, bnds, bhi, blo, srcOf, simprocAttr, -Int.reduceAbs, h5, h6, h7, h8, h27, h28, hb1, hb2, hb3, c1, c1', c1'', c2, k1, k2, e7, spAdd32, v1, v2, v3, v4, v5, tb_length, tb_set]
          refine ⟨m - 1, by omega, i + 1, _, by omega, rfl, rfl, rfl, hset, ?_⟩
          intro q hq
          simp only [if_neg (show ¬ N + 2 = q by omega)]
          exact hh q hq
        · have z2 := lm_out c2
          rw [z2] at v4 v5
          have z0 : ((0 : Nat) : Int) = 0 := rfl
          rw [z0] at v4 v5
          simp only [↓R0, R1, rdL, rdH, isCall, istep, ibin, vcells, fillI, setR, flat, okCell, isBase, List.set, List.drop, List.take, List.append, bnds, bhi, blo, srcOf, simprocAttr, -Int.reduceAbs, h5, h6, h7, h8, h27, h28, hb1, hb2, hb3, c1, c1', c1'', c2, k1, e7, spAdd32, v1, v3, v4, v5, tb_length, tb_set]
          refine ⟨m - 1, by omega, i + 1, _, by omega, rfl, rfl, rfl, hset, ?_⟩
          intro q hq
          simp only [if_neg (show ¬ N + 2 = q by omega)]
          exact hh q hq
      · have ei : i = lk aa := by omega
        subst ei
        have c3 : lk aa < lk aa + 1 := by omega
        have c4 : ((lk aa : Nat) : Int) < ((lk aa + 1 : Nat) : Int) := by omega
        have c5 : lk aa + 1 ≤ 34359738368 := by omega
        have hA := lk_lt aa
        have hB : bb < 4294967296 ^ lk aa := Nat.lt_of_lt_of_le (lk_lt bb) (Nat.pow_le_pow_right (by omega) hab)
        have hS : aa + bb < 4294967296 ^ (lk aa + 1) := by rw [Nat.pow_succ]; omega
        have hcy : cyA aa bb (lk aa) = lm (aa + bb) (lk aa) := by
          rw [lm_top hS]; unfold cyA; rw [Nat.mod_eq_of_lt hA, Nat.mod_eq_of_lt hB]
        have htb : (tb (lk aa + 1) fun j => if j = lk aa then cyA aa bb (lk aa) else f j) = tb (lk aa + 1) (lm (aa + bb)) := by
          apply tb_congr
          intro j hj
          by_cases e : j = lk aa
          · rw [if_pos e, e, hcy]
          · rw [if_neg e]; exact hf j (by omega)
        have hud : ud (tb (lk aa + 1) (lm (aa + bb))) = aa + bb := by rw [ud_tb, Nat.mod_eq_of_lt hS]
        simp only [↓R0, R1, rdL, rdH, isCall, istep, ibin, vcells, fillI, setR, flat, okCell, isBase, List.set, List.drop, List.take, List.append, bnds, bhi, blo, srcOf, simprocAttr, -Int.reduceAbs, h5, h6, h7, h8, h27, h28, hb1, hb2, hb3, c1, c3, c4, tb_length, tb_set, htb, rdS, spMag, shows, tb_all, uok_lm, c5, hud, Fin, isEnd, resL, res1, iE, rE]
        first | exact ⟨_, rfl, rfl, hh⟩ | exact ⟨_, rfl, rfl, fun k hk => by simp only [ne_nb hk, if_false]; exact hh k hk⟩
    · (first | (simp only [↓R0, R1, rdL, rdH, isCall, istep, ibin, vcells, fillI, setR, flat, okCell, isBase, List.set, List.drop, List.take, List.append, bnds, bhi, blo, srcOf, simprocAttr, -Int.reduceAbs]; done) | (simp only [↓R0, R1, rdL, rdH, isCall, istep, ibin, vcells, fillI, setR, flat, okCell, isBase, List.set, List.drop, List.take, List.append, bnds, bhi, blo, srcOf, simprocAttr, -Int.reduceAbs]; rfl) | rfl)
    · (first | (simp only [↓R0, R1, rdL, rdH, isCall, istep, ibin, vcells, fillI, setR, flat, okCell, isBase, List.set, List.drop, List.take, List.append, bnds, bhi, blo, srcOf, simprocAttr, -Int.reduceAbs]; done) | (simp only [↓R0, R1, rdL, rdH, isCall, istep, ibin, vcells, fillI, setR, flat, okCell, isBase, List.set, List.drop, List.take, List.append, bnds, bhi, blo, srcOf, simprocAttr, -Int.reduceAbs]; rfl) | rfl)
    · (first | (simp only [↓R0, R1, rdL, rdH, isCall, istep, ibin, vcells, fillI, setR, flat, okCell, isBase, List.set, List.drop, List.take, List.append, bnds, bhi, blo, srcOf, simprocAttr, -Int.reduceAbs]; done) | (simp only [↓R0, R1, rdL, rdH, isCall, istep, ibin, vcells, fillI, setR, flat, okCell, isBase, List.set, List.drop, List.take, List.append, bnds, bhi, blo, srcOf, simprocAttr, -Int.reduceAbs]; rfl) | rfl)
    · (first | (simp only [↓R0, R1, rdL, rdH, isCall, istep, ibin, vcells, fillI, setR, flat, okCell, isBase, List.set, List.drop, List.take, List.append, bnds, bhi, blo, srcOf, simprocAttr, -Int.reduceAbs, cyA_zero]; done) | (simp only [↓R0, R1, rdL, rdH, isCall, istep, ibin, vcells, fillI, setR, flat, okCell, isBase, List.set, List.drop, List.take, List.append, bnds, bhi, blo, srcOf, simprocAttr, -Int.reduceAbs, cyA_zero]; rfl) | rfl)
    · (first | (simp only [↓R0, R1, rdL, rdH, isCall, istep, ibin, vcells, fillI, setR, flat, okCell, isBase, List.set, List.drop, List.take, List.append, bnds, bhi, blo, srcOf, simprocAttr, -Int.reduceAbs]; done) | (simp only [↓R0, R1, rdL, rdH, isCall, istep, ibin, vcells, fillI, setR, flat, okCell, isBase, List.set, List.drop, List.take, List.append, bnds, bhi, blo, srcOf, simprocAttr, -Int.reduceAbs]; rfl) | rfl)
    · (first | (simp only [↓R0, R1, rdL, rdH, isCall, istep, ibin, vcells, fillI, setR, flat, okCell, isBase, List.set, List.drop, List.take, List.append, bnds, bhi, blo, srcOf, simprocAttr, -Int.reduceAbs]; done) | (simp only [↓R0, R1, rdL, rdH, isCall, istep, ibin, vcells, fillI, setR, flat, okCell, isBase, List.set, List.drop, List.take, List.append, bnds, bhi, blo, srcOf, simprocAttr, -Int.reduceAbs]; rfl) | rfl)
    · (first | (simp only [↓R0, R1, rdL, rdH, isCall, istep, ibin, vcells, fillI, setR, flat, okCell, isBase, List.set, List.drop, List.take, List.append, bnds, bhi, blo, srcOf, simprocAttr, -Int.reduceAbs]; done) | (simp only [↓R0, R1, rdL, rdH, isCall, istep, ibin, vcells, fillI, setR, flat, okCell, isBase, List.set, List.drop, List.take, List.append, bnds, bhi, blo, srcOf, simprocAttr, -Int.reduceAbs]; rfl) | rfl)
    · (first | (simp only [↓R0, R1, rdL, rdH, isCall, istep, ibin, vcells, fillI, setR, flat, okCell, isBase, List.set, List.drop, List.take, List.append, bnds, bhi, blo, srcOf, simprocAttr, -Int.reduceAbs]; done) | (simp only [↓R0, R1, rdL, rdH, isCall, istep, ibin, vcells, fillI, setR, flat, okCell, isBase, List.set, List.drop, List.take, List.append, bnds, bhi, blo, srcOf, simprocAttr, -Int.reduceAbs]; rfl) | rfl)
    · (first | (simp only [↓R0, R1, rdL, rdH, isCall, istep, ibin, vcells, fillI, setR, flat, okCell, isBase, List.set, List.drop, List.take, List.append, bnds, bhi, blo, srcOf, simprocAttr, -Int.reduceAbs]; done) | (simp only [↓R0, R1, rdL, rdH, isCall, istep, ibin, vcells, fillI, setR, flat, okCell, isBase, List.set, List.drop, List.take, List.append, bnds, bhi, blo, srcOf, simprocAttr, -Int.reduceAbs]; rfl) | rfl)
    · intro q hq
      simp only [↓R0, R1, rdL, rdH, isCall, istep, ibin, vcells, fillI, setR, flat, okCell, isBase, List.set, List.drop, List.take, List.append, bnds, bhi, blo, srcOf, simprocAttr, -Int.reduceAbs, hget_new hq]
  · have hab : lk (nl m) ≤ lk (nl l) := by omega
    generalize nl l = aa at *
    generalize nl m = bb at *
    simp only [↓R0, R1, rdL, rdH, isCall, istep, ibin, vcells, fillI, setR, flat, okCell, isBase, List.set, List.drop, List.take, List.append, bnds, bhi, blo, srcOf, simprocAttr, -Int.reduceAbs, c0]
    have g1 : IntKind.i64.wrap ((lk aa : Int) + 1) = ((lk aa + 1 : Nat) : Int) := by rw [i64_in _ (by omega)]; omega
    have g2 : 4 * ((lk aa + 1 : Nat) : Int) ≤ 281474976710656 := by omega
    have g3 : ((lk aa + 1 : Nat) : Int) ≤ 9223372036854775807 := by omega
    simp only [↓R0, R1, rdL, rdH, isCall, istep, ibin, vcells, fillI, setR, flat, okCell, isBase, List.set, List.drop, List.take, List.append, bnds, bhi, blo, srcOf, simprocAttr, -Int.reduceAbs, g1, g2, g3, tb_rep]
    clear g1 g2 g3
    refine lp_parts (fun m tm hp nx => ∃ (i : Nat) (f : Nat → Nat), m + i = lk aa ∧ tmget tm 5 = .slice (some ⟨N + 0, 0, none⟩) (lk aa) (lk aa) ∧ tmget tm 6 = .slice (some ⟨N + 1, 0, none⟩) (lk bb) (lk bb) ∧
        tmget tm 7 = .slice (some ⟨N + 2, 0, none⟩) (lk aa + 1) (lk aa + 1) ∧ tmget tm 8 = .int .u32 (cyA aa bb i : Nat) ∧ tmget tm 27 = .int .i64 (lk aa) ∧ tmget tm 28 = .int .i64 i ∧
        hget hp (N + 0) = some ⟨118, 1, false, tb (lk aa) (lm aa)⟩ ∧ hget hp (N + 1) = some ⟨118, 1, false, tb (lk bb) (lm bb)⟩ ∧
        hget hp (N + 2) = some ⟨118, 1, false, tb (lk aa + 1) f⟩ ∧ (∀ j, j < i → f j = lm (aa + bb) j) ∧ (∀ q, q < N → hget hp q = hget h q) ∧ nx = N + 3) ?_ (lk aa)
      ⟨0, fun _ => 0, by omega, ?_, ?_, ?_, ?_, ?_, ?_, ?_, ?_, ?_, fun j hj => by omega, ?_, rfl⟩
    · intro m tm hp nx ⟨i, f, hm, h5, h6, h7, h8, h27, h28, hb1, hb2, hb3, hf, hh, hnx⟩
      subst hnx
      have b1 := lm_lt aa i
      have b2 := lm_lt bb i
      have b3 := cyA_le aa bb i
      have v1 : ((lm aa i : Nat) : Int) < 4294967296 := by omega
      have v2 : ((lm bb i : Nat) : Int) < 4294967296 := by omega
      have v3 : ((cyA aa bb i : Nat) : Int) ≤ 1 := by omega
      have v4 : ((lm aa i : Int) + lm bb i + cyA aa bb i) % 4294967296 = (lm (aa + bb) i : Int) := by rw [add_limb]; omega
      have v5 : ((lm aa i : Int) + lm bb i + cyA aa bb i) / 4294967296 = (cyA aa bb (i + 1) : Int) := by rw [cyA_succ]; omega
      have e7 : IntKind.i64.wrap ((i : Int) + 1) = ((i + 1 : Nat) : Int) := by rw [i64_in _ (by omega)]; omega
      by_cases c1 : i < lk aa
      · have c1' : i < lk aa + 1 := by omega
        have c1'' : i ≤ lk aa := by omega
        have k1 := tb_get' (lm aa) c1
        have hset : ∀ j, j < i + 1 → (fun j => if j = i then lm (aa + bb) i else f j) j = lm (aa + bb) j := by
          intro j hj
          simp only
          by_cases e : j = i
          · rw [if_pos e, e]
          · rw [if_neg e]; exact hf j (by omega)
        by_cases c2 : i < lk bb
        · have k2 := tb_get' (lm bb) c2
          simp only [↓R0, R1, rdL, rdH, isCall, istep, ibin, vcells, fillI, setR, flat, okCell, isBase, List.set, List.drop, List.take, List.append, bnds, bhi, blo, srcOf, simprocAttr, -Int.reduceAbs, h5, h6, h7, h8, h27, h28, hb1, hb2, hb3, c1, c1', c1'', c2, k1, k2, e7, spAdd32, v1, v2, v3, v4, v5, tb_length, tb_set]
          refine ⟨m - 1, by omega, i + 1, _, by omega, rfl, rfl, rfl, hset, ?_⟩
          intro q hq
          simp only [if_neg (show ¬ N + 2 = q by omega)]
          exact hh q hq
        · have z2 := lm_out c2
          rw [z2] at v4 v5
          have z0 : ((0 : Nat) : Int) = 0 := rfl
          rw [z0] at v4 v5
          simp only [↓R0, R1, rdL, rdH, isCall, istep, ibin, vcells, fillI, setR, flat, okCell, isBase, List.set, List.drop, List.take, List.append, bnds, bhi, blo, srcOf, simprocAttr, -Int.reduceAbs, h5, h6, h7, h8, h27, h28, hb1, hb2, hb3, c1, c1', c1'', c2, k1, e7, spAdd32, v1, v3, v4, v5, tb_length, tb_set]
          refine ⟨m - 1, by omega, i + 1, _, by omega, rfl, rfl, rfl, hset, ?_⟩
          intro q hq
          simp only [if_neg (show ¬ N + 2 = q by omega)]
          exact hh q hq
      · have ei : i = lk aa := by omega
        subst ei
        have c3 : lk aa < lk aa + 1 := by omega
        have c4 : ((lk aa : Nat) : Int) < ((lk aa + 1 : Nat) : Int) := by omega
        have c5 : lk aa + 1 ≤ 34359738368 := by omega
        have hA := lk_lt aa
        have hB : bb < 4294967296 ^ lk aa := Nat.lt_of_lt_of_le (lk_lt bb) (Nat.pow_le_pow_right (by omega) hab)
        have hS : aa + bb < 4294967296 ^ (lk aa + 1) := by rw [Nat.pow_succ]; omega
        have hcy : cyA aa bb (lk aa) = lm (aa + bb) (lk aa) := by
          rw [lm_top hS]; unfold cyA; rw [Nat.mod_eq_of_lt hA, Nat.mod_eq_of_lt hB]
        have htb : (tb (lk aa + 1) fun j => if j = lk aa then cyA aa bb (lk aa) else f j) = tb (lk aa + 1) (lm (aa + bb)) := by
          apply tb_congr
          intro j hj
          by_cases e : j = lk aa
          · rw [if_pos e, e, hcy]
          · rw [if_neg e]; exact hf j (by omega)
        have hud : ud (tb (lk aa + 1) (lm (aa + bb))) = aa + bb := by rw [ud_tb, Nat.mod_eq_of_lt hS]
        simp only [↓R0, R1, rdL, rdH, isCall, istep, ibin, vcells, fillI, setR, flat, okCell, isBase, List.set, List.drop, List.take, List.append, bnds, bhi, blo, srcOf, simprocAttr, -Int.reduceAbs, h5, h6, h7, h8, h27, h28, hb1, hb2, hb3, c1, c3, c4, tb_length, tb_set, htb, rdS, spMag, shows, tb_all, uok_lm, c5, hud, Fin, isEnd, resL, res1, iE, rE]
        first | exact ⟨_, rfl, rfl, hh⟩ | exact ⟨_, rfl, rfl, fun k hk => by simp only [ne_nb hk, if_false]; exact hh k hk⟩
    · (first | (simp only [↓R0, R1, rdL, rdH, isCall, istep, ibin, vcells, fillI, setR, flat, okCell, isBase, List.set, List.drop, List.take, List.append, bnds, bhi, blo, srcOf, simprocAttr, -Int.reduceAbs]; done) | (simp only [↓R0, R1, rdL, rdH, isCall, istep, ibin, vcells, fillI, setR, flat, okCell, isBase, List.set, List.drop, List.take, List.append, bnds, bhi, blo, srcOf, simprocAttr, -Int.reduceAbs]; rfl) | rfl)
    · (first | (simp only [↓R0, R1, rdL, rdH, isCall, istep, ibin, vcells, fillI, setR, flat, okCell, isBase, List.set, List.drop, List.take, List.append, bnds, bhi, blo, srcOf, simprocAttr, -Int.reduceAbs]; done) | (simp only [↓R0, R1, rdL, rdH, isCall, istep, ibin, vcells, fillI, setR, flat, okCell, isBase, List.set, List.drop, List.take, List.append, bnds, bhi, blo, srcOf, simprocAttr, -Int.reduceAbs]; rfl) | rfl)
    · (first | (simp only [↓R0, R1, rdL, rdH, isCall, istep, ibin, vcells, fillI, setR, flat, okCell, isBase, List.set, List.drop, List.take, List.append, bnds, bhi, blo, srcOf, simprocAttr, -Int.reduceAbs]; done) | (simp only [↓R0, R1, rdL, rdH, isCall, istep, ibin, vcells, fillI, setR, flat, okCell, isBase, List.set, List.drop, List.take, List.append, bnds, bhi, blo, srcOf, simprocAttr, -Int.reduceAbs]; rfl) | rfl)
    · (first | (simp only [↓R0, R1, rdL, rdH, isCall, istep, ibin, vcells, fillI, setR, flat, okCell, isBase, List.set, List.drop, List.take, List.append, bnds, bhi, blo, srcOf, simprocAttr, -Int.reduceAbs, cyA_zero]; done) | (simp only [↓R0, R1, rdL, rdH, isCall, istep, ibin, vcells, fillI, setR, flat, okCell, isBase, List.set, List.drop, List.take, List.append, bnds, bhi, blo, srcOf, simprocAttr, -Int.reduceAbs, cyA_zero]; rfl) | rfl)
    · (first | (simp only [↓R0, R1, rdL, rdH, isCall, istep, ibin, vcells, fillI, setR, flat, okCell, isBase, List.set, List.drop, List.take, List.append, bnds, bhi, blo, srcOf, simprocAttr, -Int.reduceAbs]; done) | (simp only [↓R0, R1, rdL, rdH, isCall, istep, ibin, vcells, fillI, setR, flat, okCell, isBase, List.set, List.drop, List.take, List.append, bnds, bhi, blo, srcOf, simprocAttr, -Int.reduceAbs]; rfl) | rfl)
    · (first | (simp only [↓R0, R1, rdL, rdH, isCall, istep, ibin, vcells, fillI, setR, flat, okCell, isBase, List.set, List.drop, List.take, List.append, bnds, bhi, blo, srcOf, simprocAttr, -Int.reduceAbs]; done) | (simp only [↓R0, R1, rdL, rdH, isCall, istep, ibin, vcells, fillI, setR, flat, okCell, isBase, List.set, List.drop, List.take, List.append, bnds, bhi, blo, srcOf, simprocAttr, -Int.reduceAbs]; rfl) | rfl)
    · (first | (simp only [↓R0, R1, rdL, rdH, isCall, istep, ibin, vcells, fillI, setR, flat, okCell, isBase, List.set, List.drop, List.take, List.append, bnds, bhi, blo, srcOf, simprocAttr, -Int.reduceAbs]; done) | (simp only [↓R0, R1, rdL, rdH, isCall, istep, ibin, vcells, fillI, setR, flat, okCell, isBase, List.set, List.drop, List.take, List.append, bnds, bhi, blo, srcOf, simprocAttr, -Int.reduceAbs]; rfl) | rfl)
    · (first | (simp only [↓R0, R1, rdL, rdH, isCall, istep, ibin, vcells, fillI, setR, flat, okCell, isBase, List.set, List.drop, List.take, List.append, bnds, bhi, blo, srcOf, simprocAttr, -Int.reduceAbs]; done) | (simp only [↓R0, R1, rdL, rdH, isCall, istep, ibin, vcells, fillI, setR, flat, okCell, isBase, List.set, List.drop, List.take, List.append, bnds, bhi, blo, srcOf, simprocAttr, -Int.reduceAbs]; rfl) | rfl)
    · (first | (simp only [↓R0, R1, rdL, rdH, isCall, istep, ibin, vcells, fillI, setR, flat, okCell, isBase, List.set, List.drop, List.take, List.append, bnds, bhi, blo, srcOf, simprocAttr, -Int.reduceAbs]; done) | (simp only [↓R0, R1, rdL, rdH, isCall, istep, ibin, vcells, fillI, setR, flat, okCell, isBase, List.set, List.drop, List.take, List.append, bnds, bhi, blo, srcOf, simprocAttr, -Int.reduceAbs]; rfl) | rfl)
    · intro q hq
      simp only [↓R0, R1, rdL, rdH, isCall, istep, ibin, vcells, fillI, setR, flat, okCell, isBase, List.set, List.drop, List.take, List.append, bnds, bhi, blo, srcOf, simprocAttr, -Int.reduceAbs, hget_new hq]
def spNSub : List Value → Option Value
  | [.string ⟨⟨l⟩⟩, .string ⟨⟨m⟩⟩] => if l.length ≤ 68719476736 ∧ m.length ≤ 68719476736 then
      (if nl l < nl m then some (.tuple ⟨[.string ⟨⟨[]⟩⟩, .bool false]⟩) else some (.tuple ⟨[.string ⟨⟨bl (nl l - nl m)⟩⟩, .bool true]⟩)) else none
  | _ => none
def c80 : ICode :=
  (.seq (.reg [⟨(some 4), none, (.mv (.c (.string ⟨⟨[]⟩⟩)))⟩, ⟨(some 5), none, (.mv (.c (.bool false)))⟩])
  (.seq (.seq (.reg [⟨(some 12), none, (.mv (.t 0))⟩, ⟨(some 13), none, (.mv (.t 1))⟩, ⟨(some 14), none, (.call 111 [(.t 12), (.t 13)])⟩, ⟨(some 15), none, (.bin .lss (.t 14) (.c (.int .i64 0)))⟩])
  (.cond (.t 15)
  (.seq (.reg [⟨(some 4), none, (.mv (.c (.string ⟨⟨[]⟩⟩)))⟩, ⟨(some 5), none, (.mv (.c (.bool false)))⟩])
  .ret)
  .skip))
  (.seq (.reg [⟨(some 16), none, (.mv (.t 0))⟩, ⟨(some 17), none, (.call 110 [(.t 16)])⟩, ⟨(some 18), none, (.mv (.t 1))⟩, ⟨(some 19), none, (.call 110 [(.t 18)])⟩, ⟨(some 6), none, (.mv (.t 17))⟩, ⟨(some 7), none, (.mv (.t 19))⟩])
  (.seq (.reg [⟨(some 20), none, (.mv (.t 6))⟩, ⟨(some 21), none, (.lensl (.t 20))⟩, ⟨(some 22), none, (.mkslice 118 1 4 [(.int .u32 0)] (.t 21) (.t 21))⟩, ⟨(some 8), none, (.mv (.t 22))⟩])
  (.seq (.reg [⟨(some 9), none, (.mv (.c (.int .u32 0)))⟩])
  (.seq (.seq (.reg [⟨(some 23), none, (.mv (.t 6))⟩, ⟨(some 24), none, (.lensl (.t 23))⟩, ⟨(some 25), none, (.mv (.c (.int .i64 0)))⟩])
  (.block 0 (.loop (.seq (.reg [⟨(some 26), none, (.bin .lss (.t 25) (.t 24))⟩])
  (.seq (.cond (.t 26)
  .skip
  (.exit 0))
  (.seq (.block 1 (.seq (.reg [⟨(some 27), none, (.mv (.t 25))⟩, ⟨(some 10), none, (.mv (.t 27))⟩])
  (.seq (.reg [⟨(some 11), none, (.mv (.c (.int .u32 0)))⟩])
  (.seq (.seq (.reg [⟨(some 28), none, (.mv (.t 10))⟩, ⟨(some 29), none, (.mv (.t 7))⟩, ⟨(some 30), none, (.lensl (.t 29))⟩, ⟨(some 31), none, (.bin .lss (.t 28) (.t 30))⟩])
  (.cond (.t 31)
  (.reg [⟨(some 32), none, (.mv (.t 7))⟩, ⟨(some 33), none, (.mv (.t 10))⟩, ⟨(some 34), none, (.ixsl 1 (.t 32) (.t 33))⟩, ⟨(some 35), none, (.load false 1 (.t 34))⟩, ⟨(some 11), none, (.mv (.t 35))⟩])
  .skip))
  (.reg [⟨(some 37), none, (.mv (.t 8))⟩, ⟨(some 38), none, (.mv (.t 10))⟩, ⟨(some 39), none, (.mv (.t 6))⟩, ⟨(some 40), none, (.mv (.t 10))⟩, ⟨(some 41), none, (.ixsl 1 (.t 39) (.t 40))⟩, ⟨(some 42), none, (.load false 1 (.t 41))⟩, ⟨(some 43), none, (.mv (.t 11))⟩, ⟨(some 44), none, (.mv (.t 9))⟩, ⟨(some 45), none, (.call 123 [(.t 42), (.t 43), (.t 44)])⟩, ⟨(some 36), none, (.mv (.t 45))⟩, ⟨(some 46), none, (.ext (.t 36) 0)⟩, ⟨(some 47), none, (.ext (.t 36) 1)⟩, ⟨(some 48), none, (.ixsl 1 (.t 37) (.t 38))⟩, ⟨none, none, (.store 1 (.t 48) (.t 46))⟩, ⟨(some 9), none, (.mv (.t 47))⟩])))))
  (.reg [⟨(some 49), none, (.bin .add (.t 25) (.c (.int .i64 1)))⟩, ⟨(some 25), none, (.mv (.t 49))⟩])))))))
  (.seq (.reg [⟨(some 50), none, (.mv (.t 8))⟩, ⟨(some 51), none, (.call 113 [(.t 50)])⟩, ⟨(some 4), none, (.mv (.t 51))⟩, ⟨(some 5), none, (.mv (.c (.bool true)))⟩])
  .ret)))))))
theorem tr80 : trFun Tryz.prog 80 = some ⟨52, [.t 4, .t 5], c80⟩ := by kernel_rfl
theorem cmpN_neg {a b : Nat} : (cmpN a b < 0) = (a < b) := by
  unfold cmpN
  by_cases h : a < b
  · simp [h]
  · by_cases h2 : a = b
    · simp [h2]
    · simp [h, h2]
set_option maxHeartbeats 1000000 in
theorem ok_nSub : SpecOK Tryz.prog 80 (flat spNSub) := by
  refine flat_run (env_cons ok_nCmp (env_cons ok_nlimbs (env_cons ok_nmag (env_cons ok_sub32 (env_nil _))))) mixed tr80 ?_
  intro args v h N hG
  unfold spNSub at hG
  split at hG
  case h_2 => cases hG
  rename_i l m
  split at hG
  case isFalse => cases hG
  rename_i hl
  obtain ⟨hl, hm⟩ := hl
  have hl' : l.length ≤ 1099511627776 := by omega
  have hm' : m.length ≤ 1099511627776 := by omega
  split at hG
  · rename_i hlt
    cases hG
    refine ⟨rfl, by simp, ?_⟩
    simp only [c80, initT, List.zipIdx_cons, List.zipIdx_nil, List.map_cons, List.map_nil, Nat.reduceAdd]
    simp only [↓R0, R1, rdL, rdH, isCall, istep, ibin, vcells, fillI, setR, flat, okCell, isBase, List.set, List.drop, List.take, List.append, bnds, bhi, blo, srcOf, simprocAttr, -Int.reduceAbs, spNCmp, hl', hm', cmpN_lt hlt, Fin, isEnd, resL, res1, iE, rE]
    exact ⟨_, rfl, rfl, fun k hk => by simp only [ne_nb hk, if_false]⟩
  rename_i hlt
  cases hG
  refine ⟨rfl, by simp, ?_⟩
  have hL : lk (nl l) ≤ 17179869184 := lk_len (Nat.le_trans (bl_length_nl l) (by omega))
  simp only [c80, initT, List.zipIdx_cons, List.zipIdx_nil, List.map_cons, List.map_nil, Nat.reduceAdd]
  generalize ha : nl l = aa at *
  generalize hb : nl m = bb at *
  have g2 : 4 * (lk aa : Int) ≤ 281474976710656 := by omega
  have g3 : (lk aa : Int) ≤ 9223372036854775807 := by omega
  simp only [↓R0, R1, rdL, rdH, isCall, istep, ibin, vcells, fillI, setR, flat, okCell, isBase, List.set, List.drop, List.take, List.append, bnds, bhi, blo, srcOf, simprocAttr, -Int.reduceAbs, spNCmp, nwS, spLimbs, hl', hm', ha, hb, cmpN_neg, hlt, g2, g3, tb_rep]
  clear g2 g3
  refine lp_parts (fun m tm hp nx => ∃ (i : Nat) (f : Nat → Nat), m + i = lk aa ∧ tmget tm 6 = .slice (some ⟨N + 0, 0, none⟩) (lk aa) (lk aa) ∧ tmget tm 7 = .slice (some ⟨N + 1, 0, none⟩) (lk bb) (lk bb) ∧
      tmget tm 8 = .slice (some ⟨N + 2, 0, none⟩) (lk aa) (lk aa) ∧ tmget tm 9 = .int .u32 (cyS aa bb i : Nat) ∧ tmget tm 24 = .int .i64 (lk aa) ∧ tmget tm 25 = .int .i64 i ∧
      hget hp (N + 0) = some ⟨118, 1, false, tb (lk aa) (lm aa)⟩ ∧ hget hp (N + 1) = some ⟨118, 1, false, tb (lk bb) (lm bb)⟩ ∧
      hget hp (N + 2) = some ⟨118, 1, false, tb (lk aa) f⟩ ∧ (∀ j, j < i → f j = lm (aa - bb) j) ∧ (∀ q, q < N → hget hp q = hget h q) ∧ nx = N + 3) ?_ (lk aa)
    ⟨0, fun _ => 0, by omega, ?_, ?_, ?_, ?_, ?_, ?_, ?_, ?_, ?_, fun j hj => by omega, ?_, rfl⟩
  · intro m tm hp nx ⟨i, f, hm, h6, h7, h8, h9, h24, h25, hb1, hb2, hb3, hf, hh, hnx⟩
    subst hnx
    have b1 := lm_lt aa i
    have b2 := lm_lt bb i
    have b3 := cyS_le aa bb i
    have v1 : ((lm aa i : Nat) : Int) < 4294967296 := by omega
    have v2 : ((lm bb i : Nat) : Int) < 4294967296 := by omega
    have v3 : ((cyS aa bb i : Nat) : Int) ≤ 1 := by omega
    have hmod := sub_mods (show bb ≤ aa by omega) i
    have v4 : ((lm aa i : Int) - lm bb i - cyS aa bb i) % 4294967296 = (lm (aa - bb) i : Int) := (sub_limb hmod).symm
    have v5 : (if (lm aa i : Int) < lm bb i + cyS aa bb i then (1 : Int) else 0) = (cyS aa bb (i + 1) : Int) := by
      rw [cyS_succ]
      by_cases g : lm aa i < lm bb i + cyS aa bb i
      · rw [if_pos g, if_pos (by omega)]; rfl
      · rw [if_neg g, if_neg (by omega)]; rfl
    have e7 : IntKind.i64.wrap ((i : Int) + 1) = ((i + 1 : Nat) : Int) := by rw [i64_in _ (by omega)]; omega
    by_cases c1 : i < lk aa
    · have c1' : i + 1 ≤ lk aa := c1
      have k1 := tb_get' (lm aa) c1
      have hset : ∀ j, j < i + 1 → (fun j => if j = i then lm (aa - bb) i else f j) j = lm (aa - bb) j := by
        intro j hj
        simp only
        by_cases e : j = i
        · rw [if_pos e, e]
        · rw [if_neg e]; exact hf j (by omega)
      by_cases c2 : i < lk bb
      · have k2 := tb_get' (lm bb) c2
        simp only [↓R0, R1, rdL, rdH, isCall, istep, ibin, vcells, fillI, setR, flat, okCell, isBase, List.set, List.drop, List.take, List.append, bnds, bhi, blo, srcOf, simprocAttr, -Int.reduceAbs, h6, h7, h8, h9, h24, h25, hb1, hb2, hb3, c1, c1', c2, k1, k2, e7, spSub32, v1, v2, v3, v4, v5, tb_length, tb_set]
        refine ⟨m - 1, by omega, i + 1, _, by omega, rfl, rfl, rfl, hset, ?_⟩
        intro q hq
        simp only [if_neg (show ¬ N + 2 = q by omega)]
        exact hh q hq
      · have z2 := lm_out c2
        rw [z2] at v4 v5
        have z0 : ((0 : Nat) : Int) = 0 := rfl
        rw [z0] at v4 v5
        simp only [↓R0, R1, rdL, rdH, isCall, istep, ibin, vcells, fillI, setR, flat, okCell, isBase, List.set, List.drop, List.take, List.append, bnds, bhi, blo, srcOf, simprocAttr, -Int.reduceAbs, h6, h7, h8, h9, h24, h25, hb1, hb2, hb3, c1, c1', c2, k1, e7, spSub32, v1, v3, v4, v5, tb_length, tb_set]
        refine ⟨m - 1, by omega, i + 1, _, by omega, rfl, rfl, rfl, hset, ?_⟩
        intro q hq
        simp only [if_neg (show ¬ N + 2 = q by omega)]
        exact hh q hq
    · have ei : i = lk aa := by omega
      subst ei
      have c5 : lk aa ≤ 34359738368 := by omega
      have htb : tb (lk aa) f = tb (lk aa) (lm (aa - bb)) := tb_congr hf
      have hud : ud (tb (lk aa) (lm (aa - bb))) = aa - bb := by rw [ud_tb, Nat.mod_eq_of_lt (Nat.lt_of_le_of_lt (Nat.sub_le _ _) (lk_lt aa))]
      simp only [↓R0, R1, rdL, rdH, isCall, istep, ibin, vcells, fillI, setR, flat, okCell, isBase, List.set, List.drop, List.take, List.append, bnds, bhi, blo, srcOf, simprocAttr, -Int.reduceAbs, h6, h7, h8, h9, h24, h25, hb1, hb2, hb3, c1, tb_length, htb, rdS, spMag, shows, tb_all, uok_lm, c5, hud, Fin, isEnd, resL, res1, iE, rE]
      first | exact ⟨_, rfl, rfl, hh⟩ | exact ⟨_, rfl, rfl, fun k hk => by simp only [ne_nb hk, if_false]; exact hh k hk⟩
  · (first | (simp only [↓R0, R1, rdL, rdH, isCall, istep, ibin, vcells, fillI, setR, flat, okCell, isBase, List.set, List.drop, List.take, List.append, bnds, bhi, blo, srcOf, simprocAttr, -Int.reduceAbs]; done) | (simp only [↓R0, R1, rdL, rdH, isCall, istep, ibin, vcells, fillI, setR, flat, okCell, isBase, List.set, List.drop, List.take, List.append, bnds, bhi, blo, srcOf, simprocAttr, -Int.reduceAbs]; rfl) | rfl)
  · (first | (simp only [↓R0, R1, rdL, rdH, isCall, istep, ibin, vcells, fillI, setR, flat, okCell, isBase, List.set, List.drop, List.take, List.append, bnds, bhi, blo, srcOf, simprocAttr, -Int.reduceAbs]; done) | (simp only [↓R0, R1, rdL, rdH, isCall, istep, ibin, vcells, fillI, setR, flat, okCell, isBase, List.set, List.drop, List.take, List.append, bnds, bhi, blo, srcOf, simprocAttr, -Int.reduceAbs]; rfl) | rfl)
  · (first | (simp only [↓R0, R1, rdL, rdH, isCall, istep, ibin, vcells, fillI, setR, flat, okCell, isBase, List.set, List.drop, List.take, List.append, bnds, bhi, blo, srcOf, simprocAttr, -Int.reduceAbs]; done) | (simp only [↓R0, R1, rdL, rdH, isCall, istep, ibin, vcells, fillI, setR, flat, okCell, isBase, List.set, List.drop, List.take, List.append, bnds, bhi, blo, srcOf, simprocAttr, -Int.reduceAbs]; rfl) | rfl)
  · (first | (simp only [↓R0, R1, rdL, rdH, isCall, istep, ibin, vcells, fillI, setR, flat, okCell, isBase, List.set, List.drop, List.take, List.append, bnds, bhi, blo, srcOf, simprocAttr, -Int.reduceAbs, cyS_zero]; done) | (simp only [↓R0, R1, rdL, rdH, isCall, istep, ibin, vcells, fillI, setR, flat, okCell, isBase, List.set, List.drop, List.take, List.append, bnds, bhi, blo, srcOf, simprocAttr, -Int.reduceAbs, cyS_zero]; rfl) | rfl)
  · (first | (simp only [↓R0, R1, rdL, rdH, isCall, istep, ibin, vcells, fillI, setR, flat, okCell, isBase, List.set, List.drop, List.take, List.append, bnds, bhi, blo, srcOf, simprocAttr, -Int.reduceAbs]; done) | (simp only [↓R0, R1, rdL, rdH, isCall, istep, ibin, vcells, fillI, setR, flat, okCell, isBase, List.set, List.drop, List.take, List.append, bnds, bhi, blo, srcOf, simprocAttr, -Int.reduceAbs]; rfl) | rfl)
  · (first | (simp only [↓R0, R1, rdL, rdH, isCall, istep, ibin, vcells, fillI, setR, flat, okCell, isBase, List.set, List.drop, List.take, List.append, bnds, bhi, blo, srcOf, simprocAttr, -Int.reduceAbs]; done) | (simp only [↓R0, R1, rdL, rdH, isCall, istep, ibin, vcells, fillI, setR, flat, okCell, isBase, List.set, List.drop, List.take, List.append, bnds, bhi, blo, srcOf, simprocAttr, -Int.reduceAbs]; rfl) | rfl)
  · (first | (simp only [↓R0, R1, rdL, rdH, isCall, istep, ibin, vcells, fillI, setR, flat, okCell, isBase, List.set, List.drop, List.take, List.append, bnds, bhi, blo, srcOf, simprocAttr, -Int.reduceAbs]; done) | (simp only [↓R0, R1, rdL, rdH, isCall, istep, ibin, vcells, fillI, setR, flat, okCell, isBase, List.set, List.drop, List.take, List.append, bnds, bhi, blo, srcOf, simprocAttr, -Int.reduceAbs]; rfl) | rfl)
  · (first | (simp only [↓R0, R1, rdL, rdH, isCall, istep, ibin, vcells, fillI, setR, flat, okCell, isBase, List.set, List.drop, List.take, List.append, bnds, bhi, blo, srcOf, simprocAttr, -Int.reduceAbs]; done) | (simp only [↓R0, R1, rdL, rdH, isCall, istep, ibin, vcells, fillI, setR, flat, okCell, isBase, List.set, List.drop, List.take, List.append, bnds, bhi, blo, srcOf, simprocAttr, -Int.reduceAbs]; rfl) | rfl)
  · (first | (simp only [↓R0, R1, rdL, rdH, isCall, istep, ibin, vcells, fillI, setR, flat, okCell, isBase, List.set, List.drop, List.take, List.append, bnds, bhi, blo, srcOf, simprocAttr, -Int.reduceAbs]; done) | (simp only [↓R0, R1, rdL, rdH, isCall, istep, ibin, vcells, fillI, setR, flat, okCell, isBase, List.set, List.drop, List.take, List.append, bnds, bhi, blo, srcOf, simprocAttr, -Int.reduceAbs]; rfl) | rfl)
  · intro q hq
    simp only [↓R0, R1, rdL, rdH, isCall, istep, ibin, vcells, fillI, setR, flat, okCell, isBase, List.set, List.drop, List.take, List.append, bnds, bhi, blo, srcOf, simprocAttr, -Int.reduceAbs, hget_new hq]
end Go.Eng
end
section
set_option linter.unusedVariables false
set_option linter.unusedSimpArgs false
set_option linter.unusedSectionVars false
namespace Go.Eng
def mvV (v0 xi y i k : Nat) : Nat := v0 + xi * (y % 4294967296 ^ k) * 4294967296 ^ i
def mvC (v0 xi y i k : Nat) : Nat := mvV v0 xi y i k / 4294967296 ^ (i + k) - v0 / 4294967296 ^ (i + k)
def mvN (v0 xi y i k : Nat) : Nat := xi * lm y k + lm v0 (i + k) + mvC v0 xi y i k
theorem mvV_zero (v0 xi y i : Nat) : mvV v0 xi y i 0 = v0 := by simp [mvV, Nat.mod_one]
theorem mvC_zero (v0 xi y i : Nat) : mvC v0 xi y i 0 = 0 := by simp [mvC, mvV_zero]
theorem mvV_succ (v0 xi y i k : Nat) : mvV v0 xi y i (k + 1) = mvV v0 xi y i k + xi * lm y k * 4294967296 ^ (i + k) := by
  unfold mvV
  rw [mod_step, Nat.pow_add, Nat.mul_add, Nat.add_mul, ← Nat.add_assoc]
  congr 1
  rw [Nat.mul_comm (4294967296 ^ k), ← Nat.mul_assoc, Nat.mul_assoc, Nat.mul_comm (4294967296 ^ k)]
theorem mv_div (v0 xi y i k : Nat) : mvV v0 xi y i (k + 1) / 4294967296 ^ (i + k) = mvN v0 xi y i k + 4294967296 * (v0 / 4294967296 ^ (i + k + 1)) := by
  have h1 : v0 / 4294967296 ^ (i + k) ≤ mvV v0 xi y i k / 4294967296 ^ (i + k) := Nat.div_le_div_right (by unfold mvV; omega)
  rw [mvV_succ, Nat.add_mul_div_right _ _ (pB _)]
  unfold mvN mvC
  have h2 := div_step v0 (i + k)
  omega
theorem mv_limb (v0 xi y i k : Nat) : lm (mvV v0 xi y i (k + 1)) (i + k) = mvN v0 xi y i k % 4294967296 := by
  unfold lm; rw [mv_div]; omega
theorem mv_carry (v0 xi y i k : Nat) : mvC v0 xi y i (k + 1) = mvN v0 xi y i k / 4294967296 := by
  have e : i + (k + 1) = i + k + 1 := by omega
  unfold mvC
  rw [e, Nat.pow_succ, ← Nat.div_div_eq_div_mul, mv_div, ← Nat.div_div_eq_div_mul, Nat.pow_succ, ← Nat.div_div_eq_div_mul]
  omega
theorem mv_low {v0 xi y i k j : Nat} (h : j < i + k) : lm (mvV v0 xi y i (k + 1)) j = lm (mvV v0 xi y i k) j := by
  rw [mvV_succ, lm_add_mul h]
theorem mv_bound {v0 xi y i k : Nat} (hx : xi < 4294967296) (hc : mvC v0 xi y i k < 4294967296) : mvN v0 xi y i k < 18446744073709551616 ∧ mvC v0 xi y i (k + 1) < 4294967296 := by
  have h1 := lm_lt y k
  have h2 := lm_lt v0 (i + k)
  have h3 : xi * lm y k ≤ 4294967295 * 4294967295 := Nat.mul_le_mul (by omega) (by omega)
  rw [mv_carry]
  have hN : mvN v0 xi y i k < 18446744073709551616 := by unfold mvN; omega
  exact ⟨hN, by omega⟩
theorem mv_row {x y i ky : Nat} (hy : y < 4294967296 ^ ky) : mvV (x % 4294967296 ^ i * y) (lm x i) y i ky = x % 4294967296 ^ (i + 1) * y := by
  unfold mvV
  rw [Nat.mod_eq_of_lt hy, mod_step, Nat.add_mul]
  congr 1
  rw [Nat.mul_comm, Nat.mul_assoc]
theorem mv_rowlt {x y i ky : Nat} (hy : y < 4294967296 ^ ky) : x % 4294967296 ^ i * y < 4294967296 ^ (i + ky) := by
  rw [Nat.pow_add]
  exact Nat.mul_lt_mul'' (Nat.mod_lt _ (pB _)) hy
theorem mv_top {x y i ky : Nat} (hy : y < 4294967296 ^ ky) : mvC (x % 4294967296 ^ i * y) (lm x i) y i ky = lm (x % 4294967296 ^ (i + 1) * y) (i + ky) := by
  unfold mvC
  rw [mv_row hy, Nat.div_eq_of_lt (mv_rowlt hy), Nat.sub_zero, lm_top]
  have := mv_rowlt (x := x) (i := i + 1) hy
  rw [show i + ky + 1 = i + 1 + ky by omega]; exact this
theorem sh_rest (n d i : Nat) : n / 4294967296 ^ i % d = (n / 4294967296 ^ (i + 1) % d * 4294967296 + lm n i) % d := by
  rw [div_step n i]
  generalize n / 4294967296 ^ (i + 1) = Q
  have : (Q * 4294967296) % d = (Q % d * 4294967296) % d := by rw [Nat.mul_mod, Nat.mul_mod (Q % d) 4294967296, Nat.mod_mod]
  rw [Nat.mul_comm 4294967296, Nat.add_mod, this, ← Nat.add_mod]
theorem sh_quo {n d i : Nat} (hd : 0 < d) : lm (n / d) i = (n / 4294967296 ^ (i + 1) % d * 4294967296 + lm n i) / d ∧ (n / 4294967296 ^ (i + 1) % d * 4294967296 + lm n i) / d < 4294967296 := by
  have hr := Nat.mod_lt (n / 4294967296 ^ (i + 1)) hd
  have hl := lm_lt n i
  have e0 : lm (n / d) i = n / 4294967296 ^ i / d % 4294967296 := by
    unfold lm; rw [Nat.div_div_eq_div_mul, Nat.mul_comm d, ← Nat.div_div_eq_div_mul]
  rw [e0, div_step n i]
  generalize lm n i = l at *
  have hd1 := Nat.div_add_mod (n / 4294967296 ^ (i + 1)) d
  generalize n / 4294967296 ^ (i + 1) = Q at *
  have hz : (Q % d * 4294967296 + l) / d < 4294967296 := by
    rw [Nat.div_lt_iff_lt_mul hd]
    have : (Q % d + 1) * 4294967296 ≤ d * 4294967296 := Nat.mul_le_mul_right _ hr
    rw [Nat.add_mul] at this
    rw [Nat.mul_comm _ d]
    omega
  have e : 4294967296 * Q + l = d * (4294967296 * (Q / d)) + (Q % d * 4294967296 + l) := by
    conv => lhs; rw [← hd1]
    rw [Nat.mul_add, ← Nat.mul_assoc, ← Nat.mul_assoc, Nat.mul_comm d 4294967296]; omega
  refine ⟨?_, hz⟩
  rw [e, Nat.mul_add_div hd, Nat.mul_add_mod, Nat.mod_eq_of_lt hz]
theorem shl_limb {n s i : Nat} (hs : s < 32) :
    (∀ j, lm (n % 4294967296 ^ (i + 1) * 2 ^ s) j = if j = i + 1 then lm n i * 2 ^ s / 4294967296 else if j = i then lm (n % 4294967296 ^ i * 2 ^ s) i + lm n i * 2 ^ s % 4294967296 else lm (n % 4294967296 ^ i * 2 ^ s) j) ∧
    lm (n % 4294967296 ^ i * 2 ^ s) i < 2 ^ s ∧ lm n i * 2 ^ s % 4294967296 = (lm n i * 2 ^ s % 4294967296) / 2 ^ s * 2 ^ s ∧ lm (n % 4294967296 ^ i * 2 ^ s) i + lm n i * 2 ^ s % 4294967296 < 4294967296 := by
  have hS : 4294967296 = 2 ^ (32 - s) * 2 ^ s := by rw [← Nat.pow_add, show 32 - s + s = 32 by omega]
  have hS0 : 0 < 2 ^ s := Nat.pow_pos (by omega)
  have hm := Nat.mod_lt n (pB i)
  have hx := lm_lt n i
  have e0 : lm n i * 2 ^ s % 4294967296 = lm n i % 2 ^ (32 - s) * 2 ^ s := by
    conv => lhs; rw [hS]
    rw [Nat.mul_mod_mul_right]
  have hT : 2 ^ s ≤ 4294967296 := by conv => rhs; rw [hS]
                                     exact Nat.le_mul_of_pos_left _ (Nat.pow_pos (by omega))
  have hlo : n % 4294967296 ^ i * 2 ^ s < 4294967296 ^ i * 2 ^ s := Nat.mul_lt_mul_of_pos_right hm hS0
  have hlo1 : n % 4294967296 ^ i * 2 ^ s < 4294967296 ^ (i + 1) := by rw [Nat.pow_succ]; exact Nat.lt_of_lt_of_le hlo (Nat.mul_le_mul_left _ hT)
  have h1 : lm (n % 4294967296 ^ i * 2 ^ s) i < 2 ^ s := by
    rw [lm_top hlo1]; exact Nat.div_lt_of_lt_mul hlo
  have h2 : lm n i % 2 ^ (32 - s) * 2 ^ s + 2 ^ s ≤ 4294967296 := by
    have := Nat.mul_le_mul_right (2 ^ s) (Nat.mod_lt (lm n i) (Nat.pow_pos (n := 32 - s) (show 0 < 2 by omega)))
    rw [Nat.succ_mul, ← hS] at this
    exact this
  refine ⟨fun j => ?_, h1, ?_, ?_⟩
  · have e : n % 4294967296 ^ (i + 1) * 2 ^ s = n % 4294967296 ^ i * 2 ^ s + lm n i * 2 ^ s * 4294967296 ^ i := by
      rw [mod_step, Nat.add_mul, Nat.mul_assoc, Nat.mul_comm (4294967296 ^ i)]
    have ediv : (n % 4294967296 ^ i * 2 ^ s + lm n i * 2 ^ s * 4294967296 ^ i) / 4294967296 ^ i = lm (n % 4294967296 ^ i * 2 ^ s) i + lm n i * 2 ^ s := by
      rw [Nat.add_mul_div_right _ _ (pB i), lm_top hlo1]
    rw [e]
    rcases Nat.lt_trichotomy j i with g | g | g
    · rw [if_neg (by omega), if_neg (by omega), lm_add_mul g]
    · subst g
      rw [if_neg (by omega), if_pos rfl]
      have e9 : ∀ W, lm W j = W / 4294967296 ^ j % 4294967296 := fun W => rfl
      rw [e9, ediv]
      have : lm (n % 4294967296 ^ j * 2 ^ s) j + lm n j * 2 ^ s % 4294967296 < 4294967296 := by rw [e0]; omega
      omega
    · by_cases g2 : j = i + 1
      · rw [if_pos g2, g2]
        have e9 : ∀ W, lm W (i + 1) = W / 4294967296 ^ i / 4294967296 % 4294967296 := fun W => by unfold lm; rw [Nat.pow_succ, ← Nat.div_div_eq_div_mul]
        rw [e9, ediv]
        have q1 : lm n i * 2 ^ s < 4294967296 * 4294967296 := Nat.mul_lt_mul_of_lt_of_le hx hT (by omega)
        have q2 : lm n i * 2 ^ s % 4294967296 + 2 ^ s ≤ 4294967296 := by rw [e0]; exact h2
        omega
      · rw [if_neg g2, if_neg (by omega)]
        have hhi : n % 4294967296 ^ i * 2 ^ s + lm n i * 2 ^ s * 4294967296 ^ i < 4294967296 ^ (i + 2) := by
          have e8 : 4294967296 ^ (i + 2) = 4294967296 ^ (i + 1) * 4294967296 := Nat.pow_succ _ _
          rw [← e, e8]
          exact Nat.mul_lt_mul_of_lt_of_le (Nat.mod_lt _ (pB _)) hT (by omega)
        rw [lm_of_lt' hhi (by omega), lm_of_lt' hlo1 (by omega)]
  · rw [e0, Nat.mul_div_cancel _ hS0]
  · rw [e0]; omega
theorem shr_limb {n s i : Nat} (hs : s < 32) : lm (n / 2 ^ s) i = (lm n i + lm n (i + 1) * 4294967296) / 2 ^ s % 4294967296 := by
  have e : n / 4294967296 ^ i = 4294967296 * 4294967296 * (n / 4294967296 ^ (i + 2)) + (lm n i + lm n (i + 1) * 4294967296) := by
    have h1 := div_step n i
    have h2 := div_step n (i + 1)
    rw [show i + 2 = i + 1 + 1 from rfl]
    omega
  have hS : 4294967296 = 2 ^ s * 2 ^ (32 - s) := by rw [← Nat.pow_add, show s + (32 - s) = 32 by omega]
  have hS0 : 0 < 2 ^ s := Nat.pow_pos (by omega)
  have e0 : lm (n / 2 ^ s) i = n / 4294967296 ^ i / 2 ^ s % 4294967296 := by
    unfold lm; rw [Nat.div_div_eq_div_mul, Nat.mul_comm, ← Nat.div_div_eq_div_mul]
  rw [e0, e]
  have e2 : 4294967296 * 4294967296 * (n / 4294967296 ^ (i + 2)) = 2 ^ s * (4294967296 * (2 ^ (32 - s) * (n / 4294967296 ^ (i + 2)))) := by
    rw [← Nat.mul_assoc, ← Nat.mul_assoc, Nat.mul_comm (2 ^ s), Nat.mul_assoc 4294967296 (2 ^ s), ← hS]
  rw [e2, Nat.mul_add_div hS0, Nat.mul_add_mod]
end Go.Eng
end
section
set_option linter.unusedVariables false
set_option linter.unusedSimpArgs false
set_option linter.unusedSectionVars false
set_option maxRecDepth 4000
namespace Go.Eng
open Go Go.Proofs Go.IntWalk
def spNMul : List Value → Option Value
  | [.string ⟨⟨l⟩⟩, .string ⟨⟨m⟩⟩] => if l.length ≤ 34359738368 ∧ m.length ≤ 34359738368 then some (.string ⟨⟨bl (nl l * nl m)⟩⟩) else none
  | _ => none
def c81 : ICode :=
  (.seq (.reg [⟨(some 4), none, (.mv (.c (.string ⟨⟨[]⟩⟩)))⟩])
  (.seq (.reg [⟨(some 12), none, (.mv (.t 0))⟩, ⟨(some 13), none, (.call 110 [(.t 12)])⟩, ⟨(some 14), none, (.mv (.t 1))⟩, ⟨(some 15), none, (.call 110 [(.t 14)])⟩, ⟨(some 5), none, (.mv (.t 13))⟩, ⟨(some 6), none, (.mv (.t 15))⟩])
  (.seq (.reg [⟨(some 16), none, (.mv (.t 5))⟩, ⟨(some 17), none, (.lensl (.t 16))⟩, ⟨(some 18), none, (.mv (.t 6))⟩, ⟨(some 19), none, (.lensl (.t 18))⟩, ⟨(some 20), none, (.bin .add (.t 17) (.t 19))⟩, ⟨(some 21), none, (.mkslice 118 1 4 [(.int .u32 0)] (.t 20) (.t 20))⟩, ⟨(some 7), none, (.mv (.t 21))⟩])
  (.seq (.seq (.reg [⟨(some 22), none, (.mv (.t 5))⟩, ⟨(some 23), none, (.lensl (.t 22))⟩, ⟨(some 24), none, (.mv (.c (.int .i64 0)))⟩])
  (.block 0 (.loop (.seq (.reg [⟨(some 25), none, (.bin .lss (.t 24) (.t 23))⟩])
  (.seq (.cond (.t 25)
  .skip
  (.exit 0))
  (.seq (.block 1 (.seq (.reg [⟨(some 26), none, (.mv (.t 24))⟩, ⟨(some 8), none, (.mv (.t 26))⟩])
  (.seq (.reg [⟨(some 9), none, (.mv (.c (.int .u64 0)))⟩])
  (.seq (.seq (.reg [⟨(some 27), none, (.mv (.t 6))⟩, ⟨(some 28), none, (.lensl (.t 27))⟩, ⟨(some 29), none, (.mv (.c (.int .i64 0)))⟩])
  (.block 2 (.loop (.seq (.reg [⟨(some 30), none, (.bin .lss (.t 29) (.t 28))⟩])
  (.seq (.cond (.t 30)
  .skip
  (.exit 2))
  (.seq (.block 3 (.seq (.reg [⟨(some 31), none, (.mv (.t 29))⟩, ⟨(some 10), none, (.mv (.t 31))⟩])
  (.seq (.dreg [⟨(some 32), none, [], (.mv (.t 5))⟩, ⟨(some 33), none, [], (.mv (.t 8))⟩, ⟨(some 34), none, [], (.ixsl 1 (.t 32) (.t 33))⟩, ⟨(some 35), none, [], (.load false 1 (.t 34))⟩, ⟨(some 36), none, [], (.conv .u64 (.t 35))⟩, ⟨(some 37), none, [], (.mv (.t 6))⟩, ⟨(some 38), none, [], (.mv (.t 10))⟩, ⟨(some 39), none, [], (.ixsl 1 (.t 37) (.t 38))⟩, ⟨(some 40), none, [], (.load false 1 (.t 39))⟩, ⟨(some 41), none, [], (.conv .u64 (.t 40))⟩, ⟨(some 42), none, [], (.bin .mul (.t 36) (.t 41))⟩, ⟨(some 43), none, [], (.mv (.t 7))⟩, ⟨(some 44), none, [], (.mv (.t 8))⟩, ⟨(some 45), none, [], (.mv (.t 10))⟩, ⟨(some 46), none, [], (.bin .add (.t 44) (.t 45))⟩, ⟨(some 47), none, [], (.ixsl 1 (.t 43) (.t 46))⟩, ⟨(some 48), none, [], (.load false 1 (.t 47))⟩, ⟨(some 49), none, [], (.conv .u64 (.t 48))⟩, ⟨(some 50), none, [], (.bin .add (.t 42) (.t 49))⟩, ⟨(some 51), none, [], (.mv (.t 9))⟩, ⟨(some 52), none, [], (.bin .add (.t 50) (.t 51))⟩, ⟨(some 11), none, [], (.mv (.t 52))⟩])
  (.reg [⟨(some 53), none, (.mv (.t 7))⟩, ⟨(some 54), none, (.mv (.t 8))⟩, ⟨(some 55), none, (.mv (.t 10))⟩, ⟨(some 56), none, (.bin .add (.t 54) (.t 55))⟩, ⟨(some 57), none, (.mv (.t 11))⟩, ⟨(some 58), none, (.conv .u32 (.t 57))⟩, ⟨(some 59), none, (.mv (.t 11))⟩, ⟨(some 60), none, (.bin .shr (.t 59) (.c (.int .u64 32)))⟩, ⟨(some 61), none, (.ixsl 1 (.t 53) (.t 56))⟩, ⟨none, none, (.store 1 (.t 61) (.t 58))⟩, ⟨(some 9), none, (.mv (.t 60))⟩]))))
  (.reg [⟨(some 62), none, (.bin .add (.t 29) (.c (.int .i64 1)))⟩, ⟨(some 29), none, (.mv (.t 62))⟩])))))))
  (.reg [⟨(some 63), none, (.mv (.t 7))⟩, ⟨(some 64), none, (.mv (.t 8))⟩, ⟨(some 65), none, (.mv (.t 6))⟩, ⟨(some 66), none, (.lensl (.t 65))⟩, ⟨(some 67), none, (.bin .add (.t 64) (.t 66))⟩, ⟨(some 68), none, (.mv (.t 9))⟩, ⟨(some 69), none, (.conv .u32 (.t 68))⟩, ⟨(some 70), none, (.ixsl 1 (.t 63) (.t 67))⟩, ⟨none, none, (.store 1 (.t 70) (.t 69))⟩])))))
  (.reg [⟨(some 71), none, (.bin .add (.t 24) (.c (.int .i64 1)))⟩, ⟨(some 24), none, (.mv (.t 71))⟩])))))))
  (.seq (.reg [⟨(some 72), none, (.mv (.t 7))⟩, ⟨(some 73), none, (.call 113 [(.t 72)])⟩, ⟨(some 4), none, (.mv (.t 73))⟩])
  .ret)))))
theorem tr81 : trFun Tryz.prog 81 = some ⟨74, [.t 4], c81⟩ := by kernel_rfl
set_option maxHeartbeats 1000000 in
theorem ok_nMul : SpecOK Tryz.prog 81 (flat spNMul) := by
  refine flat_run (env_cons ok_nlimbs (env_cons ok_nmag (env_nil _))) mixed tr81 ?_
  intro args v h N hG
  unfold spNMul at hG
  split at hG
  case h_2 => cases hG
  rename_i l m
  split at hG
  case isFalse => cases hG
  rename_i hl
  obtain ⟨hl, hm⟩ := hl
  cases hG
  refine ⟨rfl, by simp, ?_⟩
  have hL : lk (nl l) ≤ 8589934592 := lk_len (Nat.le_trans (bl_length_nl l) (by omega))
  have hM : lk (nl m) ≤ 8589934592 := lk_len (Nat.le_trans (bl_length_nl m) (by omega))
  have hl' : l.length ≤ 1099511627776 := by omega
  have hm' : m.length ≤ 1099511627776 := by omega
  have hx := lk_lt (nl l)
  have hy := lk_lt (nl m)
  generalize ha : nl l = x at *
  generalize hb : nl m = y at *
  have g1 : IntKind.i64.wrap ((lk x : Int) + (lk y : Int)) = ((lk x + lk y : Nat) : Int) := by rw [i64_in _ (by omega)]; omega
  have g2 : 4 * ((lk x + lk y : Nat) : Int) ≤ 281474976710656 := by omega
  have g3 : ((lk x + lk y : Nat) : Int) ≤ 9223372036854775807 := by omega
  simp only [c81, initT, List.zipIdx_cons, List.zipIdx_nil, List.map_cons, List.map_nil, Nat.reduceAdd]
  simp only [↓R0, R1, rdL, rdH, isCall, istep, ibin, vcells, fillI, setR, flat, okCell, isBase, List.set, List.drop, List.take, List.append, bnds, bhi, blo, srcOf, simprocAttr, -Int.reduceAbs, nwS, spLimbs, hl', hm', ha, hb, g1, g2, g3, tb_rep]
  clear g1 g2 g3
  generalize hkx : lk x = kx at *
  generalize hky : lk y = ky at *
  refine lp_parts (fun m tm hp nx => ∃ (i : Nat), m + i = kx ∧ tmget tm 5 = .slice (some ⟨N + 0, 0, none⟩) kx kx ∧ tmget tm 6 = .slice (some ⟨N + 1, 0, none⟩) ky ky ∧
      tmget tm 7 = .slice (some ⟨N + 2, 0, none⟩) (kx + ky) (kx + ky) ∧ tmget tm 23 = .int .i64 kx ∧ tmget tm 24 = .int .i64 i ∧
      hget hp (N + 0) = some ⟨118, 1, false, tb kx (lm x)⟩ ∧ hget hp (N + 1) = some ⟨118, 1, false, tb ky (lm y)⟩ ∧
      hget hp (N + 2) = some ⟨118, 1, false, tb (kx + ky) (lm (x % 4294967296 ^ i * y))⟩ ∧ (∀ q, q < N → hget hp q = hget h q) ∧ nx = N + 3) ?_ kx
    ⟨0, by omega, ?_, ?_, ?_, ?_, ?_, ?_, ?_, ?_, ?_, rfl⟩
  · intro m tm hp nx ⟨i, hm, h5, h6, h7, h23, h24, hb1, hb2, hb3, hh, hnx⟩
    subst hnx
    by_cases c1 : i < kx
    · have ex : IntKind.i64.wrap ((i : Int) + 1) = ((i + 1 : Nat) : Int) := by rw [i64_in _ (by omega)]; omega
      simp only [↓R0, R1, rdL, rdH, isCall, istep, ibin, vcells, fillI, setR, flat, okCell, isBase, List.set, List.drop, List.take, List.append, bnds, bhi, blo, srcOf, simprocAttr, -Int.reduceAbs, h5, h6, h7, h23, h24, hb1, hb2, hb3, c1]
      refine lp_parts (fun m2 tm hp nx => ∃ (k : Nat) (f : Nat → Nat), m2 + k = ky ∧ tmget tm 5 = .slice (some ⟨N + 0, 0, none⟩) kx kx ∧ tmget tm 6 = .slice (some ⟨N + 1, 0, none⟩) ky ky ∧
        tmget tm 7 = .slice (some ⟨N + 2, 0, none⟩) (kx + ky) (kx + ky) ∧ tmget tm 23 = .int .i64 kx ∧ tmget tm 24 = .int .i64 i ∧ tmget tm 8 = .int .i64 i ∧ tmget tm 28 = .int .i64 ky ∧ tmget tm 29 = .int .i64 k ∧
        tmget tm 9 = .int .u64 (mvC (x % 4294967296 ^ i * y) (lm x i) y i k : Nat) ∧ mvC (x % 4294967296 ^ i * y) (lm x i) y i k < 4294967296 ∧
        hget hp (N + 0) = some ⟨118, 1, false, tb kx (lm x)⟩ ∧ hget hp (N + 1) = some ⟨118, 1, false, tb ky (lm y)⟩ ∧
        hget hp (N + 2) = some ⟨118, 1, false, tb (kx + ky) f⟩ ∧ (∀ j, f j = if j < i + k then lm (mvV (x % 4294967296 ^ i * y) (lm x i) y i k) j else lm (x % 4294967296 ^ i * y) j) ∧
        (∀ q, q < N → hget hp q = hget h q) ∧ nx = N + 3) ?_ ky
        ⟨0, _, by omega, ?_, ?_, ?_, ?_, ?_, ?_, ?_, ?_, ?_, ?_, hb1, hb2, hb3, fun j => ?_, hh, rfl⟩
      · clear h5 h6 h7 h23 h24 hb1 hb2 hb3 hh
        clear tm hp
        intro m2 tm hp nx ⟨k, f, hm2, h5, h6, h7, h23, h24, h8, h28, h29, h9, hc, hb1, hb2, hb3, hf, hh, hnx⟩
        subst hnx
        by_cases c2 : k < ky
        · obtain ⟨hN, hc'⟩ := mv_bound (v0 := x % 4294967296 ^ i * y) (y := y) (i := i) (k := k) (lm_lt x i) hc
          have hfk : f (i + k) = lm (x % 4294967296 ^ i * y) (i + k) := by rw [hf, if_neg (by omega)]
          have hNd : mvN (x % 4294967296 ^ i * y) (lm x i) y i k = lm x i * lm y k + f (i + k) + mvC (x % 4294967296 ^ i * y) (lm x i) y i k := by rw [hfk]; rfl
          have hcar := mv_carry (x % 4294967296 ^ i * y) (lm x i) y i k
          have hlim := mv_limb (x % 4294967296 ^ i * y) (lm x i) y i k
          have hlow : ∀ j, j < i + k → lm (mvV (x % 4294967296 ^ i * y) (lm x i) y i (k + 1)) j = lm (mvV (x % 4294967296 ^ i * y) (lm x i) y i k) j := fun j h => mv_low h
          generalize hC : mvC (x % 4294967296 ^ i * y) (lm x i) y i k = C at *
          generalize hNN : mvN (x % 4294967296 ^ i * y) (lm x i) y i k = W at *
          have bx := lm_lt x i
          have b_y := lm_lt y k
          have bf : f (i + k) < 4294967296 := by rw [hfk]; exact lm_lt _ _
          have bxy : lm x i * lm y k ≤ 4294967295 * 4294967295 := Nat.mul_le_mul (by omega) (by omega)
          have w1 := u64_nat (n := lm x i) (by omega)
          have w2 := u64_nat (n := lm y k) (by omega)
          have w3 := u64_nat (n := f (i + k)) (by omega)
          have w4 : IntKind.u64.wrap ((lm x i : Int) * (lm y k : Int)) = ((lm x i * lm y k : Nat) : Int) := by rw [← Int.natCast_mul, u64_nat (by omega)]
          have w5 : IntKind.u64.wrap (((lm x i * lm y k : Nat) : Int) + (f (i + k) : Int)) = ((lm x i * lm y k + f (i + k) : Nat) : Int) := by rw [← Int.natCast_add, u64_nat (by omega)]
          have w6 : IntKind.u64.wrap (((lm x i * lm y k + f (i + k) : Nat) : Int) + (C : Int)) = (W : Int) := by rw [← Int.natCast_add, hNd, u64_nat (by omega)]
          have w7 := u32_mod W
          have w8 : (W : Int).fdiv (2 ^ min 32 IntKind.u64.bits) = ((W / 4294967296 : Nat) : Int) := by
            have : (2 : Int) ^ min 32 IntKind.u64.bits = 4294967296 := rfl
            rw [this, Int.fdiv_eq_ediv_of_nonneg _ (by omega)]; omega
          have e1 : IntKind.i64.wrap ((i : Int) + (k : Int)) = ((i + k : Nat) : Int) := by rw [i64_in _ (by omega)]; omega
          have e2 : IntKind.i64.wrap ((k : Int) + 1) = ((k + 1 : Nat) : Int) := by rw [i64_in _ (by omega)]; omega
          have k1 := tb_get' (lm x) c1
          have k2 := tb_get' (lm y) c2
          have c3 : i + k < kx + ky := by omega
          have c3' : i + k + 1 ≤ kx + ky := by omega
          have k3 := tb_get' f c3
          simp only [↓R0, R1, rdL, rdH, isCall, istep, ibin, vcells, fillI, setR, flat, okCell, isBase, List.set, List.drop, List.take, List.append, bnds, bhi, blo, srcOf, simprocAttr, -Int.reduceAbs, h5, h6, h7, h23, h24, h8, h28, h29, h9, hb1, hb2, hb3, c1, c2, c3, c3', k1, k2, k3, w1, w2, w3, w4, w5, w6, w7, w8, e1, e2, tb_length, tb_set]
          refine ⟨m2 - 1, by omega, k + 1, _, by omega, rfl, ?_, ?_, rfl, fun j => ?_, ?_⟩
          · rw [hcar]
          · exact hc'
          · by_cases g : j = i + k
            · rw [if_pos g, if_pos (by omega), g, hlim]
            · rw [if_neg g, hf j]
              by_cases g2 : j < i + k
              · rw [if_pos g2, if_pos (by omega), hlow j g2]
              · rw [if_neg g2, if_neg (by omega)]
          · intro q hq
            simp only [if_neg (show ¬ N + 2 = q by omega)]
            exact hh q hq
        · have ek : k = ky := by omega
          subst ek
          have hy' : y < 4294967296 ^ k := by rw [← hky]; exact lk_lt y
          have w1 := u32_nat hc
          have e1 : IntKind.i64.wrap ((i : Int) + (k : Int)) = ((i + k : Nat) : Int) := by rw [i64_in _ (by omega)]; omega
          have c3 : i + k < kx + k := by omega
          have c3' : i + k + 1 ≤ kx + k := by omega
          simp only [↓R0, R1, rdL, rdH, isCall, istep, ibin, vcells, fillI, setR, flat, okCell, isBase, List.set, List.drop, List.take, List.append, bnds, bhi, blo, srcOf, simprocAttr, -Int.reduceAbs, h5, h6, h7, h23, h24, h8, h28, h29, h9, hb1, hb2, hb3, c1, c2, c3, c3', w1, e1, ex, tb_length, tb_set]
          refine ⟨m - 1, by omega, i + 1, by omega, rfl, ?_, ?_⟩
          · congr 2
            apply tb_congr
            intro j hj
            by_cases g : j = i + k
            · rw [if_pos g, mv_top hy', g]
            · rw [if_neg g, hf j]
              by_cases g2 : j < i + k
              · rw [if_pos g2, mv_row hy']
              · rw [if_neg g2, lm_of_lt' (mv_rowlt hy') (by omega), lm_of_lt' (mv_rowlt hy') (by omega)]
          · intro q hq
            simp only [if_neg (show ¬ N + 2 = q by omega)]
            exact hh q hq
      · (first | (simp only [↓R0, R1, rdL, rdH, isCall, istep, ibin, vcells, fillI, setR, flat, okCell, isBase, List.set, List.drop, List.take, List.append, bnds, bhi, blo, srcOf, simprocAttr, -Int.reduceAbs, h5]; done) | (simp only [↓R0, R1, rdL, rdH, isCall, istep, ibin, vcells, fillI, setR, flat, okCell, isBase, List.set, List.drop, List.take, List.append, bnds, bhi, blo, srcOf, simprocAttr, -Int.reduceAbs, h5]; rfl) | rfl)
      · (first | (simp only [↓R0, R1, rdL, rdH, isCall, istep, ibin, vcells, fillI, setR, flat, okCell, isBase, List.set, List.drop, List.take, List.append, bnds, bhi, blo, srcOf, simprocAttr, -Int.reduceAbs, h6]; done) | (simp only [↓R0, R1, rdL, rdH, isCall, istep, ibin, vcells, fillI, setR, flat, okCell, isBase, List.set, List.drop, List.take, List.append, bnds, bhi, blo, srcOf, simprocAttr, -Int.reduceAbs, h6]; rfl) | rfl)
      · (first | (simp only [↓R0, R1, rdL, rdH, isCall, istep, ibin, vcells, fillI, setR, flat, okCell, isBase, List.set, List.drop, List.take, List.append, bnds, bhi, blo, srcOf, simprocAttr, -Int.reduceAbs, h7]; done) | (simp only [↓R0, R1, rdL, rdH, isCall, istep, ibin, vcells, fillI, setR, flat, okCell, isBase, List.set, List.drop, List.take, List.append, bnds, bhi, blo, srcOf, simprocAttr, -Int.reduceAbs, h7]; rfl) | rfl)
      · (first | (simp only [↓R0, R1, rdL, rdH, isCall, istep, ibin, vcells, fillI, setR, flat, okCell, isBase, List.set, List.drop, List.take, List.append, bnds, bhi, blo, srcOf, simprocAttr, -Int.reduceAbs, h23]; done) | (simp only [↓R0, R1, rdL, rdH, isCall, istep, ibin, vcells, fillI, setR, flat, okCell, isBase, List.set, List.drop, List.take, List.append, bnds, bhi, blo, srcOf, simprocAttr, -Int.reduceAbs, h23]; rfl) | rfl)
      · (first | (simp only [↓R0, R1, rdL, rdH, isCall, istep, ibin, vcells, fillI, setR, flat, okCell, isBase, List.set, List.drop, List.take, List.append, bnds, bhi, blo, srcOf, simprocAttr, -Int.reduceAbs, h24]; done) | (simp only [↓R0, R1, rdL, rdH, isCall, istep, ibin, vcells, fillI, setR, flat, okCell, isBase, List.set, List.drop, List.take, List.append, bnds, bhi, blo, srcOf, simprocAttr, -Int.reduceAbs, h24]; rfl) | rfl)
      · (first | (simp only [↓R0, R1, rdL, rdH, isCall, istep, ibin, vcells, fillI, setR, flat, okCell, isBase, List.set, List.drop, List.take, List.append, bnds, bhi, blo, srcOf, simprocAttr, -Int.reduceAbs, h24]; done) | (simp only [↓R0, R1, rdL, rdH, isCall, istep, ibin, vcells, fillI, setR, flat, okCell, isBase, List.set, List.drop, List.take, List.append, bnds, bhi, blo, srcOf, simprocAttr, -Int.reduceAbs, h24]; rfl) | rfl)
      · (first | (simp only [↓R0, R1, rdL, rdH, isCall, istep, ibin, vcells, fillI, setR, flat, okCell, isBase, List.set, List.drop, List.take, List.append, bnds, bhi, blo, srcOf, simprocAttr, -Int.reduceAbs]; done) | (simp only [↓R0, R1, rdL, rdH, isCall, istep, ibin, vcells, fillI, setR, flat, okCell, isBase, List.set, List.drop, List.take, List.append, bnds, bhi, blo, srcOf, simprocAttr, -Int.reduceAbs]; rfl) | rfl)
      · (first | (simp only [↓R0, R1, rdL, rdH, isCall, istep, ibin, vcells, fillI, setR, flat, okCell, isBase, List.set, List.drop, List.take, List.append, bnds, bhi, blo, srcOf, simprocAttr, -Int.reduceAbs]; done) | (simp only [↓R0, R1, rdL, rdH, isCall, istep, ibin, vcells, fillI, setR, flat, okCell, isBase, List.set, List.drop, List.take, List.append, bnds, bhi, blo, srcOf, simprocAttr, -Int.reduceAbs]; rfl) | rfl)
      · (first | (simp only [↓R0, R1, rdL, rdH, isCall, istep, ibin, vcells, fillI, setR, flat, okCell, isBase, List.set, List.drop, List.take, List.append, bnds, bhi, blo, srcOf, simprocAttr, -Int.reduceAbs, mvC_zero]; done) | (simp only [↓R0, R1, rdL, rdH, isCall, istep, ibin, vcells, fillI, setR, flat, okCell, isBase, List.set, List.drop, List.take, List.append, bnds, bhi, blo, srcOf, simprocAttr, -Int.reduceAbs, mvC_zero]; rfl) | rfl)
      · rw [mvC_zero]; omega
      · rw [mvV_zero]; simp
    · have ei : i = kx := by omega
      subst ei
      have hX : x % 4294967296 ^ i = x := Nat.mod_eq_of_lt hx
      have hxy : x * y < 4294967296 ^ (i + ky) := by rw [Nat.pow_add]; exact Nat.mul_lt_mul'' hx hy
      have hud : ud (tb (i + ky) (lm (x * y))) = x * y := by rw [ud_tb, Nat.mod_eq_of_lt hxy]
      have c5 : i + ky ≤ 34359738368 := by omega
      rw [hX] at hb3
      simp only [↓R0, R1, rdL, rdH, isCall, istep, ibin, vcells, fillI, setR, flat, okCell, isBase, List.set, List.drop, List.take, List.append, bnds, bhi, blo, srcOf, simprocAttr, -Int.reduceAbs, h5, h6, h7, h23, h24, hb1, hb2, hb3, c1, tb_length, rdS, spMag, shows, tb_all, uok_lm, c5, hud, Fin, isEnd, resL, res1, iE, rE]
      first | exact ⟨_, rfl, rfl, hh⟩ | exact ⟨_, rfl, rfl, fun k hk => by simp only [ne_nb hk, if_false]; exact hh k hk⟩
  · (first | (simp only [↓R0, R1, rdL, rdH, isCall, istep, ibin, vcells, fillI, setR, flat, okCell, isBase, List.set, List.drop, List.take, List.append, bnds, bhi, blo, srcOf, simprocAttr, -Int.reduceAbs]; done) | (simp only [↓R0, R1, rdL, rdH, isCall, istep, ibin, vcells, fillI, setR, flat, okCell, isBase, List.set, List.drop, List.take, List.append, bnds, bhi, blo, srcOf, simprocAttr, -Int.reduceAbs]; rfl) | rfl)
  · (first | (simp only [↓R0, R1, rdL, rdH, isCall, istep, ibin, vcells, fillI, setR, flat, okCell, isBase, List.set, List.drop, List.take, List.append, bnds, bhi, blo, srcOf, simprocAttr, -Int.reduceAbs]; done) | (simp only [↓R0, R1, rdL, rdH, isCall, istep, ibin, vcells, fillI, setR, flat, okCell, isBase, List.set, List.drop, List.take, List.append, bnds, bhi, blo, srcOf, simprocAttr, -Int.reduceAbs]; rfl) | rfl)
  · (first | (simp only [↓R0, R1, rdL, rdH, isCall, istep, ibin, vcells, fillI, setR, flat, okCell, isBase, List.set, List.drop, List.take, List.append, bnds, bhi, blo, srcOf, simprocAttr, -Int.reduceAbs]; done) | (simp only [↓R0, R1, rdL, rdH, isCall, istep, ibin, vcells, fillI, setR, flat, okCell, isBase, List.set, List.drop, List.take, List.append, bnds, bhi, blo, srcOf, simprocAttr, -Int.reduceAbs]; rfl) | rfl)
  · (first | (simp only [↓R0, R1, rdL, rdH, isCall, istep, ibin, vcells, fillI, setR, flat, okCell, isBase, List.set, List.drop, List.take, List.append, bnds, bhi, blo, srcOf, simprocAttr, -Int.reduceAbs]; done) | (simp only [↓R0, R1, rdL, rdH, isCall, istep, ibin, vcells, fillI, setR, flat, okCell, isBase, List.set, List.drop, List.take, List.append, bnds, bhi, blo, srcOf, simprocAttr, -Int.reduceAbs]; rfl) | rfl)
  · (first | (simp only [↓R0, R1, rdL, rdH, isCall, istep, ibin, vcells, fillI, setR, flat, okCell, isBase, List.set, List.drop, List.take, List.append, bnds, bhi, blo, srcOf, simprocAttr, -Int.reduceAbs]; done) | (simp only [↓R0, R1, rdL, rdH, isCall, istep, ibin, vcells, fillI, setR, flat, okCell, isBase, List.set, List.drop, List.take, List.append, bnds, bhi, blo, srcOf, simprocAttr, -Int.reduceAbs]; rfl) | rfl)
  · (first | (simp only [↓R0, R1, rdL, rdH, isCall, istep, ibin, vcells, fillI, setR, flat, okCell, isBase, List.set, List.drop, List.take, List.append, bnds, bhi, blo, srcOf, simprocAttr, -Int.reduceAbs]; done) | (simp only [↓R0, R1, rdL, rdH, isCall, istep, ibin, vcells, fillI, setR, flat, okCell, isBase, List.set, List.drop, List.take, List.append, bnds, bhi, blo, srcOf, simprocAttr, -Int.reduceAbs]; rfl) | rfl)
  · (first | (simp only [↓R0, R1, rdL, rdH, isCall, istep, ibin, vcells, fillI, setR, flat, okCell, isBase, List.set, List.drop, List.take, List.append, bnds, bhi, blo, srcOf, simprocAttr, -Int.reduceAbs]; done) | (simp only [↓R0, R1, rdL, rdH, isCall, istep, ibin, vcells, fillI, setR, flat, okCell, isBase, List.set, List.drop, List.take, List.append, bnds, bhi, blo, srcOf, simprocAttr, -Int.reduceAbs]; rfl) | rfl)
  · (first | (simp only [↓R0, R1, rdL, rdH, isCall, istep, ibin, vcells, fillI, setR, flat, okCell, isBase, List.set, List.drop, List.take, List.append, bnds, bhi, blo, srcOf, simprocAttr, -Int.reduceAbs, Nat.pow_zero, Nat.mod_one, Nat.zero_mul, lm_0]; done) | (simp only [↓R0, R1, rdL, rdH, isCall, istep, ibin, vcells, fillI, setR, flat, okCell, isBase, List.set, List.drop, List.take, List.append, bnds, bhi, blo, srcOf, simprocAttr, -Int.reduceAbs, Nat.pow_zero, Nat.mod_one, Nat.zero_mul, lm_0]; rfl) | rfl)
  · intro q hq
    simp only [↓R0, R1, rdL, rdH, isCall, istep, ibin, vcells, fillI, setR, flat, okCell, isBase, List.set, List.drop, List.take, List.append, bnds, bhi, blo, srcOf, simprocAttr, -Int.reduceAbs, hget_new hq]
end Go.Eng
end
