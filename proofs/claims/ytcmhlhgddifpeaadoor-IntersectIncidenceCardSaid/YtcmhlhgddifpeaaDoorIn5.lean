/-
  A part of the proof: the machine, the contracts of the functions and the plain laws, merged from smaller texts.
-/
import Derived.Test.YtcmhlhgddifpeaaDoorIn4
section
set_option linter.unusedVariables false
set_option linter.unusedSimpArgs false
set_option linter.unusedSectionVars false
set_option maxRecDepth 4000
namespace Go.Eng
open Go Go.Proofs Go.IntWalk
def spPNorm : List Value → Option Value
  | [.agg ⟨[.bool s1, .string ⟨⟨l1⟩⟩, .bool s2, .string ⟨⟨l2⟩⟩, .bool s3, .string ⟨⟨l3⟩⟩, .bool s4, .string ⟨⟨l4⟩⟩]⟩] =>
    if l1.length ≤ 34359738368 ∧ l2.length ≤ 34359738368 ∧ l3.length ≤ 34359738368 ∧ l4.length ≤ 34359738368 then some (.agg ⟨pE (sv s1 l1) (sv s2 l2) (sv s3 l3) (sv s4 l4)⟩) else none
  | _ => none
def c55 : ICode :=
  (.seq (.reg [⟨(some 1), none, (.box 28 8 (.t 0))⟩, ⟨(some 2), none, (.alloc 28 8 [(.bool false), (.string ⟨⟨[]⟩⟩), (.bool false), (.string ⟨⟨[]⟩⟩), (.bool false), (.string ⟨⟨[]⟩⟩), (.bool false), (.string ⟨⟨[]⟩⟩)])⟩])
  (.seq (.dreg [⟨(some 8), none, [], (.faddr 0 (.t 1))⟩, ⟨(some 9), none, [], (.load true 2 (.t 8))⟩, ⟨(some 10), none, [], (.call 50 [(.t 9)])⟩, ⟨(some 11), none, [], (.faddr 2 (.t 1))⟩, ⟨(some 12), none, [2], (.load true 2 (.t 11))⟩, ⟨(some 13), none, [], (.call 50 [(.t 12)])⟩, ⟨(some 14), none, [], (.faddr 4 (.t 1))⟩, ⟨(some 15), none, [2, 5], (.load true 2 (.t 14))⟩, ⟨(some 16), none, [], (.call 50 [(.t 15)])⟩, ⟨(some 17), none, [], (.faddr 6 (.t 1))⟩, ⟨(some 18), none, [2, 5, 8], (.load true 2 (.t 17))⟩, ⟨(some 19), none, [], (.call 50 [(.t 18)])⟩, ⟨(some 20), none, [], (.build [(.bool false), (.string ⟨⟨[]⟩⟩), (.bool false), (.string ⟨⟨[]⟩⟩), (.bool false), (.string ⟨⟨[]⟩⟩), (.bool false), (.string ⟨⟨[]⟩⟩)] [(0, 2, (.t 10)), (2, 2, (.t 13)), (4, 2, (.t 16)), (6, 2, (.t 19))])⟩, ⟨(some 3), none, [], (.alloc 64 8 [(.bool false), (.string ⟨⟨[]⟩⟩), (.bool false), (.string ⟨⟨[]⟩⟩), (.bool false), (.string ⟨⟨[]⟩⟩), (.bool false), (.string ⟨⟨[]⟩⟩)])⟩, ⟨none, none, [], (.store 8 (.t 3) (.t 20))⟩])
  (.seq (.seq (.reg [⟨(some 21), none, (.ixarr 4 2 (.t 3) (.c (.int .i64 3)))⟩, ⟨(some 22), none, (.load true 2 (.t 21))⟩, ⟨(some 23), none, (.call 54 [(.t 22)])⟩, ⟨(some 24), none, (.bin .eql (.t 23) (.c (.int .i64 0)))⟩])
  (.cond (.t 24)
  (.reg [⟨(some 25), none, (.call 19 [(.c (.int .i64 1))])⟩, ⟨(some 26), none, (.ixarr 4 2 (.t 3) (.c (.int .i64 3)))⟩, ⟨none, none, (.store 2 (.t 26) (.t 25))⟩])
  .skip))
  (.seq (.reg [⟨(some 27), none, (.slarr 4 2 (.t 3) none none)⟩, ⟨(some 28), none, (.call 69 [(.t 27)])⟩, ⟨(some 4), none, (.alloc 23 2 [(.bool false), (.string ⟨⟨[]⟩⟩)])⟩, ⟨none, none, (.store 2 (.t 4) (.t 28))⟩])
  (.seq (.reg [⟨(some 29), none, (.ixarr 4 2 (.t 3) (.c (.int .i64 3)))⟩, ⟨(some 30), none, (.load true 2 (.t 29))⟩, ⟨(some 31), none, (.call 54 [(.t 30)])⟩, ⟨(some 32), none, (.bin .lss (.t 31) (.c (.int .i64 0)))⟩, ⟨(some 5), none, (.mv (.t 32))⟩])
  (.seq (.seq (.reg [⟨(some 33), none, (.load true 8 (.t 3))⟩, ⟨(some 34), none, (.mv (.c (.int .i64 0)))⟩])
  (.block 0 (.loop (.seq (.reg [⟨(some 35), none, (.bin .lss (.t 34) (.c (.int .i64 4)))⟩])
  (.seq (.cond (.t 35)
  .skip
  (.exit 0))
  (.seq (.block 1 (.seq (.reg [⟨(some 36), none, (.mv (.t 34))⟩, ⟨(some 37), none, (.idarr 4 true 2 (.t 33) (.t 34))⟩, ⟨(some 7), none, (.alloc 23 2 [(.bool false), (.string ⟨⟨[]⟩⟩)])⟩, ⟨(some 6), none, (.mv (.t 36))⟩, ⟨none, none, (.store 2 (.t 7) (.t 37))⟩])
  (.seq (.reg [⟨(some 39), none, (.load true 2 (.t 7))⟩, ⟨(some 40), none, (.load true 2 (.t 4))⟩, ⟨(some 41), none, (.call 70 [(.t 39), (.t 40)])⟩, ⟨(some 38), none, (.mv (.t 41))⟩, ⟨(some 42), none, (.ext (.t 38) 0)⟩, ⟨(some 43), none, (.ext (.t 38) 1)⟩, ⟨(some 44), none, (.ext (.t 38) 2)⟩, ⟨none, none, (.store 2 (.t 7) (.t 42))⟩])
  (.seq (.seq (.reg [⟨(some 45), none, (.mv (.t 5))⟩])
  (.cond (.t 45)
  (.reg [⟨(some 46), none, (.load true 2 (.t 7))⟩, ⟨(some 47), none, (.call 37 [(.t 46)])⟩, ⟨none, none, (.store 2 (.t 7) (.t 47))⟩])
  .skip))
  (.reg [⟨(some 48), none, (.mv (.t 6))⟩, ⟨(some 49), none, (.load true 2 (.t 7))⟩, ⟨(some 50), none, (.ixarr 4 2 (.t 3) (.t 48))⟩, ⟨none, none, (.store 2 (.t 50) (.t 49))⟩])))))
  (.reg [⟨(some 51), none, (.bin .add (.t 34) (.c (.int .i64 1)))⟩, ⟨(some 34), none, (.mv (.t 51))⟩])))))))
  (.seq (.reg [⟨(some 52), none, (.ixarr 4 2 (.t 3) (.c (.int .i64 0)))⟩, ⟨(some 53), none, (.load true 2 (.t 52))⟩, ⟨(some 54), none, (.ixarr 4 2 (.t 3) (.c (.int .i64 1)))⟩, ⟨(some 55), none, (.load true 2 (.t 54))⟩, ⟨(some 56), none, (.ixarr 4 2 (.t 3) (.c (.int .i64 2)))⟩, ⟨(some 57), none, (.load true 2 (.t 56))⟩, ⟨(some 58), none, (.ixarr 4 2 (.t 3) (.c (.int .i64 3)))⟩, ⟨(some 59), none, (.load true 2 (.t 58))⟩, ⟨(some 60), none, (.build [(.bool false), (.string ⟨⟨[]⟩⟩), (.bool false), (.string ⟨⟨[]⟩⟩), (.bool false), (.string ⟨⟨[]⟩⟩), (.bool false), (.string ⟨⟨[]⟩⟩)] [(0, 2, (.t 53)), (2, 2, (.t 55)), (4, 2, (.t 57)), (6, 2, (.t 59))])⟩, ⟨none, none, (.store 8 (.t 2) (.t 60))⟩])
  .ret)))))))
theorem tr55 : trFun Tryd.prog 55 = some ⟨61, [.cell 2 true 8], c55⟩ := by kernel_rfl
set_option maxHeartbeats 2000000 in
theorem ok_pNorm : SpecOK Tryd.prog 55 (flat spPNorm) := by
  refine flat_run (env_cons ok_iNorm (env_cons ok_iSign (env_cons ok_iFrom (env_cons ok_iGcd (env_cons ok_iNeg (env_cons ok_iDiv (env_nil _))))))) mixed tr55 ?_
  intro args v h N hG
  unfold spPNorm at hG
  split at hG
  case h_2 => cases hG
  rename_i s1 l1 s2 l2 s3 l3 s4 l4
  split at hG
  case isFalse => cases hG
  rename_i hl
  obtain ⟨h1, h2, h3, h4⟩ := hl
  cases hG
  refine ⟨rfl, by simp, ?_⟩
  have k1 : l1.length ≤ 1099511627776 := by omega
  have k2 : l2.length ≤ 1099511627776 := by omega
  have k3 : l3.length ≤ 1099511627776 := by omega
  have k4 : l4.length ≤ 1099511627776 := by omega
  have n1 := len_sv (s := s1) h1
  have n2 := len_sv (s := s2) h2
  have n3 := len_sv (s := s3) h3
  have n4 := len_sv (s := s4) h4
  have n4' : (bl (sv s4 l4).natAbs).length ≤ 1099511627776 := by omega
  simp only [c55, initT, List.zipIdx_cons, List.zipIdx_nil, List.map_cons, List.map_nil, Nat.reduceAdd]
  simp only [↓R0, R1, rdL, rdH, isCall, istep, ibin, vcells, fillI, setR, flat, okCell, isBase, List.set, List.drop, List.take, List.append, bnds, bhi, blo, srcOf, ↓reduceIte, Nat.reduceEqDiff, Nat.reduceAdd, Nat.reduceLeDiff, reduceCtorEq, Nat.reduceSub, Int.reduceEq, Int.reduceLT, Int.reduceLE, Int.reduceGT, Int.reduceGE, Int.reduceSub, Int.reduceAdd, Int.reduceMul, Int.reduceNe, Int.reduceNeg, Int.reduceToNat, Nat.reduceMul, spINorm, k1, k2, k3, k4, iE]
  generalize sv s1 l1 = x at *
  generalize sv s2 l2 = y at *
  generalize sv s3 l3 = z at *
  generalize sv s4 l4 = w at *
  have e1 : (w.sign = 0) = (w = 0) := propext Int.sign_eq_zero_iff_zero
  simp only [↓R0, R1, rdL, rdH, isCall, istep, ibin, vcells, fillI, setR, flat, okCell, isBase, List.set, List.drop, List.take, List.append, bnds, bhi, blo, srcOf, ↓reduceIte, Nat.reduceEqDiff, Nat.reduceAdd, Nat.reduceLeDiff, reduceCtorEq, Nat.reduceSub, Int.reduceEq, Int.reduceLT, Int.reduceLE, Int.reduceGT, Int.reduceGE, Int.reduceSub, Int.reduceAdd, Int.reduceMul, Int.reduceNe, Int.reduceNeg, Int.reduceToNat, Nat.reduceMul, spISign, n4', e1]
  have rest : ∀ W : Int, W = pW w → (bl W.natAbs).length ≤ 34359738368 := by
    intro W e
    subst e
    unfold pW; split
    · exact Nat.le_trans (bl_length_le (k := 1).2 (by decide)) (by omega)
    · exact n4
  unfold pE pQ pG
  generalize hW : pW w = W at *
  have nW := rest W rfl
  have nW2 : (bl W.natAbs).length ≤ 1099511627776 := by omega
  have hWne : W ≠ 0 := by rw [← hW]; exact pW_ne w
  have dv1 : (Nat.gcd (Nat.gcd (Nat.gcd x.natAbs y.natAbs) z.natAbs) W.natAbs : Int) ∣ x := by
    refine Int.ofNat_dvd_left.2 ?_; exact Nat.dvd_trans (Nat.gcd_dvd_left _ _) (Nat.dvd_trans (Nat.gcd_dvd_left _ _) (Nat.gcd_dvd_left _ _))
  have dv2 : (Nat.gcd (Nat.gcd (Nat.gcd x.natAbs y.natAbs) z.natAbs) W.natAbs : Int) ∣ y := by
    refine Int.ofNat_dvd_left.2 ?_; exact Nat.dvd_trans (Nat.gcd_dvd_left _ _) (Nat.dvd_trans (Nat.gcd_dvd_left _ _) (Nat.gcd_dvd_right _ _))
  have dv3 : (Nat.gcd (Nat.gcd (Nat.gcd x.natAbs y.natAbs) z.natAbs) W.natAbs : Int) ∣ z := by
    refine Int.ofNat_dvd_left.2 ?_; exact Nat.dvd_trans (Nat.gcd_dvd_left _ _) (Nat.gcd_dvd_right _ _)
  have dv4 : (Nat.gcd (Nat.gcd (Nat.gcd x.natAbs y.natAbs) z.natAbs) W.natAbs : Int) ∣ W := by
    refine Int.ofNat_dvd_left.2 ?_; exact Nat.gcd_dvd_right _ _
  generalize hGG : Nat.gcd (Nat.gcd (Nat.gcd x.natAbs y.natAbs) z.natAbs) W.natAbs = G at *
  have hG0 : 0 < G := by rw [← hGG]; exact Nat.gcd_pos_of_pos_right _ (by omega)
  have mG : (bl G).length ≤ 34359738368 := by
    rw [← hGG]; exact Nat.le_trans (bl_length_mono (Nat.gcd_le_right _ (by omega))) nW
  have f1 : ¬ ((G : Int) < 0) := by omega
  have f2 : ¬ ((G : Int) = 0) := by omega
  have f3 : ¬ (G = 0) := by omega
  have f5 : sv false (bl G) = (G : Int) := by rw [sv_false, nl_bl]
  have q1 : (bl (x / (G : Int)).natAbs).length ≤ 1099511627776 := Nat.le_trans (bl_length_mono (Int.natAbs_ediv_le_natAbs _ _)) (by omega)
  have q2 : (bl (y / (G : Int)).natAbs).length ≤ 1099511627776 := Nat.le_trans (bl_length_mono (Int.natAbs_ediv_le_natAbs _ _)) (by omega)
  have q3 : (bl (z / (G : Int)).natAbs).length ≤ 1099511627776 := Nat.le_trans (bl_length_mono (Int.natAbs_ediv_le_natAbs _ _)) (by omega)
  have q4 : (bl (W / (G : Int)).natAbs).length ≤ 1099511627776 := Nat.le_trans (bl_length_mono (Int.natAbs_ediv_le_natAbs _ _)) (by omega)
  have d1 : -(x / (G : Int)) = -x / (G : Int) := (Int.neg_ediv_of_dvd dv1).symm
  have d2 : -(y / (G : Int)) = -y / (G : Int) := (Int.neg_ediv_of_dvd dv2).symm
  have d3 : -(z / (G : Int)) = -z / (G : Int) := (Int.neg_ediv_of_dvd dv3).symm
  have d4 : -(W / (G : Int)) = -W / (G : Int) := (Int.neg_ediv_of_dvd dv4).symm
  have w1 : IntKind.i64.wrap 1 = 1 := i64_in _ (by omega)
  have w2 : IntKind.i64.wrap 2 = 2 := i64_in _ (by omega)
  have w3 : IntKind.i64.wrap 3 = 3 := i64_in _ (by omega)
  have w4 : IntKind.i64.wrap 4 = 4 := i64_in _ (by omega)
  have eW : (W.sign < 0) = (W < 0) := propext Int.sign_neg_iff
  have z00 : 4 - 0 = 4 := rfl
  by_cases hw : w = 0
  · have hfrom : spIFrom [.int .i64 1] = some (.agg ⟨iE W⟩) := by
      rw [← hW]; unfold pW; rw [if_pos hw]; rfl
    simp only [↓R0, R1, rdL, rdH, isCall, istep, ibin, vcells, fillI, setR, flat, okCell, isBase, List.set, List.drop, List.take, List.append, bnds, bhi, blo, srcOf, ↓reduceIte, Nat.reduceEqDiff, Nat.reduceAdd, Nat.reduceLeDiff, reduceCtorEq, Nat.reduceSub, Int.reduceEq, Int.reduceLT, Int.reduceLE, Int.reduceGT, Int.reduceGE, Int.reduceSub, Int.reduceAdd, Int.reduceMul, Int.reduceNe, Int.reduceNeg, Int.reduceToNat, Nat.reduceMul, hw, hfrom, iE, spISign, nW2, eW, rdS, spIGcd, ints, gcds, mkSl, z00, List.foldl_cons, List.foldl_nil, Nat.gcd_zero_left, nl_bl, List.forall_mem_cons, n1, n2, n3, nW, List.not_mem_nil, false_implies, implies_true, hGG, f1, Int.natAbs_natCast]
    by_cases hn : W < 0
    · have sW : sv true (bl W.natAbs) = W := by rw [sv_true, nl_bl]; omega
      simp only [↓R0, R1, rdL, rdH, isCall, istep, ibin, vcells, fillI, setR, flat, okCell, isBase, List.set, List.drop, List.take, List.append, bnds, bhi, blo, srcOf, ↓reduceIte, Nat.reduceEqDiff, Nat.reduceAdd, Nat.reduceLeDiff, reduceCtorEq, Nat.reduceSub, Int.reduceEq, Int.reduceLT, Int.reduceLE, Int.reduceGT, Int.reduceGE, Int.reduceSub, Int.reduceAdd, Int.reduceMul, Int.reduceNe, Int.reduceNeg, Int.reduceToNat, Nat.reduceMul, hn]
      refine lp_step ?_
      simp only [↓R0, R1, rdL, rdH, isCall, istep, ibin, vcells, fillI, setR, flat, okCell, isBase, List.set, List.drop, List.take, List.append, bnds, bhi, blo, srcOf, ↓reduceIte, Nat.reduceEqDiff, Nat.reduceAdd, Nat.reduceLeDiff, reduceCtorEq, Nat.reduceSub, Int.reduceEq, Int.reduceLT, Int.reduceLE, Int.reduceGT, Int.reduceGE, Int.reduceSub, Int.reduceAdd, Int.reduceMul, Int.reduceNe, Int.reduceNeg, Int.reduceToNat, Nat.reduceMul, hn, spINeg, spIDiv, sW, n1, n2, n3, nW, mG, f1, f2, f3, f5, q1, q2, q3, q4, d1, d2, d3, d4, w1, w2, w3, w4, iE]
      refine lp_step ?_
      simp only [↓R0, R1, rdL, rdH, isCall, istep, ibin, vcells, fillI, setR, flat, okCell, isBase, List.set, List.drop, List.take, List.append, bnds, bhi, blo, srcOf, ↓reduceIte, Nat.reduceEqDiff, Nat.reduceAdd, Nat.reduceLeDiff, reduceCtorEq, Nat.reduceSub, Int.reduceEq, Int.reduceLT, Int.reduceLE, Int.reduceGT, Int.reduceGE, Int.reduceSub, Int.reduceAdd, Int.reduceMul, Int.reduceNe, Int.reduceNeg, Int.reduceToNat, Nat.reduceMul, hn, spINeg, spIDiv, sW, n1, n2, n3, nW, mG, f1, f2, f3, f5, q1, q2, q3, q4, d1, d2, d3, d4, w1, w2, w3, w4, iE]
      refine lp_step ?_
      simp only [↓R0, R1, rdL, rdH, isCall, istep, ibin, vcells, fillI, setR, flat, okCell, isBase, List.set, List.drop, List.take, List.append, bnds, bhi, blo, srcOf, ↓reduceIte, Nat.reduceEqDiff, Nat.reduceAdd, Nat.reduceLeDiff, reduceCtorEq, Nat.reduceSub, Int.reduceEq, Int.reduceLT, Int.reduceLE, Int.reduceGT, Int.reduceGE, Int.reduceSub, Int.reduceAdd, Int.reduceMul, Int.reduceNe, Int.reduceNeg, Int.reduceToNat, Nat.reduceMul, hn, spINeg, spIDiv, sW, n1, n2, n3, nW, mG, f1, f2, f3, f5, q1, q2, q3, q4, d1, d2, d3, d4, w1, w2, w3, w4, iE]
      refine lp_step ?_
      simp only [↓R0, R1, rdL, rdH, isCall, istep, ibin, vcells, fillI, setR, flat, okCell, isBase, List.set, List.drop, List.take, List.append, bnds, bhi, blo, srcOf, ↓reduceIte, Nat.reduceEqDiff, Nat.reduceAdd, Nat.reduceLeDiff, reduceCtorEq, Nat.reduceSub, Int.reduceEq, Int.reduceLT, Int.reduceLE, Int.reduceGT, Int.reduceGE, Int.reduceSub, Int.reduceAdd, Int.reduceMul, Int.reduceNe, Int.reduceNeg, Int.reduceToNat, Nat.reduceMul, hn, spINeg, spIDiv, sW, n1, n2, n3, nW, mG, f1, f2, f3, f5, q1, q2, q3, q4, d1, d2, d3, d4, w1, w2, w3, w4, iE]
      refine lp_step ?_
      simp only [↓R0, R1, rdL, rdH, isCall, istep, ibin, vcells, fillI, setR, flat, okCell, isBase, List.set, List.drop, List.take, List.append, bnds, bhi, blo, srcOf, ↓reduceIte, Nat.reduceEqDiff, Nat.reduceAdd, Nat.reduceLeDiff, reduceCtorEq, Nat.reduceSub, Int.reduceEq, Int.reduceLT, Int.reduceLE, Int.reduceGT, Int.reduceGE, Int.reduceSub, Int.reduceAdd, Int.reduceMul, Int.reduceNe, Int.reduceNeg, Int.reduceToNat, Nat.reduceMul, hn, Fin, isEnd, resL, res1, iE, rE]
      exact ⟨_, rfl, rfl, fun k hk => by simp only [ne_nb hk, if_false]⟩
    · have sW : sv false (bl W.natAbs) = W := by rw [sv_false, nl_bl]; omega
      simp only [↓R0, R1, rdL, rdH, isCall, istep, ibin, vcells, fillI, setR, flat, okCell, isBase, List.set, List.drop, List.take, List.append, bnds, bhi, blo, srcOf, ↓reduceIte, Nat.reduceEqDiff, Nat.reduceAdd, Nat.reduceLeDiff, reduceCtorEq, Nat.reduceSub, Int.reduceEq, Int.reduceLT, Int.reduceLE, Int.reduceGT, Int.reduceGE, Int.reduceSub, Int.reduceAdd, Int.reduceMul, Int.reduceNe, Int.reduceNeg, Int.reduceToNat, Nat.reduceMul, hn]
      refine lp_step ?_
      simp only [↓R0, R1, rdL, rdH, isCall, istep, ibin, vcells, fillI, setR, flat, okCell, isBase, List.set, List.drop, List.take, List.append, bnds, bhi, blo, srcOf, ↓reduceIte, Nat.reduceEqDiff, Nat.reduceAdd, Nat.reduceLeDiff, reduceCtorEq, Nat.reduceSub, Int.reduceEq, Int.reduceLT, Int.reduceLE, Int.reduceGT, Int.reduceGE, Int.reduceSub, Int.reduceAdd, Int.reduceMul, Int.reduceNe, Int.reduceNeg, Int.reduceToNat, Nat.reduceMul, hn, spINeg, spIDiv, sW, n1, n2, n3, nW, mG, f1, f2, f3, f5, q1, q2, q3, q4, d1, d2, d3, d4, w1, w2, w3, w4, iE]
      refine lp_step ?_
      simp only [↓R0, R1, rdL, rdH, isCall, istep, ibin, vcells, fillI, setR, flat, okCell, isBase, List.set, List.drop, List.take, List.append, bnds, bhi, blo, srcOf, ↓reduceIte, Nat.reduceEqDiff, Nat.reduceAdd, Nat.reduceLeDiff, reduceCtorEq, Nat.reduceSub, Int.reduceEq, Int.reduceLT, Int.reduceLE, Int.reduceGT, Int.reduceGE, Int.reduceSub, Int.reduceAdd, Int.reduceMul, Int.reduceNe, Int.reduceNeg, Int.reduceToNat, Nat.reduceMul, hn, spINeg, spIDiv, sW, n1, n2, n3, nW, mG, f1, f2, f3, f5, q1, q2, q3, q4, d1, d2, d3, d4, w1, w2, w3, w4, iE]
      refine lp_step ?_
      simp only [↓R0, R1, rdL, rdH, isCall, istep, ibin, vcells, fillI, setR, flat, okCell, isBase, List.set, List.drop, List.take, List.append, bnds, bhi, blo, srcOf, ↓reduceIte, Nat.reduceEqDiff, Nat.reduceAdd, Nat.reduceLeDiff, reduceCtorEq, Nat.reduceSub, Int.reduceEq, Int.reduceLT, Int.reduceLE, Int.reduceGT, Int.reduceGE, Int.reduceSub, Int.reduceAdd, Int.reduceMul, Int.reduceNe, Int.reduceNeg, Int.reduceToNat, Nat.reduceMul, hn, spINeg, spIDiv, sW, n1, n2, n3, nW, mG, f1, f2, f3, f5, q1, q2, q3, q4, d1, d2, d3, d4, w1, w2, w3, w4, iE]
      refine lp_step ?_
      simp only [↓R0, R1, rdL, rdH, isCall, istep, ibin, vcells, fillI, setR, flat, okCell, isBase, List.set, List.drop, List.take, List.append, bnds, bhi, blo, srcOf, ↓reduceIte, Nat.reduceEqDiff, Nat.reduceAdd, Nat.reduceLeDiff, reduceCtorEq, Nat.reduceSub, Int.reduceEq, Int.reduceLT, Int.reduceLE, Int.reduceGT, Int.reduceGE, Int.reduceSub, Int.reduceAdd, Int.reduceMul, Int.reduceNe, Int.reduceNeg, Int.reduceToNat, Nat.reduceMul, hn, spINeg, spIDiv, sW, n1, n2, n3, nW, mG, f1, f2, f3, f5, q1, q2, q3, q4, d1, d2, d3, d4, w1, w2, w3, w4, iE]
      refine lp_step ?_
      simp only [↓R0, R1, rdL, rdH, isCall, istep, ibin, vcells, fillI, setR, flat, okCell, isBase, List.set, List.drop, List.take, List.append, bnds, bhi, blo, srcOf, ↓reduceIte, Nat.reduceEqDiff, Nat.reduceAdd, Nat.reduceLeDiff, reduceCtorEq, Nat.reduceSub, Int.reduceEq, Int.reduceLT, Int.reduceLE, Int.reduceGT, Int.reduceGE, Int.reduceSub, Int.reduceAdd, Int.reduceMul, Int.reduceNe, Int.reduceNeg, Int.reduceToNat, Nat.reduceMul, hn, Fin, isEnd, resL, res1, iE, rE]
      exact ⟨_, rfl, rfl, fun k hk => by simp only [ne_nb hk, if_false]⟩
  · have hWw : W = w := by rw [← hW]; unfold pW; rw [if_neg hw]
    subst hWw
    simp only [↓R0, R1, rdL, rdH, isCall, istep, ibin, vcells, fillI, setR, flat, okCell, isBase, List.set, List.drop, List.take, List.append, bnds, bhi, blo, srcOf, ↓reduceIte, Nat.reduceEqDiff, Nat.reduceAdd, Nat.reduceLeDiff, reduceCtorEq, Nat.reduceSub, Int.reduceEq, Int.reduceLT, Int.reduceLE, Int.reduceGT, Int.reduceGE, Int.reduceSub, Int.reduceAdd, Int.reduceMul, Int.reduceNe, Int.reduceNeg, Int.reduceToNat, Nat.reduceMul, hw, iE, spISign, nW2, eW, rdS, spIGcd, ints, gcds, mkSl, z00, List.foldl_cons, List.foldl_nil, Nat.gcd_zero_left, nl_bl, List.forall_mem_cons, n1, n2, n3, nW, List.not_mem_nil, false_implies, implies_true, hGG, f1, Int.natAbs_natCast]
    by_cases hn : W < 0
    · have sW : sv true (bl W.natAbs) = W := by rw [sv_true, nl_bl]; omega
      simp only [↓R0, R1, rdL, rdH, isCall, istep, ibin, vcells, fillI, setR, flat, okCell, isBase, List.set, List.drop, List.take, List.append, bnds, bhi, blo, srcOf, ↓reduceIte, Nat.reduceEqDiff, Nat.reduceAdd, Nat.reduceLeDiff, reduceCtorEq, Nat.reduceSub, Int.reduceEq, Int.reduceLT, Int.reduceLE, Int.reduceGT, Int.reduceGE, Int.reduceSub, Int.reduceAdd, Int.reduceMul, Int.reduceNe, Int.reduceNeg, Int.reduceToNat, Nat.reduceMul, hn]
      refine lp_step ?_
      simp only [↓R0, R1, rdL, rdH, isCall, istep, ibin, vcells, fillI, setR, flat, okCell, isBase, List.set, List.drop, List.take, List.append, bnds, bhi, blo, srcOf, ↓reduceIte, Nat.reduceEqDiff, Nat.reduceAdd, Nat.reduceLeDiff, reduceCtorEq, Nat.reduceSub, Int.reduceEq, Int.reduceLT, Int.reduceLE, Int.reduceGT, Int.reduceGE, Int.reduceSub, Int.reduceAdd, Int.reduceMul, Int.reduceNe, Int.reduceNeg, Int.reduceToNat, Nat.reduceMul, hn, spINeg, spIDiv, sW, n1, n2, n3, nW, mG, f1, f2, f3, f5, q1, q2, q3, q4, d1, d2, d3, d4, w1, w2, w3, w4, iE]
      refine lp_step ?_
      simp only [↓R0, R1, rdL, rdH, isCall, istep, ibin, vcells, fillI, setR, flat, okCell, isBase, List.set, List.drop, List.take, List.append, bnds, bhi, blo, srcOf, ↓reduceIte, Nat.reduceEqDiff, Nat.reduceAdd, Nat.reduceLeDiff, reduceCtorEq, Nat.reduceSub, Int.reduceEq, Int.reduceLT, Int.reduceLE, Int.reduceGT, Int.reduceGE, Int.reduceSub, Int.reduceAdd, Int.reduceMul, Int.reduceNe, Int.reduceNeg, Int.reduceToNat, Nat.reduceMul, hn, spINeg, spIDiv, sW, n1, n2, n3, nW, mG, f1, f2, f3, f5, q1, q2, q3, q4, d1, d2, d3, d4, w1, w2, w3, w4, iE]
      refine lp_step ?_
      simp only [↓R0, R1, rdL, rdH, isCall, istep, ibin, vcells, fillI, setR, flat, okCell, isBase, List.set, List.drop, List.take, List.append, bnds, bhi, blo, srcOf, ↓reduceIte, Nat.reduceEqDiff, Nat.reduceAdd, Nat.reduceLeDiff, reduceCtorEq, Nat.reduceSub, Int.reduceEq, Int.reduceLT, Int.reduceLE, Int.reduceGT, Int.reduceGE, Int.reduceSub, Int.reduceAdd, Int.reduceMul, Int.reduceNe, Int.reduceNeg, Int.reduceToNat, Nat.reduceMul, hn, spINeg, spIDiv, sW, n1, n2, n3, nW, mG, f1, f2, f3, f5, q1, q2, q3, q4, d1, d2, d3, d4, w1, w2, w3, w4, iE]
      refine lp_step ?_
      simp only [↓R0, R1, rdL, rdH, isCall, istep, ibin, vcells, fillI, setR, flat, okCell, isBase, List.set, List.drop, List.take, List.append, bnds, bhi, blo, srcOf, ↓reduceIte, Nat.reduceEqDiff, Nat.reduceAdd, Nat.reduceLeDiff, reduceCtorEq, Nat.reduceSub, Int.reduceEq, Int.reduceLT, Int.reduceLE, Int.reduceGT, Int.reduceGE, Int.reduceSub, Int.reduceAdd, Int.reduceMul, Int.reduceNe, Int.reduceNeg, Int.reduceToNat, Nat.reduceMul, hn, spINeg, spIDiv, sW, n1, n2, n3, nW, mG, f1, f2, f3, f5, q1, q2, q3, q4, d1, d2, d3, d4, w1, w2, w3, w4, iE]
      refine lp_step ?_
      simp only [↓R0, R1, rdL, rdH, isCall, istep, ibin, vcells, fillI, setR, flat, okCell, isBase, List.set, List.drop, List.take, List.append, bnds, bhi, blo, srcOf, ↓reduceIte, Nat.reduceEqDiff, Nat.reduceAdd, Nat.reduceLeDiff, reduceCtorEq, Nat.reduceSub, Int.reduceEq, Int.reduceLT, Int.reduceLE, Int.reduceGT, Int.reduceGE, Int.reduceSub, Int.reduceAdd, Int.reduceMul, Int.reduceNe, Int.reduceNeg, Int.reduceToNat, Nat.reduceMul, hn, Fin, isEnd, resL, res1, iE, rE]
      exact ⟨_, rfl, rfl, fun k hk => by simp only [ne_nb hk, if_false]⟩
    · have sW : sv false (bl W.natAbs) = W := by rw [sv_false, nl_bl]; omega
      simp only [↓R0, R1, rdL, rdH, isCall, istep, ibin, vcells, fillI, setR, flat, okCell, isBase, List.set, List.drop, List.take, List.append, bnds, bhi, blo, srcOf, ↓reduceIte, Nat.reduceEqDiff, Nat.reduceAdd, Nat.reduceLeDiff, reduceCtorEq, Nat.reduceSub, Int.reduceEq, Int.reduceLT, Int.reduceLE, Int.reduceGT, Int.reduceGE, Int.reduceSub, Int.reduceAdd, Int.reduceMul, Int.reduceNe, Int.reduceNeg, Int.reduceToNat, Nat.reduceMul, hn]
      refine lp_step ?_
      simp only [↓R0, R1, rdL, rdH, isCall, istep, ibin, vcells, fillI, setR, flat, okCell, isBase, List.set, List.drop, List.take, List.append, bnds, bhi, blo, srcOf, ↓reduceIte, Nat.reduceEqDiff, Nat.reduceAdd, Nat.reduceLeDiff, reduceCtorEq, Nat.reduceSub, Int.reduceEq, Int.reduceLT, Int.reduceLE, Int.reduceGT, Int.reduceGE, Int.reduceSub, Int.reduceAdd, Int.reduceMul, Int.reduceNe, Int.reduceNeg, Int.reduceToNat, Nat.reduceMul, hn, spINeg, spIDiv, sW, n1, n2, n3, nW, mG, f1, f2, f3, f5, q1, q2, q3, q4, d1, d2, d3, d4, w1, w2, w3, w4, iE]
      refine lp_step ?_
      simp only [↓R0, R1, rdL, rdH, isCall, istep, ibin, vcells, fillI, setR, flat, okCell, isBase, List.set, List.drop, List.take, List.append, bnds, bhi, blo, srcOf, ↓reduceIte, Nat.reduceEqDiff, Nat.reduceAdd, Nat.reduceLeDiff, reduceCtorEq, Nat.reduceSub, Int.reduceEq, Int.reduceLT, Int.reduceLE, Int.reduceGT, Int.reduceGE, Int.reduceSub, Int.reduceAdd, Int.reduceMul, Int.reduceNe, Int.reduceNeg, Int.reduceToNat, Nat.reduceMul, hn, spINeg, spIDiv, sW, n1, n2, n3, nW, mG, f1, f2, f3, f5, q1, q2, q3, q4, d1, d2, d3, d4, w1, w2, w3, w4, iE]
      refine lp_step ?_
      simp only [↓R0, R1, rdL, rdH, isCall, istep, ibin, vcells, fillI, setR, flat, okCell, isBase, List.set, List.drop, List.take, List.append, bnds, bhi, blo, srcOf, ↓reduceIte, Nat.reduceEqDiff, Nat.reduceAdd, Nat.reduceLeDiff, reduceCtorEq, Nat.reduceSub, Int.reduceEq, Int.reduceLT, Int.reduceLE, Int.reduceGT, Int.reduceGE, Int.reduceSub, Int.reduceAdd, Int.reduceMul, Int.reduceNe, Int.reduceNeg, Int.reduceToNat, Nat.reduceMul, hn, spINeg, spIDiv, sW, n1, n2, n3, nW, mG, f1, f2, f3, f5, q1, q2, q3, q4, d1, d2, d3, d4, w1, w2, w3, w4, iE]
      refine lp_step ?_
      simp only [↓R0, R1, rdL, rdH, isCall, istep, ibin, vcells, fillI, setR, flat, okCell, isBase, List.set, List.drop, List.take, List.append, bnds, bhi, blo, srcOf, ↓reduceIte, Nat.reduceEqDiff, Nat.reduceAdd, Nat.reduceLeDiff, reduceCtorEq, Nat.reduceSub, Int.reduceEq, Int.reduceLT, Int.reduceLE, Int.reduceGT, Int.reduceGE, Int.reduceSub, Int.reduceAdd, Int.reduceMul, Int.reduceNe, Int.reduceNeg, Int.reduceToNat, Nat.reduceMul, hn, spINeg, spIDiv, sW, n1, n2, n3, nW, mG, f1, f2, f3, f5, q1, q2, q3, q4, d1, d2, d3, d4, w1, w2, w3, w4, iE]
      refine lp_step ?_
      simp only [↓R0, R1, rdL, rdH, isCall, istep, ibin, vcells, fillI, setR, flat, okCell, isBase, List.set, List.drop, List.take, List.append, bnds, bhi, blo, srcOf, ↓reduceIte, Nat.reduceEqDiff, Nat.reduceAdd, Nat.reduceLeDiff, reduceCtorEq, Nat.reduceSub, Int.reduceEq, Int.reduceLT, Int.reduceLE, Int.reduceGT, Int.reduceGE, Int.reduceSub, Int.reduceAdd, Int.reduceMul, Int.reduceNe, Int.reduceNeg, Int.reduceToNat, Nat.reduceMul, hn, Fin, isEnd, resL, res1, iE, rE]
      exact ⟨_, rfl, rfl, fun k hk => by simp only [ne_nb hk, if_false]⟩
end Go.Eng
end
section
set_option linter.unusedVariables false
set_option linter.unusedSimpArgs false
set_option linter.unusedSectionVars false
set_option maxRecDepth 8000
namespace Go.Eng
open Go Go.Proofs Go.IntWalk
theorem lmul {a b : Int} {i j k : Nat} (ha : (bl a.natAbs).length ≤ i) (hb : (bl b.natAbs).length ≤ j) (h : i + j ≤ k) : (bl (a * b).natAbs).length ≤ k := by
  rw [Int.natAbs_mul]
  exact Nat.le_trans (bl_length_mul _ _) (by omega)
theorem ladd {a b : Int} {i j k : Nat} (ha : (bl a.natAbs).length ≤ i) (hb : (bl b.natAbs).length ≤ j) (h : max i j + 1 ≤ k) : (bl (a + b).natAbs).length ≤ k := by
  refine Nat.le_trans (bl_length_mono (Int.natAbs_add_le a b)) ?_
  exact Nat.le_trans (bl_length_add (k := max i j) (by omega) (by omega)) h
theorem lsub {a b : Int} {i j k : Nat} (ha : (bl a.natAbs).length ≤ i) (hb : (bl b.natAbs).length ≤ j) (h : max i j + 1 ≤ k) : (bl (a - b).natAbs).length ≤ k := by
  rw [Int.sub_eq_add_neg]
  exact ladd ha (by rw [Int.natAbs_neg]; exact hb) h
theorem lle {a : Int} {i k : Nat} (ha : (bl a.natAbs).length ≤ i) (h : i ≤ k) : (bl a.natAbs).length ≤ k := Nat.le_trans ha h
def spXNormal : List Value → Option Value
  | [.agg ⟨[.bool s1, .string ⟨⟨l1⟩⟩, .bool s2, .string ⟨⟨l2⟩⟩, .bool s3, .string ⟨⟨l3⟩⟩, .bool s4, .string ⟨⟨l4⟩⟩]⟩] => some (.agg ⟨[.bool s1, .string ⟨⟨l1⟩⟩, .bool s2, .string ⟨⟨l2⟩⟩, .bool s3, .string ⟨⟨l3⟩⟩]⟩)
  | _ => none
def c27 : ICode :=
  (.seq (.reg [⟨(some 1), none, (.box 25 8 (.t 0))⟩, ⟨(some 2), none, (.alloc 56 6 [(.bool false), (.string ⟨⟨[]⟩⟩), (.bool false), (.string ⟨⟨[]⟩⟩), (.bool false), (.string ⟨⟨[]⟩⟩)])⟩])
  (.seq (.reg [⟨(some 3), none, (.faddr 0 (.t 1))⟩, ⟨(some 4), none, (.load true 2 (.t 3))⟩, ⟨(some 5), none, (.faddr 2 (.t 1))⟩, ⟨(some 6), none, (.load true 2 (.t 5))⟩, ⟨(some 7), none, (.faddr 4 (.t 1))⟩, ⟨(some 8), none, (.load true 2 (.t 7))⟩, ⟨(some 9), none, (.build [(.bool false), (.string ⟨⟨[]⟩⟩), (.bool false), (.string ⟨⟨[]⟩⟩), (.bool false), (.string ⟨⟨[]⟩⟩)] [(0, 2, (.t 4)), (2, 2, (.t 6)), (4, 2, (.t 8))])⟩, ⟨none, none, (.store 6 (.t 2) (.t 9))⟩])
  .ret))
theorem tr27 : trFun Tryd.prog 27 = some ⟨10, [.cell 2 true 6], c27⟩ := by kernel_rfl
theorem ok_xNormal : SpecOK Tryd.prog 27 (flat spXNormal) := by
  refine flat_run (env_nil _) mixed tr27 ?_
  intro args v h N hG
  unfold spXNormal at hG
  split at hG
  case h_2 => cases hG
  cases hG
  refine ⟨rfl, by simp, ?_⟩
  simp only [c27, initT, List.zipIdx_cons, List.zipIdx_nil, List.map_cons, List.map_nil, Nat.reduceAdd]
  simp only [↓R0, R1, rdL, rdH, isCall, istep, ibin, vcells, fillI, setR, flat, okCell, isBase, List.set, List.drop, List.take, List.append, bnds, bhi, blo, srcOf, ↓reduceIte, Nat.reduceEqDiff, Nat.reduceAdd, Nat.reduceLeDiff, reduceCtorEq, Nat.reduceSub, Int.reduceEq, Int.reduceLT, Int.reduceLE, Int.reduceGT, Int.reduceGE, Int.reduceSub, Int.reduceAdd, Int.reduceMul, Int.reduceNe, Int.reduceNeg, Int.reduceToNat, Nat.reduceMul, Fin, isEnd, resL, res1, iE, rE]
  exact ⟨_, rfl, rfl, fun k hk => by simp only [ne_nb hk, if_false]⟩
def tE (x y z : Int) : List Value := iE x ++ iE y ++ iE z
def spXCross : List Value → Option Value
  | [.agg ⟨[.bool s1, .string ⟨⟨l1⟩⟩, .bool s2, .string ⟨⟨l2⟩⟩, .bool s3, .string ⟨⟨l3⟩⟩]⟩, .agg ⟨[.bool t1, .string ⟨⟨m1⟩⟩, .bool t2, .string ⟨⟨m2⟩⟩, .bool t3, .string ⟨⟨m3⟩⟩]⟩] =>
    if l1.length ≤ 4294967296 ∧ l2.length ≤ 4294967296 ∧ l3.length ≤ 4294967296 ∧ m1.length ≤ 4294967296 ∧ m2.length ≤ 4294967296 ∧ m3.length ≤ 4294967296 then
      some (.agg ⟨tE (sv s2 l2 * sv t3 m3 - sv s3 l3 * sv t2 m2) (sv s3 l3 * sv t1 m1 - sv s1 l1 * sv t3 m3) (sv s1 l1 * sv t2 m2 - sv s2 l2 * sv t1 m1)⟩) else none
  | _ => none
def c26 : ICode :=
  (.seq (.reg [⟨(some 2), none, (.box 56 6 (.t 0))⟩, ⟨(some 3), none, (.box 56 6 (.t 1))⟩, ⟨(some 4), none, (.alloc 56 6 [(.bool false), (.string ⟨⟨[]⟩⟩), (.bool false), (.string ⟨⟨[]⟩⟩), (.bool false), (.string ⟨⟨[]⟩⟩)])⟩])
  (.seq (.reg [⟨(some 5), none, (.alloc 56 6 [(.bool false), (.string ⟨⟨[]⟩⟩), (.bool false), (.string ⟨⟨[]⟩⟩), (.bool false), (.string ⟨⟨[]⟩⟩)])⟩])
  (.seq (.seq (.reg [⟨(some 9), none, (.mv (.c (.int .i64 0)))⟩])
  (.block 0 (.loop (.seq (.reg [⟨(some 10), none, (.bin .lss (.t 9) (.c (.int .i64 3)))⟩])
  (.seq (.cond (.t 10)
  .skip
  (.exit 0))
  (.seq (.block 1 (.seq (.reg [⟨(some 11), none, (.mv (.t 9))⟩, ⟨(some 6), none, (.mv (.t 11))⟩])
  (.seq (.reg [⟨(some 12), none, (.mv (.t 6))⟩, ⟨(some 13), none, (.bin .add (.t 12) (.c (.int .i64 1)))⟩, ⟨(some 14), none, (.bin .rem (.t 13) (.c (.int .i64 3)))⟩, ⟨(some 15), none, (.mv (.t 6))⟩, ⟨(some 16), none, (.bin .add (.t 15) (.c (.int .i64 2)))⟩, ⟨(some 17), none, (.bin .rem (.t 16) (.c (.int .i64 3)))⟩, ⟨(some 7), none, (.mv (.t 14))⟩, ⟨(some 8), none, (.mv (.t 17))⟩])
  (.dreg [⟨(some 18), none, [], (.mv (.t 6))⟩, ⟨(some 19), none, [], (.mv (.t 7))⟩, ⟨(some 20), none, [], (.ixarr 3 2 (.t 2) (.t 19))⟩, ⟨(some 21), none, [], (.load true 2 (.t 20))⟩, ⟨(some 22), none, [], (.mv (.t 8))⟩, ⟨(some 23), none, [], (.ixarr 3 2 (.t 3) (.t 22))⟩, ⟨(some 24), none, [], (.load true 2 (.t 23))⟩, ⟨(some 25), none, [], (.call 29 [(.t 21), (.t 24)])⟩, ⟨(some 26), none, [], (.mv (.t 8))⟩, ⟨(some 27), none, [], (.ixarr 3 2 (.t 2) (.t 26))⟩, ⟨(some 28), none, [7], (.load true 2 (.t 27))⟩, ⟨(some 29), none, [], (.mv (.t 7))⟩, ⟨(some 30), none, [], (.ixarr 3 2 (.t 3) (.t 29))⟩, ⟨(some 31), none, [7], (.load true 2 (.t 30))⟩, ⟨(some 32), none, [], (.call 29 [(.t 28), (.t 31)])⟩, ⟨(some 33), none, [], (.call 35 [(.t 25), (.t 32)])⟩, ⟨(some 34), none, [], (.ixarr 3 2 (.t 5) (.t 18))⟩, ⟨none, none, [], (.store 2 (.t 34) (.t 33))⟩]))))
  (.reg [⟨(some 35), none, (.bin .add (.t 9) (.c (.int .i64 1)))⟩, ⟨(some 9), none, (.mv (.t 35))⟩])))))))
  (.seq (.reg [⟨(some 36), none, (.load true 6 (.t 5))⟩, ⟨none, none, (.store 6 (.t 4) (.t 36))⟩])
  .ret))))
theorem tr26 : trFun Tryd.prog 26 = some ⟨37, [.cell 4 true 6], c26⟩ := by kernel_rfl
set_option maxHeartbeats 2000000 in
theorem ok_xCross : SpecOK Tryd.prog 26 (flat spXCross) := by
  refine flat_run (env_cons ok_iMul (env_cons ok_iSub (env_nil _))) mixed tr26 ?_
  intro args v h N hG
  unfold spXCross at hG
  split at hG
  case h_2 => cases hG
  rename_i s1 l1 s2 l2 s3 l3 t1 m1 t2 m2 t3 m3
  split at hG
  case isFalse => cases hG
  rename_i hl
  obtain ⟨h1, h2, h3, h4, h5, h6⟩ := hl
  cases hG
  refine ⟨rfl, by simp, ?_⟩
  have a1 : l1.length ≤ 34359738368 := by omega
  have a2 : l2.length ≤ 34359738368 := by omega
  have a3 : l3.length ≤ 34359738368 := by omega
  have b1 : m1.length ≤ 34359738368 := by omega
  have b2 : m2.length ≤ 34359738368 := by omega
  have b3 : m3.length ≤ 34359738368 := by omega
  have n1 := len_sv (s := s1) h1
  have n2 := len_sv (s := s2) h2
  have n3 := len_sv (s := s3) h3
  have n4 := len_sv (s := t1) h4
  have n5 := len_sv (s := t2) h5
  have n6 := len_sv (s := t3) h6
  have p1 := lmul (k := 68719476736) n2 n6 (by omega)
  have p2 := lmul (k := 68719476736) n3 n5 (by omega)
  have p3 := lmul (k := 68719476736) n3 n4 (by omega)
  have p4 := lmul (k := 68719476736) n1 n6 (by omega)
  have p5 := lmul (k := 68719476736) n1 n5 (by omega)
  have p6 := lmul (k := 68719476736) n2 n4 (by omega)
  have w1 : IntKind.i64.wrap 1 = 1 := i64_in _ (by omega)
  have w2 : IntKind.i64.wrap 2 = 2 := i64_in _ (by omega)
  have w3 : IntKind.i64.wrap 3 = 3 := i64_in _ (by omega)
  have w4 : IntKind.i64.wrap 4 = 4 := i64_in _ (by omega)
  have r1 : Int.tmod 1 3 = 1 := rfl
  have r2 : Int.tmod 2 3 = 2 := rfl
  have r3 : Int.tmod 3 3 = 0 := rfl
  have r4 : Int.tmod 4 3 = 1 := rfl
  simp only [c26, initT, List.zipIdx_cons, List.zipIdx_nil, List.map_cons, List.map_nil, Nat.reduceAdd]
  simp only [↓R0, R1, rdL, rdH, isCall, istep, ibin, vcells, fillI, setR, flat, okCell, isBase, List.set, List.drop, List.take, List.append, bnds, bhi, blo, srcOf, ↓reduceIte, Nat.reduceEqDiff, Nat.reduceAdd, Nat.reduceLeDiff, reduceCtorEq, Nat.reduceSub, Int.reduceEq, Int.reduceLT, Int.reduceLE, Int.reduceGT, Int.reduceGE, Int.reduceSub, Int.reduceAdd, Int.reduceMul, Int.reduceNe, Int.reduceNeg, Int.reduceToNat, Nat.reduceMul]
  refine lp_step ?_
  simp only [↓R0, R1, rdL, rdH, isCall, istep, ibin, vcells, fillI, setR, flat, okCell, isBase, List.set, List.drop, List.take, List.append, bnds, bhi, blo, srcOf, ↓reduceIte, Nat.reduceEqDiff, Nat.reduceAdd, Nat.reduceLeDiff, reduceCtorEq, Nat.reduceSub, Int.reduceEq, Int.reduceLT, Int.reduceLE, Int.reduceGT, Int.reduceGE, Int.reduceSub, Int.reduceAdd, Int.reduceMul, Int.reduceNe, Int.reduceNeg, Int.reduceToNat, Nat.reduceMul, a1, a2, a3, b1, b2, b3, p1, p2, p3, p4, p5, p6, w1, w2, w3, w4, r1, r2, r3, r4, spIMul, spISub, iE]
  refine lp_step ?_
  simp only [↓R0, R1, rdL, rdH, isCall, istep, ibin, vcells, fillI, setR, flat, okCell, isBase, List.set, List.drop, List.take, List.append, bnds, bhi, blo, srcOf, ↓reduceIte, Nat.reduceEqDiff, Nat.reduceAdd, Nat.reduceLeDiff, reduceCtorEq, Nat.reduceSub, Int.reduceEq, Int.reduceLT, Int.reduceLE, Int.reduceGT, Int.reduceGE, Int.reduceSub, Int.reduceAdd, Int.reduceMul, Int.reduceNe, Int.reduceNeg, Int.reduceToNat, Nat.reduceMul, a1, a2, a3, b1, b2, b3, p1, p2, p3, p4, p5, p6, w1, w2, w3, w4, r1, r2, r3, r4, spIMul, spISub, iE]
  refine lp_step ?_
  simp only [↓R0, R1, rdL, rdH, isCall, istep, ibin, vcells, fillI, setR, flat, okCell, isBase, List.set, List.drop, List.take, List.append, bnds, bhi, blo, srcOf, ↓reduceIte, Nat.reduceEqDiff, Nat.reduceAdd, Nat.reduceLeDiff, reduceCtorEq, Nat.reduceSub, Int.reduceEq, Int.reduceLT, Int.reduceLE, Int.reduceGT, Int.reduceGE, Int.reduceSub, Int.reduceAdd, Int.reduceMul, Int.reduceNe, Int.reduceNeg, Int.reduceToNat, Nat.reduceMul, a1, a2, a3, b1, b2, b3, p1, p2, p3, p4, p5, p6, w1, w2, w3, w4, r1, r2, r3, r4, spIMul, spISub, iE]
  refine lp_step ?_
  simp only [↓R0, R1, rdL, rdH, isCall, istep, ibin, vcells, fillI, setR, flat, okCell, isBase, List.set, List.drop, List.take, List.append, bnds, bhi, blo, srcOf, ↓reduceIte, Nat.reduceEqDiff, Nat.reduceAdd, Nat.reduceLeDiff, reduceCtorEq, Nat.reduceSub, Int.reduceEq, Int.reduceLT, Int.reduceLE, Int.reduceGT, Int.reduceGE, Int.reduceSub, Int.reduceAdd, Int.reduceMul, Int.reduceNe, Int.reduceNeg, Int.reduceToNat, Nat.reduceMul, tE, Fin, isEnd, resL, res1, iE, rE]
  exact ⟨_, rfl, rfl, fun k hk => by simp only [ne_nb hk, if_false]⟩
def spXDot : List Value → Option Value
  | [.agg ⟨[.bool s1, .string ⟨⟨l1⟩⟩, .bool s2, .string ⟨⟨l2⟩⟩, .bool s3, .string ⟨⟨l3⟩⟩]⟩, .agg ⟨[.bool t1, .string ⟨⟨m1⟩⟩, .bool t2, .string ⟨⟨m2⟩⟩, .bool t3, .string ⟨⟨m3⟩⟩]⟩] =>
    if l1.length ≤ 17179869184 ∧ l2.length ≤ 17179869184 ∧ l3.length ≤ 17179869184 ∧ m1.length ≤ 17179869184 ∧ m2.length ≤ 17179869184 ∧ m3.length ≤ 17179869184 then
      some (.agg ⟨iE (sv s1 l1 * sv t1 m1 + sv s2 l2 * sv t2 m2 + sv s3 l3 * sv t3 m3)⟩) else none
  | _ => none
def c31 : ICode :=
  (.seq (.reg [⟨(some 2), none, (.box 56 6 (.t 0))⟩, ⟨(some 3), none, (.box 56 6 (.t 1))⟩, ⟨(some 4), none, (.alloc 23 2 [(.bool false), (.string ⟨⟨[]⟩⟩)])⟩])
  (.seq (.reg [⟨(some 5), none, (.alloc 23 2 [(.bool false), (.string ⟨⟨[]⟩⟩)])⟩])
  (.seq (.seq (.reg [⟨(some 7), none, (.mv (.c (.int .i64 0)))⟩])
  (.block 0 (.loop (.seq (.reg [⟨(some 8), none, (.bin .lss (.t 7) (.c (.int .i64 3)))⟩])
  (.seq (.cond (.t 8)
  .skip
  (.exit 0))
  (.seq (.block 1 (.seq (.reg [⟨(some 9), none, (.mv (.t 7))⟩, ⟨(some 6), none, (.mv (.t 9))⟩])
  (.dreg [⟨(some 10), none, [], (.load true 2 (.t 5))⟩, ⟨(some 11), none, [], (.mv (.t 6))⟩, ⟨(some 12), none, [], (.ixarr 3 2 (.t 2) (.t 11))⟩, ⟨(some 13), none, [], (.load true 2 (.t 12))⟩, ⟨(some 14), none, [], (.mv (.t 6))⟩, ⟨(some 15), none, [], (.ixarr 3 2 (.t 3) (.t 14))⟩, ⟨(some 16), none, [], (.load true 2 (.t 15))⟩, ⟨(some 17), none, [], (.call 29 [(.t 13), (.t 16)])⟩, ⟨(some 18), none, [], (.call 28 [(.t 10), (.t 17)])⟩, ⟨none, none, [], (.store 2 (.t 5) (.t 18))⟩])))
  (.reg [⟨(some 19), none, (.bin .add (.t 7) (.c (.int .i64 1)))⟩, ⟨(some 7), none, (.mv (.t 19))⟩])))))))
  (.seq (.reg [⟨(some 20), none, (.load true 2 (.t 5))⟩, ⟨none, none, (.store 2 (.t 4) (.t 20))⟩])
  .ret))))
theorem tr31 : trFun Tryd.prog 31 = some ⟨21, [.cell 4 true 2], c31⟩ := by kernel_rfl
set_option maxHeartbeats 2000000 in
theorem ok_xDot : SpecOK Tryd.prog 31 (flat spXDot) := by
  refine flat_run (env_cons ok_iMul (env_cons ok_iAdd (env_nil _))) mixed tr31 ?_
  intro args v h N hG
  unfold spXDot at hG
  split at hG
  case h_2 => cases hG
  rename_i s1 l1 s2 l2 s3 l3 t1 m1 t2 m2 t3 m3
  split at hG
  case isFalse => cases hG
  rename_i hl
  obtain ⟨h1, h2, h3, h4, h5, h6⟩ := hl
  cases hG
  refine ⟨rfl, by simp, ?_⟩
  have a1 : l1.length ≤ 34359738368 := by omega
  have a2 : l2.length ≤ 34359738368 := by omega
  have a3 : l3.length ≤ 34359738368 := by omega
  have b1 : m1.length ≤ 34359738368 := by omega
  have b2 : m2.length ≤ 34359738368 := by omega
  have b3 : m3.length ≤ 34359738368 := by omega
  have n1 := len_sv (s := s1) h1
  have n2 := len_sv (s := s2) h2
  have n3 := len_sv (s := s3) h3
  have n4 := len_sv (s := t1) h4
  have n5 := len_sv (s := t2) h5
  have n6 := len_sv (s := t3) h6
  have p1 := lmul (k := 34359738368) n1 n4 (by omega)
  have p2 := lmul (k := 34359738368) n2 n5 (by omega)
  have p3 := lmul (k := 34359738368) n3 n6 (by omega)
  have q1 := lle (k := 68719476736) p1 (by omega)
  have q2 := lle (k := 68719476736) p2 (by omega)
  have q3 := lle (k := 68719476736) p3 (by omega)
  have q4 := ladd (k := 68719476736) p1 p2 (by omega)
  have z0 : sv false [] = 0 := rfl
  have w1 : IntKind.i64.wrap 1 = 1 := i64_in _ (by omega)
  have w2 : IntKind.i64.wrap 2 = 2 := i64_in _ (by omega)
  have w3 : IntKind.i64.wrap 3 = 3 := i64_in _ (by omega)
  simp only [c31, initT, List.zipIdx_cons, List.zipIdx_nil, List.map_cons, List.map_nil, Nat.reduceAdd]
  simp only [↓R0, R1, rdL, rdH, isCall, istep, ibin, vcells, fillI, setR, flat, okCell, isBase, List.set, List.drop, List.take, List.append, bnds, bhi, blo, srcOf, ↓reduceIte, Nat.reduceEqDiff, Nat.reduceAdd, Nat.reduceLeDiff, reduceCtorEq, Nat.reduceSub, Int.reduceEq, Int.reduceLT, Int.reduceLE, Int.reduceGT, Int.reduceGE, Int.reduceSub, Int.reduceAdd, Int.reduceMul, Int.reduceNe, Int.reduceNeg, Int.reduceToNat, Nat.reduceMul]
  refine lp_step ?_
  simp only [↓R0, R1, rdL, rdH, isCall, istep, ibin, vcells, fillI, setR, flat, okCell, isBase, List.set, List.drop, List.take, List.append, bnds, bhi, blo, srcOf, ↓reduceIte, Nat.reduceEqDiff, Nat.reduceAdd, Nat.reduceLeDiff, reduceCtorEq, Nat.reduceSub, Int.reduceEq, Int.reduceLT, Int.reduceLE, Int.reduceGT, Int.reduceGE, Int.reduceSub, Int.reduceAdd, Int.reduceMul, Int.reduceNe, Int.reduceNeg, Int.reduceToNat, Nat.reduceMul, a1, a2, a3, b1, b2, b3, q1, q2, q3, q4, w1, w2, w3, z0, Int.zero_add, Nat.zero_le, spIMul, spIAdd, iE]
  refine lp_step ?_
  simp only [↓R0, R1, rdL, rdH, isCall, istep, ibin, vcells, fillI, setR, flat, okCell, isBase, List.set, List.drop, List.take, List.append, bnds, bhi, blo, srcOf, ↓reduceIte, Nat.reduceEqDiff, Nat.reduceAdd, Nat.reduceLeDiff, reduceCtorEq, Nat.reduceSub, Int.reduceEq, Int.reduceLT, Int.reduceLE, Int.reduceGT, Int.reduceGE, Int.reduceSub, Int.reduceAdd, Int.reduceMul, Int.reduceNe, Int.reduceNeg, Int.reduceToNat, Nat.reduceMul, a1, a2, a3, b1, b2, b3, q1, q2, q3, q4, w1, w2, w3, z0, Int.zero_add, Nat.zero_le, spIMul, spIAdd, iE]
  refine lp_step ?_
  simp only [↓R0, R1, rdL, rdH, isCall, istep, ibin, vcells, fillI, setR, flat, okCell, isBase, List.set, List.drop, List.take, List.append, bnds, bhi, blo, srcOf, ↓reduceIte, Nat.reduceEqDiff, Nat.reduceAdd, Nat.reduceLeDiff, reduceCtorEq, Nat.reduceSub, Int.reduceEq, Int.reduceLT, Int.reduceLE, Int.reduceGT, Int.reduceGE, Int.reduceSub, Int.reduceAdd, Int.reduceMul, Int.reduceNe, Int.reduceNeg, Int.reduceToNat, Nat.reduceMul, a1, a2, a3, b1, b2, b3, q1, q2, q3, q4, w1, w2, w3, z0, Int.zero_add, Nat.zero_le, spIMul, spIAdd, iE]
  refine lp_step ?_
  simp only [↓R0, R1, rdL, rdH, isCall, istep, ibin, vcells, fillI, setR, flat, okCell, isBase, List.set, List.drop, List.take, List.append, bnds, bhi, blo, srcOf, ↓reduceIte, Nat.reduceEqDiff, Nat.reduceAdd, Nat.reduceLeDiff, reduceCtorEq, Nat.reduceSub, Int.reduceEq, Int.reduceLT, Int.reduceLE, Int.reduceGT, Int.reduceGE, Int.reduceSub, Int.reduceAdd, Int.reduceMul, Int.reduceNe, Int.reduceNeg, Int.reduceToNat, Nat.reduceMul, Fin, isEnd, resL, res1, iE, rE]
  exact ⟨_, rfl, rfl, fun k hk => by simp only [ne_nb hk, if_false]⟩
def pZ : List Value := [.bool false, .string ⟨⟨[]⟩⟩, .bool false, .string ⟨⟨[]⟩⟩, .bool false, .string ⟨⟨[]⟩⟩, .bool false, .string ⟨⟨[]⟩⟩]
def spXMade : List Value → Option Value
  | [.agg ⟨[.bool s1, .string ⟨⟨l1⟩⟩, .bool s2, .string ⟨⟨l2⟩⟩, .bool s3, .string ⟨⟨l3⟩⟩]⟩, .agg ⟨[.bool s4, .string ⟨⟨l4⟩⟩]⟩] =>
    if l1.length ≤ 34359738368 ∧ l2.length ≤ 34359738368 ∧ l3.length ≤ 34359738368 ∧ l4.length ≤ 34359738368 then
      (if sv s4 l4 = 0 then some (.tuple ⟨[.agg ⟨pZ⟩, .bool false]⟩) else some (.tuple ⟨[.agg ⟨pE (sv s1 l1) (sv s2 l2) (sv s3 l3) (sv s4 l4)⟩, .bool true]⟩)) else none
  | _ => none
def c30 : ICode :=
  (.seq (.reg [⟨(some 2), none, (.box 56 6 (.t 0))⟩, ⟨(some 3), none, (.box 23 2 (.t 1))⟩, ⟨(some 4), none, (.alloc 28 8 [(.bool false), (.string ⟨⟨[]⟩⟩), (.bool false), (.string ⟨⟨[]⟩⟩), (.bool false), (.string ⟨⟨[]⟩⟩), (.bool false), (.string ⟨⟨[]⟩⟩)])⟩, ⟨(some 5), none, (.mv (.c (.bool false)))⟩])
  (.seq (.seq (.reg [⟨(some 6), none, (.load true 2 (.t 3))⟩, ⟨(some 7), none, (.call 54 [(.t 6)])⟩, ⟨(some 8), none, (.bin .eql (.t 7) (.c (.int .i64 0)))⟩])
  (.cond (.t 8)
  (.seq (.reg [⟨(some 9), none, (.build [(.bool false), (.string ⟨⟨[]⟩⟩), (.bool false), (.string ⟨⟨[]⟩⟩), (.bool false), (.string ⟨⟨[]⟩⟩), (.bool false), (.string ⟨⟨[]⟩⟩)] [])⟩, ⟨none, none, (.store 8 (.t 4) (.t 9))⟩, ⟨(some 5), none, (.mv (.c (.bool false)))⟩])
  .ret)
  .skip))
  (.seq (.reg [⟨(some 10), none, (.ixarr 3 2 (.t 2) (.c (.int .i64 0)))⟩, ⟨(some 11), none, (.load true 2 (.t 10))⟩, ⟨(some 12), none, (.ixarr 3 2 (.t 2) (.c (.int .i64 1)))⟩, ⟨(some 13), none, (.load true 2 (.t 12))⟩, ⟨(some 14), none, (.ixarr 3 2 (.t 2) (.c (.int .i64 2)))⟩, ⟨(some 15), none, (.load true 2 (.t 14))⟩, ⟨(some 16), none, (.load true 2 (.t 3))⟩, ⟨(some 17), none, (.build [(.bool false), (.string ⟨⟨[]⟩⟩), (.bool false), (.string ⟨⟨[]⟩⟩), (.bool false), (.string ⟨⟨[]⟩⟩), (.bool false), (.string ⟨⟨[]⟩⟩)] [(0, 2, (.t 11)), (2, 2, (.t 13)), (4, 2, (.t 15)), (6, 2, (.t 16))])⟩, ⟨(some 18), none, (.call 55 [(.t 17)])⟩, ⟨none, none, (.store 8 (.t 4) (.t 18))⟩, ⟨(some 5), none, (.mv (.c (.bool true)))⟩])
  .ret)))
theorem tr30 : trFun Tryd.prog 30 = some ⟨19, [.cell 4 true 8, .t 5], c30⟩ := by kernel_rfl
theorem ok_xMade : SpecOK Tryd.prog 30 (flat spXMade) := by
  refine flat_run (env_cons ok_iSign (env_cons ok_pNorm (env_nil _))) mixed tr30 ?_
  intro args v h N hG
  unfold spXMade at hG
  split at hG
  case h_2 => cases hG
  rename_i s1 l1 s2 l2 s3 l3 s4 l4
  split at hG
  case isFalse => cases hG
  rename_i hl
  obtain ⟨h1, h2, h3, h4⟩ := hl
  have k4 : l4.length ≤ 1099511627776 := by omega
  have e1 : ((sv s4 l4).sign = 0) = (sv s4 l4 = 0) := propext Int.sign_eq_zero_iff_zero
  split at hG
  · rename_i h0
    cases hG
    refine ⟨rfl, by simp, ?_⟩
    simp only [c30, initT, List.zipIdx_cons, List.zipIdx_nil, List.map_cons, List.map_nil, Nat.reduceAdd]
    simp only [↓R0, R1, rdL, rdH, isCall, istep, ibin, vcells, fillI, setR, flat, okCell, isBase, List.set, List.drop, List.take, List.append, bnds, bhi, blo, srcOf, ↓reduceIte, Nat.reduceEqDiff, Nat.reduceAdd, Nat.reduceLeDiff, reduceCtorEq, Nat.reduceSub, Int.reduceEq, Int.reduceLT, Int.reduceLE, Int.reduceGT, Int.reduceGE, Int.reduceSub, Int.reduceAdd, Int.reduceMul, Int.reduceNe, Int.reduceNeg, Int.reduceToNat, Nat.reduceMul, spISign, k4, e1, h0, Int.sign_zero, pZ, Fin, isEnd, resL, res1, iE, rE]
    exact ⟨_, rfl, rfl, fun k hk => by simp only [ne_nb hk, if_false]⟩
  · rename_i h0
    cases hG
    refine ⟨rfl, by simp, ?_⟩
    simp only [c30, initT, List.zipIdx_cons, List.zipIdx_nil, List.map_cons, List.map_nil, Nat.reduceAdd]
    simp only [↓R0, R1, rdL, rdH, isCall, istep, ibin, vcells, fillI, setR, flat, okCell, isBase, List.set, List.drop, List.take, List.append, bnds, bhi, blo, srcOf, ↓reduceIte, Nat.reduceEqDiff, Nat.reduceAdd, Nat.reduceLeDiff, reduceCtorEq, Nat.reduceSub, Int.reduceEq, Int.reduceLT, Int.reduceLE, Int.reduceGT, Int.reduceGE, Int.reduceSub, Int.reduceAdd, Int.reduceMul, Int.reduceNe, Int.reduceNeg, Int.reduceToNat, Nat.reduceMul, spISign, k4, e1, h0, spPNorm, h1, h2, h3, h4, pE, Fin, isEnd, resL, res1, iE, rE]
    exact ⟨_, rfl, rfl, fun k hk => by simp only [ne_nb hk, if_false]⟩
end Go.Eng
end
section
set_option linter.unusedVariables false
set_option linter.unusedSimpArgs false
set_option linter.unusedSectionVars false
namespace Go.Eng
def RB (q : Rat) (k : Nat) : Prop := (bl q.num.natAbs).length ≤ k ∧ (bl q.den).length ≤ k
theorem divInt_RB {N D : Int} {k : Nat} (hD : D ≠ 0) (h1 : (bl N.natAbs).length ≤ k) (h2 : (bl D.natAbs).length ≤ k) : RB (Rat.divInt N D) k := by
  obtain ⟨g1, g2, _⟩ := divInt_cells (N := N) (D := D) hD
  unfold RB
  rw [g1, g2]
  exact ⟨Nat.le_trans (bl_length_mono (Nat.div_le_self _ _)) h1, Nat.le_trans (bl_length_mono (Nat.div_le_self _ _)) h2⟩
theorem Lmul {a b : Int} {i j : Nat} (ha : (bl a.natAbs).length ≤ i) (hb : (bl b.natAbs).length ≤ j) : (bl (a * b).natAbs).length ≤ i + j := by
  rw [Int.natAbs_mul]; exact Nat.le_trans (bl_length_mul _ _) (by omega)
theorem Ladd {a b : Int} {k : Nat} (ha : (bl a.natAbs).length ≤ k) (hb : (bl b.natAbs).length ≤ k) : (bl (a + b).natAbs).length ≤ k + 1 :=
  Nat.le_trans (bl_length_mono (Int.natAbs_add_le a b)) (bl_length_add ha hb)
theorem RB.mul {p q : Rat} {i j k : Nat} (hp : RB p i) (hq : RB q j) (h : i + j ≤ k) : RB (p * q) k := by
  have hp0 := p.den_nz
  have hq0 := q.den_nz
  conv => lhs; rw [← Rat.num_divInt_den p, ← Rat.num_divInt_den q, Rat.divInt_mul_divInt]
  refine divInt_RB (by rw [← Int.natCast_mul]; simp [hp0, hq0]) (Nat.le_trans (Lmul hp.1 hq.1) h) ?_
  exact Nat.le_trans (Lmul (a := (p.den : Int)) (b := (q.den : Int)) hp.2 hq.2) h
theorem RB.add {p q : Rat} {i j k : Nat} (hp : RB p i) (hq : RB q j) (h : i + j + 1 ≤ k) : RB (p + q) k := by
  have hp0 := p.den_nz
  have hq0 := q.den_nz
  conv => lhs; rw [← Rat.num_divInt_den p, ← Rat.num_divInt_den q, Rat.divInt_add_divInt _ _ (by simp [hp0]) (by simp [hq0])]
  refine divInt_RB (by rw [← Int.natCast_mul]; simp [hp0, hq0]) ?_ ?_
  · refine Nat.le_trans (Ladd (k := i + j) (Lmul (b := (q.den : Int)) hp.1 hq.2) ?_) h
    exact Nat.le_trans (Lmul (b := (p.den : Int)) hq.1 hp.2) (by omega)
  · exact Nat.le_trans (Lmul (a := (p.den : Int)) (b := (q.den : Int)) hp.2 hq.2) (by omega)
theorem RB.neg {p : Rat} {i : Nat} (hp : RB p i) : RB (-p) i := by
  unfold RB; rw [Rat.neg_num, Rat.neg_den, Int.natAbs_neg]; exact hp
theorem RB.sub {p q : Rat} {i j k : Nat} (hp : RB p i) (hq : RB q j) (h : i + j + 1 ≤ k) : RB (p - q) k := by
  rw [Rat.sub_eq_add_neg]; exact hp.add hq.neg h
theorem RB.inv {p : Rat} {i : Nat} (hp : RB p i) (h1 : 1 ≤ i) : RB p⁻¹ i := by
  by_cases h : p = 0
  · subst h
    have e : ((0 : Rat)⁻¹) = 0 := by first | exact Rat.inv_zero | grind
    rw [e]; unfold RB
    refine ⟨?_, ?_⟩
    · rw [show (0 : Rat).num.natAbs = 0 from rfl, bl_zero]; exact Nat.zero_le _
    · exact Nat.le_trans (bl_length_le (k := 1).2 (by decide)) h1
  · have hn : p.num ≠ 0 := fun e => h (Rat.num_eq_zero.1 e)
    conv => lhs; rw [← Rat.num_divInt_den p, Rat.inv_divInt]
    exact divInt_RB hn hp.2 hp.1
theorem RB.div {p q : Rat} {i j k : Nat} (hp : RB p i) (hq : RB q j) (h1 : 1 ≤ j) (h : i + j ≤ k) : RB (p / q) k := by
  rw [Rat.div_def]; exact hp.mul (hq.inv h1) h
theorem RB.le {p : Rat} {i k : Nat} (hp : RB p i) (h : i ≤ k) : RB p k := ⟨Nat.le_trans hp.1 h, Nat.le_trans hp.2 h⟩
theorem RB.num {p : Rat} {i k : Nat} (hp : RB p i) (h : i ≤ k) : (bl p.num.natAbs).length ≤ k := Nat.le_trans hp.1 h
theorem RB.den {p : Rat} {i k : Nat} (hp : RB p i) (h : i ≤ k) : (if p.den = 1 then ([] : List UInt8) else bl p.den).length ≤ k := by
  split
  · simp
  · exact Nat.le_trans hp.2 h
theorem RB.den' {p : Rat} {i k : Nat} (hp : RB p i) (h : i + 1 ≤ k) : (if p.den = 1 then ([] : List UInt8) else bl p.den).length + 1 ≤ k := by
  have := hp.den (k := i) (Nat.le_refl _); omega
theorem RB.raw {s : Bool} {n d : List UInt8} {k : Nat} (hn : n.length ≤ k) (hd : d.length ≤ k) : RB (rv s n d) (k + 1) := by
  unfold rv
  refine divInt_RB (by have := dv_pos d; omega) ?_ ?_
  · rw [sv_natAbs]; exact Nat.le_trans (bl_length_nl n) (by omega)
  · unfold dv; split
    · exact Nat.le_trans (bl_length_le (k := 1).2 (by decide)) (by omega)
    · rw [Int.natAbs_natCast]; exact Nat.le_trans (bl_length_nl d) (by omega)
theorem RB.int {z : Int} {k : Nat} (h : (bl z.natAbs).length ≤ k) (h1 : 1 ≤ k) : RB (z : Rat) k := by
  unfold RB; rw [Rat.num_intCast, Rat.den_intCast]
  exact ⟨h, Nat.le_trans (bl_length_le (k := 1).2 (by decide)) h1⟩
theorem divInt_one (z : Int) : Rat.divInt z 1 = (z : Rat) := by
  rw [Rat.divInt_eq_div]
  have : ((1 : Int) : Rat) = 1 := rfl
  rw [this, Rat.div_def]
  have e : (1 : Rat)⁻¹ = 1 := by grind
  rw [e, Rat.mul_one]
theorem rv_int (z : Int) : rv (decide (z < 0)) (bl z.natAbs) [] = (z : Rat) := by
  unfold rv; rw [sv_can]; exact divInt_one z
theorem rE_int (z : Int) : rE (z : Rat) = [.bool (decide (z < 0)), .string ⟨⟨bl z.natAbs⟩⟩, .string ⟨⟨[]⟩⟩] := rfl
def r3E (x y z : Rat) : List Value := rE x ++ rE y ++ rE z
def mkE (x y z : Rat) : List Value := pE (x.num * ((y.den : Int) * z.den)) (y.num * ((x.den : Int) * z.den)) (z.num * ((x.den : Int) * y.den)) ((x.den : Int) * y.den * z.den)
theorem mkE_pE {x y z w : Int} (hw : w ≠ 0) : mkE (Rat.divInt x w) (Rat.divInt y w) (Rat.divInt z w) = pE x y z w := by
  have key : ∀ n : Int, (Rat.divInt n w).num * w = n * (Rat.divInt n w).den := by
    intro n
    have h := Rat.num_divInt_den (Rat.divInt n w)
    rw [Rat.divInt_eq_divInt_iff (by have := (Rat.divInt n w).den_nz; omega) hw] at h
    exact h
  have hx := (Rat.divInt x w).den_nz
  have hy := (Rat.divInt y w).den_nz
  have hz := (Rat.divInt z w).den_nz
  have kx := key x
  have ky := key y
  have kz := key z
  unfold mkE
  generalize (Rat.divInt x w).den = a at *
  generalize (Rat.divInt y w).den = b at *
  generalize (Rat.divInt z w).den = c at *
  generalize (Rat.divInt x w).num = X at *
  generalize (Rat.divInt y w).num = Y at *
  generalize (Rat.divInt z w).num = Z at *
  refine pE_eq ?_ hw ?_ ?_ ?_
  · have h1 : (a : Int) ≠ 0 := by omega
    have h2 : (b : Int) ≠ 0 := by omega
    have h3 : (c : Int) ≠ 0 := by omega
    exact Int.mul_ne_zero (Int.mul_ne_zero h1 h2) h3
  · grind
  · grind
  · grind
end Go.Eng
end
section
set_option linter.unusedVariables false
set_option linter.unusedSimpArgs false
set_option linter.unusedSectionVars false
set_option maxRecDepth 20000
namespace Go.Eng
open Go Go.Proofs Go.IntWalk
def spR5Part : List Value → Option Value
  | [.agg ⟨[.bool s, .string ⟨⟨l⟩⟩]⟩, .agg ⟨[.bool t, .string ⟨⟨m⟩⟩]⟩] => if l.length ≤ 68719476736 ∧ m.length ≤ 68719476736 ∧ nl m ≠ 0 then some (.agg ⟨iE (sv s l / sv t m)⟩) else none
  | _ => none
def c40 : ICode :=
  (.seq (.reg [⟨(some 2), none, (.box 23 2 (.t 0))⟩, ⟨(some 3), none, (.box 23 2 (.t 1))⟩, ⟨(some 4), none, (.alloc 23 2 [(.bool false), (.string ⟨⟨[]⟩⟩)])⟩])
  (.seq (.reg [⟨(some 9), none, (.load true 2 (.t 2))⟩, ⟨(some 10), none, (.load true 2 (.t 3))⟩, ⟨(some 11), none, (.call 25 [(.t 9), (.t 10)])⟩, ⟨(some 8), none, (.mv (.t 11))⟩, ⟨(some 12), none, (.ext (.t 8) 0)⟩, ⟨(some 13), none, (.ext (.t 8) 1)⟩, ⟨(some 14), none, (.ext (.t 8) 2)⟩, ⟨(some 5), none, (.alloc 23 2 [(.bool false), (.string ⟨⟨[]⟩⟩)])⟩, ⟨(some 6), none, (.alloc 23 2 [(.bool false), (.string ⟨⟨[]⟩⟩)])⟩, ⟨none, none, (.store 2 (.t 5) (.t 12))⟩, ⟨none, none, (.store 2 (.t 6) (.t 13))⟩, ⟨(some 7), none, (.mv (.t 14))⟩])
  (.seq (.reg [⟨(some 15), none, (.load true 2 (.t 5))⟩, ⟨none, none, (.store 2 (.t 4) (.t 15))⟩])
  .ret)))
theorem tr40 : trFun Tryd.prog 40 = some ⟨16, [.cell 4 true 2], c40⟩ := by kernel_rfl
theorem ok_r5Part : SpecOK Tryd.prog 40 (flat spR5Part) := by
  refine flat_run (env_cons ok_r2Div (env_nil _)) mixed tr40 ?_
  intro args v h N hG
  unfold spR5Part at hG
  split at hG
  case h_2 => cases hG
  rename_i s l t m
  split at hG
  case isFalse => cases hG
  rename_i hl
  obtain ⟨h1, h2, h3⟩ := hl
  cases hG
  refine ⟨rfl, by simp, ?_⟩
  have h3' : ¬ (nl m = 0) := h3
  simp only [c40, initT, List.zipIdx_cons, List.zipIdx_nil, List.map_cons, List.map_nil, Nat.reduceAdd]
  simp only [↓R0, R1, rdL, rdH, isCall, istep, ibin, vcells, fillI, setR, flat, okCell, isBase, List.set, List.drop, List.take, List.append, bnds, bhi, blo, srcOf, ↓reduceIte, Nat.reduceEqDiff, Nat.reduceAdd, Nat.reduceLeDiff, reduceCtorEq, Nat.reduceSub, Int.reduceEq, Int.reduceLT, Int.reduceLE, Int.reduceGT, Int.reduceGE, Int.reduceSub, Int.reduceAdd, Int.reduceMul, Int.reduceNe, Int.reduceNeg, Int.reduceToNat, Nat.reduceMul, spI2Div, h1, h2, h3', Fin, isEnd, resL, res1, iE, rE]
  exact ⟨_, rfl, rfl, fun k hk => by simp only [ne_nb hk, if_false]⟩
def lG (a b c d : Int) : Nat := Nat.gcd (Nat.gcd (Nat.gcd a.natAbs b.natAbs) c.natAbs) d.natAbs
def lE (a b c d : Int) : List Value := iE (a / (lG a b c d : Int)) ++ iE (b / (lG a b c d : Int)) ++ iE (c / (lG a b c d : Int)) ++ iE (d / (lG a b c d : Int))
theorem lG_pos {a b c d : Int} (h : ¬ (a = 0 ∧ b = 0 ∧ c = 0)) : 0 < lG a b c d := by
  unfold lG
  refine Nat.gcd_pos_of_pos_left _ ?_
  by_cases hc : c = 0
  · refine Nat.gcd_pos_of_pos_left _ ?_
    by_cases hb : b = 0
    · exact Nat.gcd_pos_of_pos_left _ (by omega)
    · exact Nat.gcd_pos_of_pos_right _ (by omega)
  · exact Nat.gcd_pos_of_pos_right _ (by omega)
theorem lG_le {a b c d : Int} {k : Nat} (h1 : (bl a.natAbs).length ≤ k) (h2 : (bl b.natAbs).length ≤ k) (h3 : (bl c.natAbs).length ≤ k) (h : ¬ (a = 0 ∧ b = 0 ∧ c = 0)) : (bl (lG a b c d)).length ≤ k := by
  have hle : lG a b c d ≤ max a.natAbs (max b.natAbs c.natAbs) := by
    unfold lG
    have g : 0 < Nat.gcd (Nat.gcd a.natAbs b.natAbs) c.natAbs := by
      by_cases hc : c = 0
      · refine Nat.gcd_pos_of_pos_left _ ?_
        by_cases hb : b = 0
        · exact Nat.gcd_pos_of_pos_left _ (by omega)
        · exact Nat.gcd_pos_of_pos_right _ (by omega)
      · exact Nat.gcd_pos_of_pos_right _ (by omega)
    refine Nat.le_trans (Nat.gcd_le_left _ g) ?_
    by_cases hc : c = 0
    · subst hc
      rw [show Int.natAbs 0 = 0 from rfl, Nat.gcd_zero_right] at g ⊢
      by_cases hb : b = 0
      · subst hb
        rw [show Int.natAbs 0 = 0 from rfl, Nat.gcd_zero_right]; omega
      · exact Nat.le_trans (Nat.gcd_le_right _ (by omega)) (by omega)
    · exact Nat.le_trans (Nat.gcd_le_right _ (by omega)) (by omega)
  refine Nat.le_trans (bl_length_mono hle) ?_
  rw [Nat.max_def, Nat.max_def]
  split <;> (try split) <;> assumption
def spR5Norm : List Value → Option Value
  | [.agg ⟨[.bool s1, .string ⟨⟨l1⟩⟩, .bool s2, .string ⟨⟨l2⟩⟩, .bool s3, .string ⟨⟨l3⟩⟩, .bool s4, .string ⟨⟨l4⟩⟩]⟩] =>
    if l1.length ≤ 68719476736 ∧ l2.length ≤ 68719476736 ∧ l3.length ≤ 68719476736 ∧ l4.length ≤ 68719476736 then
      (if sv s1 l1 = 0 ∧ sv s2 l2 = 0 ∧ sv s3 l3 = 0 then some (.tuple ⟨[.agg ⟨[.bool false, .string ⟨⟨[]⟩⟩, .bool false, .string ⟨⟨[]⟩⟩, .bool false, .string ⟨⟨[]⟩⟩, .bool false, .string ⟨⟨[]⟩⟩]⟩, .bool false]⟩)
        else some (.tuple ⟨[.agg ⟨lE (sv s1 l1) (sv s2 l2) (sv s3 l3) (sv s4 l4)⟩, .bool true]⟩)) else none
  | _ => none
def c16 : ICode :=
  (.seq (.reg [⟨(some 1), none, (.box 25 8 (.t 0))⟩, ⟨(some 2), none, (.alloc 25 8 [(.bool false), (.string ⟨⟨[]⟩⟩), (.bool false), (.string ⟨⟨[]⟩⟩), (.bool false), (.string ⟨⟨[]⟩⟩), (.bool false), (.string ⟨⟨[]⟩⟩)])⟩, ⟨(some 3), none, (.mv (.c (.bool false)))⟩])
  (.seq (.seq (.reg [⟨(some 5), none, (.faddr 0 (.t 1))⟩, ⟨(some 6), none, (.load true 2 (.t 5))⟩, ⟨(some 7), none, (.call 21 [(.t 6)])⟩, ⟨(some 8), none, (.bin .eql (.t 7) (.c (.int .i64 0)))⟩, ⟨(some 9), none, (.mv (.t 8))⟩, ⟨(some 10), (some (9, true)), (.faddr 2 (.t 1))⟩, ⟨(some 11), (some (9, true)), (.load true 2 (.t 10))⟩, ⟨(some 12), (some (9, true)), (.call 21 [(.t 11)])⟩, ⟨(some 13), (some (9, true)), (.bin .eql (.t 12) (.c (.int .i64 0)))⟩, ⟨(some 14), none, (.pick (.t 9) (.t 13) (.c (.bool false)))⟩, ⟨(some 15), none, (.mv (.t 14))⟩, ⟨(some 16), (some (15, true)), (.faddr 4 (.t 1))⟩, ⟨(some 17), (some (15, true)), (.load true 2 (.t 16))⟩, ⟨(some 18), (some (15, true)), (.call 21 [(.t 17)])⟩, ⟨(some 19), (some (15, true)), (.bin .eql (.t 18) (.c (.int .i64 0)))⟩, ⟨(some 20), none, (.pick (.t 15) (.t 19) (.c (.bool false)))⟩])
  (.cond (.t 20)
  (.seq (.reg [⟨(some 21), none, (.build [(.bool false), (.string ⟨⟨[]⟩⟩), (.bool false), (.string ⟨⟨[]⟩⟩), (.bool false), (.string ⟨⟨[]⟩⟩), (.bool false), (.string ⟨⟨[]⟩⟩)] [])⟩, ⟨none, none, (.store 8 (.t 2) (.t 21))⟩, ⟨(some 3), none, (.mv (.c (.bool false)))⟩])
  .ret)
  .skip))
  (.seq (.reg [⟨(some 22), none, (.faddr 0 (.t 1))⟩, ⟨(some 23), none, (.load true 2 (.t 22))⟩, ⟨(some 24), none, (.faddr 2 (.t 1))⟩, ⟨(some 25), none, (.load true 2 (.t 24))⟩, ⟨(some 26), none, (.faddr 4 (.t 1))⟩, ⟨(some 27), none, (.load true 2 (.t 26))⟩, ⟨(some 28), none, (.faddr 6 (.t 1))⟩, ⟨(some 29), none, (.load true 2 (.t 28))⟩, ⟨(some 30), none, (.bslice 23 2 4 [(.bool false), (.string ⟨⟨[]⟩⟩), (.bool false), (.string ⟨⟨[]⟩⟩), (.bool false), (.string ⟨⟨[]⟩⟩), (.bool false), (.string ⟨⟨[]⟩⟩)] [(0, 2, (.t 23)), (2, 2, (.t 25)), (4, 2, (.t 27)), (6, 2, (.t 29))])⟩, ⟨(some 31), none, (.call 23 [(.t 30)])⟩, ⟨(some 4), none, (.alloc 23 2 [(.bool false), (.string ⟨⟨[]⟩⟩)])⟩, ⟨none, none, (.store 2 (.t 4) (.t 31))⟩])
  (.seq (.dreg [⟨(some 32), none, [], (.faddr 0 (.t 1))⟩, ⟨(some 33), none, [], (.load true 2 (.t 32))⟩, ⟨(some 34), none, [], (.load true 2 (.t 4))⟩, ⟨(some 35), none, [], (.call 40 [(.t 33), (.t 34)])⟩, ⟨(some 36), none, [], (.faddr 2 (.t 1))⟩, ⟨(some 37), none, [3], (.load true 2 (.t 36))⟩, ⟨(some 38), none, [3], (.load true 2 (.t 4))⟩, ⟨(some 39), none, [], (.call 40 [(.t 37), (.t 38)])⟩, ⟨(some 40), none, [], (.faddr 4 (.t 1))⟩, ⟨(some 41), none, [3, 7], (.load true 2 (.t 40))⟩, ⟨(some 42), none, [3, 7], (.load true 2 (.t 4))⟩, ⟨(some 43), none, [], (.call 40 [(.t 41), (.t 42)])⟩, ⟨(some 44), none, [], (.faddr 6 (.t 1))⟩, ⟨(some 45), none, [3, 7, 11], (.load true 2 (.t 44))⟩, ⟨(some 46), none, [3, 7, 11], (.load true 2 (.t 4))⟩, ⟨(some 47), none, [], (.call 40 [(.t 45), (.t 46)])⟩, ⟨(some 48), none, [], (.build [(.bool false), (.string ⟨⟨[]⟩⟩), (.bool false), (.string ⟨⟨[]⟩⟩), (.bool false), (.string ⟨⟨[]⟩⟩), (.bool false), (.string ⟨⟨[]⟩⟩)] [(0, 2, (.t 35)), (2, 2, (.t 39)), (4, 2, (.t 43)), (6, 2, (.t 47))])⟩, ⟨none, none, [], (.store 8 (.t 2) (.t 48))⟩, ⟨(some 3), none, [], (.mv (.c (.bool true)))⟩])
  .ret))))
theorem tr16 : trFun Tryd.prog 16 = some ⟨49, [.cell 2 true 8, .t 3], c16⟩ := by kernel_rfl
set_option maxHeartbeats 4000000 in
theorem ok_r5Norm : SpecOK Tryd.prog 16 (flat spR5Norm) := by
  refine flat_run (env_cons ok_r2Sign (env_cons ok_r2Gcd (env_cons ok_r5Part (env_nil _)))) mixed tr16 ?_
  intro args v h N hG
  unfold spR5Norm at hG
  split at hG
  case h_2 => cases hG
  rename_i s1 l1 s2 l2 s3 l3 s4 l4
  split at hG
  case isFalse => cases hG
  rename_i hl
  obtain ⟨h1, h2, h3, h4⟩ := hl
  have k1 : l1.length ≤ 1099511627776 := by omega
  have k2 : l2.length ≤ 1099511627776 := by omega
  have k3 : l3.length ≤ 1099511627776 := by omega
  have e1 : ((sv s1 l1).sign = 0) = (sv s1 l1 = 0) := propext Int.sign_eq_zero_iff_zero
  have e2 : ((sv s2 l2).sign = 0) = (sv s2 l2 = 0) := propext Int.sign_eq_zero_iff_zero
  have e3 : ((sv s3 l3).sign = 0) = (sv s3 l3 = 0) := propext Int.sign_eq_zero_iff_zero
  split at hG
  · rename_i h0
    obtain ⟨z1, z2, z3⟩ := h0
    cases hG
    refine ⟨rfl, by simp, ?_⟩
    simp only [c16, initT, List.zipIdx_cons, List.zipIdx_nil, List.map_cons, List.map_nil, Nat.reduceAdd]
    simp only [↓R0, R1, rdL, rdH, isCall, istep, ibin, vcells, fillI, setR, flat, okCell, isBase, List.set, List.drop, List.take, List.append, bnds, bhi, blo, srcOf, ↓reduceIte, Nat.reduceEqDiff, Nat.reduceAdd, Nat.reduceLeDiff, reduceCtorEq, Nat.reduceSub, Int.reduceEq, Int.reduceLT, Int.reduceLE, Int.reduceGT, Int.reduceGE, Int.reduceSub, Int.reduceAdd, Int.reduceMul, Int.reduceNe, Int.reduceNeg, Int.reduceToNat, Nat.reduceMul, spI2Sign, k1, k2, k3, z1, z2, z3, Int.sign_zero, Fin, isEnd, resL, res1, iE, rE]
    exact ⟨_, rfl, rfl, fun k hk => by simp only [ne_nb hk, if_false]⟩
  rename_i h0
  cases hG
  refine ⟨rfl, by simp, ?_⟩
  have hG0 := lG_pos (d := sv s4 l4) h0
  have hGl := lG_le (d := sv s4 l4) (k := 68719476736) (len_sv h1) (len_sv h2) (len_sv h3) h0
  have hGG : Nat.gcd (Nat.gcd (Nat.gcd (nl l1) (nl l2)) (nl l3)) (nl l4) = lG (sv s1 l1) (sv s2 l2) (sv s3 l3) (sv s4 l4) := by
    unfold lG; rw [sv_natAbs, sv_natAbs, sv_natAbs, sv_natAbs]
  have f5 : ∀ G : Nat, sv false (bl G) = (G : Int) := fun G => by rw [sv_false, nl_bl]
  unfold lE
  generalize lG (sv s1 l1) (sv s2 l2) (sv s3 l3) (sv s4 l4) = G at *
  have f1 : ¬ ((G : Int) < 0) := by omega
  have f2 : ¬ (G = 0) := by omega
  have f6 := f5 G
  simp only [c16, initT, List.zipIdx_cons, List.zipIdx_nil, List.map_cons, List.map_nil, Nat.reduceAdd]
  by_cases z1 : sv s1 l1 = 0
  · by_cases z2 : sv s2 l2 = 0
    · have z3 : ¬ (sv s3 l3 = 0) := fun e => h0 ⟨z1, z2, e⟩
      simp only [↓R0, R1, rdL, rdH, isCall, istep, ibin, vcells, fillI, setR, flat, okCell, isBase, List.set, List.drop, List.take, List.append, bnds, bhi, blo, srcOf, ↓reduceIte, Nat.reduceEqDiff, Nat.reduceAdd, Nat.reduceLeDiff, reduceCtorEq, Nat.reduceSub, Int.reduceEq, Int.reduceLT, Int.reduceLE, Int.reduceGT, Int.reduceGE, Int.reduceSub, Int.reduceAdd, Int.reduceMul, Int.reduceNe, Int.reduceNeg, Int.reduceToNat, Nat.reduceMul, spI2Sign, k1, k2, k3, e1, e2, e3, z1, z2, z3, Int.sign_zero]
      simp only [↓R0, R1, rdL, rdH, isCall, istep, ibin, vcells, fillI, setR, flat, okCell, isBase, List.set, List.drop, List.take, List.append, bnds, bhi, blo, srcOf, ↓reduceIte, Nat.reduceEqDiff, Nat.reduceAdd, Nat.reduceLeDiff, reduceCtorEq, Nat.reduceSub, Int.reduceEq, Int.reduceLT, Int.reduceLE, Int.reduceGT, Int.reduceGE, Int.reduceSub, Int.reduceAdd, Int.reduceMul, Int.reduceNe, Int.reduceNeg, Int.reduceToNat, Nat.reduceMul, rdS, spI2Gcd, ints, gcds, List.foldl_cons, List.foldl_nil, Nat.gcd_zero_left, List.forall_mem_cons, h1, h2, h3, h4, List.not_mem_nil, false_implies, implies_true, hGG, hGl, f1, f2, f6, nl_bl, Int.natAbs_natCast, spR5Part, Fin, isEnd, resL, res1, iE, rE]
      exact ⟨_, rfl, rfl, fun k hk => by simp only [ne_nb hk, if_false]⟩
    · simp only [↓R0, R1, rdL, rdH, isCall, istep, ibin, vcells, fillI, setR, flat, okCell, isBase, List.set, List.drop, List.take, List.append, bnds, bhi, blo, srcOf, ↓reduceIte, Nat.reduceEqDiff, Nat.reduceAdd, Nat.reduceLeDiff, reduceCtorEq, Nat.reduceSub, Int.reduceEq, Int.reduceLT, Int.reduceLE, Int.reduceGT, Int.reduceGE, Int.reduceSub, Int.reduceAdd, Int.reduceMul, Int.reduceNe, Int.reduceNeg, Int.reduceToNat, Nat.reduceMul, spI2Sign, k1, k2, k3, e1, e2, e3, z1, z2, Int.sign_zero]
      simp only [↓R0, R1, rdL, rdH, isCall, istep, ibin, vcells, fillI, setR, flat, okCell, isBase, List.set, List.drop, List.take, List.append, bnds, bhi, blo, srcOf, ↓reduceIte, Nat.reduceEqDiff, Nat.reduceAdd, Nat.reduceLeDiff, reduceCtorEq, Nat.reduceSub, Int.reduceEq, Int.reduceLT, Int.reduceLE, Int.reduceGT, Int.reduceGE, Int.reduceSub, Int.reduceAdd, Int.reduceMul, Int.reduceNe, Int.reduceNeg, Int.reduceToNat, Nat.reduceMul, rdS, spI2Gcd, ints, gcds, List.foldl_cons, List.foldl_nil, Nat.gcd_zero_left, List.forall_mem_cons, h1, h2, h3, h4, List.not_mem_nil, false_implies, implies_true, hGG, hGl, f1, f2, f6, nl_bl, Int.natAbs_natCast, spR5Part, Fin, isEnd, resL, res1, iE, rE]
      exact ⟨_, rfl, rfl, fun k hk => by simp only [ne_nb hk, if_false]⟩
  · simp only [↓R0, R1, rdL, rdH, isCall, istep, ibin, vcells, fillI, setR, flat, okCell, isBase, List.set, List.drop, List.take, List.append, bnds, bhi, blo, srcOf, ↓reduceIte, Nat.reduceEqDiff, Nat.reduceAdd, Nat.reduceLeDiff, reduceCtorEq, Nat.reduceSub, Int.reduceEq, Int.reduceLT, Int.reduceLE, Int.reduceGT, Int.reduceGE, Int.reduceSub, Int.reduceAdd, Int.reduceMul, Int.reduceNe, Int.reduceNeg, Int.reduceToNat, Nat.reduceMul, spI2Sign, k1, k2, k3, e1, e2, e3, z1, Int.sign_zero]
    simp only [↓R0, R1, rdL, rdH, isCall, istep, ibin, vcells, fillI, setR, flat, okCell, isBase, List.set, List.drop, List.take, List.append, bnds, bhi, blo, srcOf, ↓reduceIte, Nat.reduceEqDiff, Nat.reduceAdd, Nat.reduceLeDiff, reduceCtorEq, Nat.reduceSub, Int.reduceEq, Int.reduceLT, Int.reduceLE, Int.reduceGT, Int.reduceGE, Int.reduceSub, Int.reduceAdd, Int.reduceMul, Int.reduceNe, Int.reduceNeg, Int.reduceToNat, Nat.reduceMul, rdS, spI2Gcd, ints, gcds, List.foldl_cons, List.foldl_nil, Nat.gcd_zero_left, List.forall_mem_cons, h1, h2, h3, h4, List.not_mem_nil, false_implies, implies_true, hGG, hGl, f1, f2, f6, nl_bl, Int.natAbs_natCast, spR5Part, Fin, isEnd, resL, res1, iE, rE]
    exact ⟨_, rfl, rfl, fun k hk => by simp only [ne_nb hk, if_false]⟩
end Go.Eng
end
section
set_option linter.unusedVariables false
set_option linter.unusedSimpArgs false
set_option linter.unusedSectionVars false
set_option maxRecDepth 20000
namespace Go.Eng
open Go Go.Proofs Go.IntWalk
def spId8 : List Value → Option Value
  | [.agg ⟨[.bool s1, .string ⟨⟨l1⟩⟩, .bool s2, .string ⟨⟨l2⟩⟩, .bool s3, .string ⟨⟨l3⟩⟩, .bool s4, .string ⟨⟨l4⟩⟩]⟩] => some (.agg ⟨[.bool s1, .string ⟨⟨l1⟩⟩, .bool s2, .string ⟨⟨l2⟩⟩, .bool s3, .string ⟨⟨l3⟩⟩, .bool s4, .string ⟨⟨l4⟩⟩]⟩)
  | _ => none
def c36 : ICode :=
  (.seq (.reg [⟨(some 1), none, (.box 25 8 (.t 0))⟩, ⟨(some 2), none, (.alloc 64 8 [(.bool false), (.string ⟨⟨[]⟩⟩), (.bool false), (.string ⟨⟨[]⟩⟩), (.bool false), (.string ⟨⟨[]⟩⟩), (.bool false), (.string ⟨⟨[]⟩⟩)])⟩])
  (.seq (.reg [⟨(some 3), none, (.faddr 0 (.t 1))⟩, ⟨(some 4), none, (.load true 2 (.t 3))⟩, ⟨(some 5), none, (.faddr 2 (.t 1))⟩, ⟨(some 6), none, (.load true 2 (.t 5))⟩, ⟨(some 7), none, (.faddr 4 (.t 1))⟩, ⟨(some 8), none, (.load true 2 (.t 7))⟩, ⟨(some 9), none, (.faddr 6 (.t 1))⟩, ⟨(some 10), none, (.load true 2 (.t 9))⟩, ⟨(some 11), none, (.build [(.bool false), (.string ⟨⟨[]⟩⟩), (.bool false), (.string ⟨⟨[]⟩⟩), (.bool false), (.string ⟨⟨[]⟩⟩), (.bool false), (.string ⟨⟨[]⟩⟩)] [(0, 2, (.t 4)), (2, 2, (.t 6)), (4, 2, (.t 8)), (6, 2, (.t 10))])⟩, ⟨none, none, (.store 8 (.t 2) (.t 11))⟩])
  .ret))
theorem tr36 : trFun Tryd.prog 36 = some ⟨12, [.cell 2 true 8], c36⟩ := by kernel_rfl
theorem ok_lnFour : SpecOK Tryd.prog 36 (flat spId8) := by
  refine flat_run (env_nil _) mixed tr36 ?_
  intro args v h N hG
  unfold spId8 at hG
  split at hG
  case h_2 => cases hG
  cases hG
  refine ⟨rfl, by simp, ?_⟩
  simp only [c36, initT, List.zipIdx_cons, List.zipIdx_nil, List.map_cons, List.map_nil, Nat.reduceAdd]
  simp only [↓R0, R1, rdL, rdH, isCall, istep, ibin, vcells, fillI, setR, flat, okCell, isBase, List.set, List.drop, List.take, List.append, bnds, bhi, blo, srcOf, ↓reduceIte, Nat.reduceEqDiff, Nat.reduceAdd, Nat.reduceLeDiff, reduceCtorEq, Nat.reduceSub, Int.reduceEq, Int.reduceLT, Int.reduceLE, Int.reduceGT, Int.reduceGE, Int.reduceSub, Int.reduceAdd, Int.reduceMul, Int.reduceNe, Int.reduceNeg, Int.reduceToNat, Nat.reduceMul, Fin, isEnd, resL, res1, iE, rE]
  exact ⟨_, rfl, rfl, fun k hk => by simp only [ne_nb hk, if_false]⟩
def c38 : ICode :=
  (.seq (.reg [⟨(some 1), none, (.box 64 8 (.t 0))⟩, ⟨(some 2), none, (.alloc 25 8 [(.bool false), (.string ⟨⟨[]⟩⟩), (.bool false), (.string ⟨⟨[]⟩⟩), (.bool false), (.string ⟨⟨[]⟩⟩), (.bool false), (.string ⟨⟨[]⟩⟩)])⟩])
  (.seq (.reg [⟨(some 3), none, (.ixarr 4 2 (.t 1) (.c (.int .i64 0)))⟩, ⟨(some 4), none, (.load true 2 (.t 3))⟩, ⟨(some 5), none, (.ixarr 4 2 (.t 1) (.c (.int .i64 1)))⟩, ⟨(some 6), none, (.load true 2 (.t 5))⟩, ⟨(some 7), none, (.ixarr 4 2 (.t 1) (.c (.int .i64 2)))⟩, ⟨(some 8), none, (.load true 2 (.t 7))⟩, ⟨(some 9), none, (.ixarr 4 2 (.t 1) (.c (.int .i64 3)))⟩, ⟨(some 10), none, (.load true 2 (.t 9))⟩, ⟨(some 11), none, (.build [(.bool false), (.string ⟨⟨[]⟩⟩), (.bool false), (.string ⟨⟨[]⟩⟩), (.bool false), (.string ⟨⟨[]⟩⟩), (.bool false), (.string ⟨⟨[]⟩⟩)] [(0, 2, (.t 4)), (2, 2, (.t 6)), (4, 2, (.t 8)), (6, 2, (.t 10))])⟩, ⟨none, none, (.store 8 (.t 2) (.t 11))⟩])
  .ret))
theorem tr38 : trFun Tryd.prog 38 = some ⟨12, [.cell 2 true 8], c38⟩ := by kernel_rfl
theorem ok_lnOf : SpecOK Tryd.prog 38 (flat spId8) := by
  refine flat_run (env_nil _) mixed tr38 ?_
  intro args v h N hG
  unfold spId8 at hG
  split at hG
  case h_2 => cases hG
  cases hG
  refine ⟨rfl, by simp, ?_⟩
  simp only [c38, initT, List.zipIdx_cons, List.zipIdx_nil, List.map_cons, List.map_nil, Nat.reduceAdd]
  simp only [↓R0, R1, rdL, rdH, isCall, istep, ibin, vcells, fillI, setR, flat, okCell, isBase, List.set, List.drop, List.take, List.append, bnds, bhi, blo, srcOf, ↓reduceIte, Nat.reduceEqDiff, Nat.reduceAdd, Nat.reduceLeDiff, reduceCtorEq, Nat.reduceSub, Int.reduceEq, Int.reduceLT, Int.reduceLE, Int.reduceGT, Int.reduceGE, Int.reduceSub, Int.reduceAdd, Int.reduceMul, Int.reduceNe, Int.reduceNeg, Int.reduceToNat, Nat.reduceMul, Fin, isEnd, resL, res1, iE, rE]
  exact ⟨_, rfl, rfl, fun k hk => by simp only [ne_nb hk, if_false]⟩
def spLnMinor : List Value → Option Value
  | [.agg ⟨[.bool s1, .string ⟨⟨l1⟩⟩]⟩, .agg ⟨[.bool s2, .string ⟨⟨l2⟩⟩]⟩, .agg ⟨[.bool s3, .string ⟨⟨l3⟩⟩]⟩, .agg ⟨[.bool s4, .string ⟨⟨l4⟩⟩]⟩] =>
    if l1.length ≤ 17179869184 ∧ l2.length ≤ 17179869184 ∧ l3.length ≤ 17179869184 ∧ l4.length ≤ 17179869184 then some (.agg ⟨iE (sv s1 l1 * sv s4 l4 - sv s2 l2 * sv s3 l3)⟩) else none
  | _ => none
def c57 : ICode :=
  (.seq (.reg [⟨(some 4), none, (.box 23 2 (.t 0))⟩, ⟨(some 5), none, (.box 23 2 (.t 1))⟩, ⟨(some 6), none, (.box 23 2 (.t 2))⟩, ⟨(some 7), none, (.box 23 2 (.t 3))⟩, ⟨(some 8), none, (.alloc 23 2 [(.bool false), (.string ⟨⟨[]⟩⟩)])⟩])
  (.seq (.dreg [⟨(some 9), none, [], (.load true 2 (.t 4))⟩, ⟨(some 10), none, [], (.load true 2 (.t 7))⟩, ⟨(some 11), none, [], (.call 29 [(.t 9), (.t 10)])⟩, ⟨(some 12), none, [2], (.load true 2 (.t 5))⟩, ⟨(some 13), none, [2], (.load true 2 (.t 6))⟩, ⟨(some 14), none, [], (.call 29 [(.t 12), (.t 13)])⟩, ⟨(some 15), none, [], (.call 35 [(.t 11), (.t 14)])⟩, ⟨none, none, [], (.store 2 (.t 8) (.t 15))⟩])
  .ret))
theorem tr57 : trFun Tryd.prog 57 = some ⟨16, [.cell 8 true 2], c57⟩ := by kernel_rfl
theorem ok_lnMinor : SpecOK Tryd.prog 57 (flat spLnMinor) := by
  refine flat_run (env_cons ok_iMul (env_cons ok_iSub (env_nil _))) mixed tr57 ?_
  intro args v h N hG
  unfold spLnMinor at hG
  split at hG
  case h_2 => cases hG
  rename_i s1 l1 s2 l2 s3 l3 s4 l4
  split at hG
  case isFalse => cases hG
  rename_i hl
  obtain ⟨h1, h2, h3, h4⟩ := hl
  cases hG
  refine ⟨rfl, by simp, ?_⟩
  have a1 : l1.length ≤ 34359738368 := by omega
  have a2 : l2.length ≤ 34359738368 := by omega
  have a3 : l3.length ≤ 34359738368 := by omega
  have a4 : l4.length ≤ 34359738368 := by omega
  have p1 := lmul (k := 68719476736) (len_sv (s := s1) h1) (len_sv (s := s4) h4) (by omega)
  have p2 := lmul (k := 68719476736) (len_sv (s := s2) h2) (len_sv (s := s3) h3) (by omega)
  simp only [c57, initT, List.zipIdx_cons, List.zipIdx_nil, List.map_cons, List.map_nil, Nat.reduceAdd]
  simp only [↓R0, R1, rdL, rdH, isCall, istep, ibin, vcells, fillI, setR, flat, okCell, isBase, List.set, List.drop, List.take, List.append, bnds, bhi, blo, srcOf, ↓reduceIte, Nat.reduceEqDiff, Nat.reduceAdd, Nat.reduceLeDiff, reduceCtorEq, Nat.reduceSub, Int.reduceEq, Int.reduceLT, Int.reduceLE, Int.reduceGT, Int.reduceGE, Int.reduceSub, Int.reduceAdd, Int.reduceMul, Int.reduceNe, Int.reduceNeg, Int.reduceToNat, Nat.reduceMul, spIMul, spISub, a1, a2, a3, a4, p1, p2, Fin, isEnd, resL, res1, iE, rE]
  exact ⟨_, rfl, rfl, fun k hk => by simp only [ne_nb hk, if_false]⟩
def spLnAway : List Value → Option Value
  | [.agg ⟨[.bool s1, .string ⟨⟨l1⟩⟩, .bool s2, .string ⟨⟨l2⟩⟩, .bool s3, .string ⟨⟨l3⟩⟩, .bool s4, .string ⟨⟨l4⟩⟩]⟩, .agg ⟨[.bool t1, .string ⟨⟨m1⟩⟩, .bool t2, .string ⟨⟨m2⟩⟩, .bool t3, .string ⟨⟨m3⟩⟩, .bool t4, .string ⟨⟨m4⟩⟩]⟩] =>
    if l1.length ≤ 17179869184 ∧ l2.length ≤ 17179869184 ∧ l3.length ≤ 17179869184 ∧ l4.length ≤ 17179869184 ∧ m1.length ≤ 17179869184 ∧ m2.length ≤ 17179869184 ∧ m3.length ≤ 17179869184 ∧ m4.length ≤ 17179869184 then
      some (.agg ⟨tE (sv t1 m1 * sv s4 l4 - sv s1 l1 * sv t4 m4) (sv t2 m2 * sv s4 l4 - sv s2 l2 * sv t4 m4) (sv t3 m3 * sv s4 l4 - sv s3 l3 * sv t4 m4)⟩) else none
  | _ => none
def c56 : ICode :=
  (.seq (.reg [⟨(some 2), none, (.box 28 8 (.t 0))⟩, ⟨(some 3), none, (.box 28 8 (.t 1))⟩, ⟨(some 4), none, (.alloc 55 6 [(.bool false), (.string ⟨⟨[]⟩⟩), (.bool false), (.string ⟨⟨[]⟩⟩), (.bool false), (.string ⟨⟨[]⟩⟩)])⟩])
  (.seq (.dreg [⟨(some 5), none, [], (.faddr 0 (.t 3))⟩, ⟨(some 6), none, [], (.load true 2 (.t 5))⟩, ⟨(some 7), none, [], (.faddr 0 (.t 2))⟩, ⟨(some 8), none, [], (.load true 2 (.t 7))⟩, ⟨(some 9), none, [], (.faddr 6 (.t 3))⟩, ⟨(some 10), none, [], (.load true 2 (.t 9))⟩, ⟨(some 11), none, [], (.faddr 6 (.t 2))⟩, ⟨(some 12), none, [], (.load true 2 (.t 11))⟩, ⟨(some 13), none, [], (.call 57 [(.t 6), (.t 8), (.t 10), (.t 12)])⟩, ⟨(some 14), none, [], (.faddr 2 (.t 3))⟩, ⟨(some 15), none, [8], (.load true 2 (.t 14))⟩, ⟨(some 16), none, [], (.faddr 2 (.t 2))⟩, ⟨(some 17), none, [8], (.load true 2 (.t 16))⟩, ⟨(some 18), none, [], (.faddr 6 (.t 3))⟩, ⟨(some 19), none, [8], (.load true 2 (.t 18))⟩, ⟨(some 20), none, [], (.faddr 6 (.t 2))⟩, ⟨(some 21), none, [8], (.load true 2 (.t 20))⟩, ⟨(some 22), none, [], (.call 57 [(.t 15), (.t 17), (.t 19), (.t 21)])⟩, ⟨(some 23), none, [], (.faddr 4 (.t 3))⟩, ⟨(some 24), none, [8, 17], (.load true 2 (.t 23))⟩, ⟨(some 25), none, [], (.faddr 4 (.t 2))⟩, ⟨(some 26), none, [8, 17], (.load true 2 (.t 25))⟩, ⟨(some 27), none, [], (.faddr 6 (.t 3))⟩, ⟨(some 28), none, [8, 17], (.load true 2 (.t 27))⟩, ⟨(some 29), none, [], (.faddr 6 (.t 2))⟩, ⟨(some 30), none, [8, 17], (.load true 2 (.t 29))⟩, ⟨(some 31), none, [], (.call 57 [(.t 24), (.t 26), (.t 28), (.t 30)])⟩, ⟨(some 32), none, [], (.build [(.bool false), (.string ⟨⟨[]⟩⟩), (.bool false), (.string ⟨⟨[]⟩⟩), (.bool false), (.string ⟨⟨[]⟩⟩)] [(0, 2, (.t 13)), (2, 2, (.t 22)), (4, 2, (.t 31))])⟩, ⟨none, none, [], (.store 6 (.t 4) (.t 32))⟩])
  .ret))
theorem tr56 : trFun Tryd.prog 56 = some ⟨33, [.cell 4 true 6], c56⟩ := by kernel_rfl
theorem ok_lnAway : SpecOK Tryd.prog 56 (flat spLnAway) := by
  refine flat_run (env_cons ok_lnMinor (env_nil _)) mixed tr56 ?_
  intro args v h N hG
  unfold spLnAway at hG
  split at hG
  case h_2 => cases hG
  rename_i s1 l1 s2 l2 s3 l3 s4 l4 t1 m1 t2 m2 t3 m3 t4 m4
  split at hG
  case isFalse => cases hG
  rename_i hl
  obtain ⟨h1, h2, h3, h4, g1, g2, g3, g4⟩ := hl
  cases hG
  refine ⟨rfl, by simp, ?_⟩
  simp only [c56, initT, List.zipIdx_cons, List.zipIdx_nil, List.map_cons, List.map_nil, Nat.reduceAdd]
  simp only [↓R0, R1, rdL, rdH, isCall, istep, ibin, vcells, fillI, setR, flat, okCell, isBase, List.set, List.drop, List.take, List.append, bnds, bhi, blo, srcOf, ↓reduceIte, Nat.reduceEqDiff, Nat.reduceAdd, Nat.reduceLeDiff, reduceCtorEq, Nat.reduceSub, Int.reduceEq, Int.reduceLT, Int.reduceLE, Int.reduceGT, Int.reduceGE, Int.reduceSub, Int.reduceAdd, Int.reduceMul, Int.reduceNe, Int.reduceNeg, Int.reduceToNat, Nat.reduceMul, spLnMinor, h1, h2, h3, h4, g1, g2, g3, g4, tE, Fin, isEnd, resL, res1, iE, rE]
  exact ⟨_, rfl, rfl, fun k hk => by simp only [ne_nb hk, if_false]⟩
def spLnNorm : List Value → Option Value
  | [.agg ⟨[.bool s1, .string ⟨⟨l1⟩⟩, .bool s2, .string ⟨⟨l2⟩⟩, .bool s3, .string ⟨⟨l3⟩⟩, .bool s4, .string ⟨⟨l4⟩⟩]⟩] =>
    if l1.length ≤ 34359738368 ∧ l2.length ≤ 34359738368 ∧ l3.length ≤ 34359738368 ∧ l4.length ≤ 34359738368 then
      (if sv s1 l1 = 0 ∧ sv s2 l2 = 0 ∧ sv s3 l3 = 0 then some (.tuple ⟨[.agg ⟨pZ⟩, .bool false]⟩)
        else some (.tuple ⟨[.agg ⟨lE (sv s1 l1) (sv s2 l2) (sv s3 l3) (sv s4 l4)⟩, .bool true]⟩)) else none
  | _ => none
def c58 : ICode :=
  (.seq (.reg [⟨(some 1), none, (.box 25 8 (.t 0))⟩, ⟨(some 2), none, (.alloc 25 8 [(.bool false), (.string ⟨⟨[]⟩⟩), (.bool false), (.string ⟨⟨[]⟩⟩), (.bool false), (.string ⟨⟨[]⟩⟩), (.bool false), (.string ⟨⟨[]⟩⟩)])⟩, ⟨(some 3), none, (.mv (.c (.bool false)))⟩])
  (.seq (.reg [⟨(some 7), none, (.load true 8 (.t 1))⟩, ⟨(some 8), none, (.call 36 [(.t 7)])⟩, ⟨(some 4), none, (.alloc 64 8 [(.bool false), (.string ⟨⟨[]⟩⟩), (.bool false), (.string ⟨⟨[]⟩⟩), (.bool false), (.string ⟨⟨[]⟩⟩), (.bool false), (.string ⟨⟨[]⟩⟩)])⟩, ⟨none, none, (.store 8 (.t 4) (.t 8))⟩])
  (.seq (.seq (.reg [⟨(some 9), none, (.slarr 4 2 (.t 4) none (some (.c (.int .i64 3))))⟩, ⟨(some 10), none, (.call 69 [(.t 9)])⟩, ⟨(some 11), none, (.call 54 [(.t 10)])⟩, ⟨(some 12), none, (.bin .eql (.t 11) (.c (.int .i64 0)))⟩])
  (.cond (.t 12)
  (.seq (.reg [⟨(some 13), none, (.build [(.bool false), (.string ⟨⟨[]⟩⟩), (.bool false), (.string ⟨⟨[]⟩⟩), (.bool false), (.string ⟨⟨[]⟩⟩), (.bool false), (.string ⟨⟨[]⟩⟩)] [])⟩, ⟨none, none, (.store 8 (.t 2) (.t 13))⟩, ⟨(some 3), none, (.mv (.c (.bool false)))⟩])
  .ret)
  .skip))
  (.seq (.reg [⟨(some 14), none, (.slarr 4 2 (.t 4) none none)⟩, ⟨(some 15), none, (.call 69 [(.t 14)])⟩, ⟨(some 5), none, (.alloc 23 2 [(.bool false), (.string ⟨⟨[]⟩⟩)])⟩, ⟨none, none, (.store 2 (.t 5) (.t 15))⟩])
  (.seq (.seq (.reg [⟨(some 16), none, (.mv (.c (.int .i64 0)))⟩])
  (.block 0 (.loop (.seq (.reg [⟨(some 17), none, (.bin .lss (.t 16) (.c (.int .i64 4)))⟩])
  (.seq (.cond (.t 17)
  .skip
  (.exit 0))
  (.seq (.block 1 (.seq (.reg [⟨(some 18), none, (.mv (.t 16))⟩, ⟨(some 6), none, (.mv (.t 18))⟩])
  (.dreg [⟨(some 20), none, [], (.mv (.t 6))⟩, ⟨(some 21), none, [], (.mv (.t 6))⟩, ⟨(some 22), none, [], (.ixarr 4 2 (.t 4) (.t 21))⟩, ⟨(some 23), none, [], (.load true 2 (.t 22))⟩, ⟨(some 24), none, [], (.load true 2 (.t 5))⟩, ⟨(some 25), none, [], (.call 70 [(.t 23), (.t 24)])⟩, ⟨(some 19), none, [], (.mv (.t 25))⟩, ⟨(some 26), none, [], (.ext (.t 19) 0)⟩, ⟨(some 27), none, [], (.ext (.t 19) 1)⟩, ⟨(some 28), none, [], (.ext (.t 19) 2)⟩, ⟨(some 29), none, [], (.ixarr 4 2 (.t 4) (.t 20))⟩, ⟨none, none, [], (.store 2 (.t 29) (.t 26))⟩])))
  (.reg [⟨(some 30), none, (.bin .add (.t 16) (.c (.int .i64 1)))⟩, ⟨(some 16), none, (.mv (.t 30))⟩])))))))
  (.seq (.reg [⟨(some 31), none, (.load true 8 (.t 4))⟩, ⟨(some 32), none, (.call 38 [(.t 31)])⟩, ⟨none, none, (.store 8 (.t 2) (.t 32))⟩, ⟨(some 3), none, (.mv (.c (.bool true)))⟩])
  .ret))))))
theorem tr58 : trFun Tryd.prog 58 = some ⟨33, [.cell 2 true 8, .t 3], c58⟩ := by kernel_rfl
set_option maxHeartbeats 4000000 in
theorem ok_lnNorm : SpecOK Tryd.prog 58 (flat spLnNorm) := by
  refine flat_run (env_cons ok_lnFour (env_cons ok_lnOf (env_cons ok_iGcd (env_cons ok_iSign (env_cons ok_iDiv (env_nil _)))))) mixed tr58 ?_
  intro args v h N hG
  unfold spLnNorm at hG
  split at hG
  case h_2 => cases hG
  rename_i s1 l1 s2 l2 s3 l3 s4 l4
  split at hG
  case isFalse => cases hG
  rename_i hl
  obtain ⟨h1, h2, h3, h4⟩ := hl
  have g3 : Nat.gcd (Nat.gcd (nl l1) (nl l2)) (nl l3) = Nat.gcd (Nat.gcd (sv s1 l1).natAbs (sv s2 l2).natAbs) (sv s3 l3).natAbs := by
    rw [sv_natAbs, sv_natAbs, sv_natAbs]
  have zl0 : (bl (Int.natAbs 0)).length ≤ 1099511627776 := by rw [show Int.natAbs 0 = 0 from rfl, bl_zero]; exact Nat.zero_le _
  have zs0 : sv false (bl (Int.natAbs 0)) = 0 := by rw [sv_bl]; rfl
  have i40 : 4 - 0 = 4 := rfl
  have i30 : 3 - 0 = 3 := rfl
  have i43 : ¬ (4 = 0) := by decide
  have f5 : ∀ G : Nat, sv false (bl G) = (G : Int) := fun G => by rw [sv_false, nl_bl]
  split at hG
  · rename_i h0
    obtain ⟨z1, z2, z3⟩ := h0
    cases hG
    refine ⟨rfl, by simp, ?_⟩
    have hg0 : Nat.gcd (Nat.gcd (nl l1) (nl l2)) (nl l3) = 0 := by rw [g3, z1, z2, z3]; rfl
    have b0 : bl 0 = [] := bl_zero
    have hz : sv false ([] : List UInt8) = 0 := rfl
    have i00 : ((0 : Nat) : Int) = 0 := rfl
    simp only [c58, initT, List.zipIdx_cons, List.zipIdx_nil, List.map_cons, List.map_nil, Nat.reduceAdd]
    simp only [↓R0, R1, rdL, rdH, isCall, istep, ibin, vcells, fillI, setR, flat, okCell, isBase, List.set, List.drop, List.take, List.append, bnds, bhi, blo, srcOf, ↓reduceIte, Nat.reduceEqDiff, Nat.reduceAdd, Nat.reduceLeDiff, reduceCtorEq, Nat.reduceSub, Int.reduceEq, Int.reduceLT, Int.reduceLE, Int.reduceGT, Int.reduceGE, Int.reduceSub, Int.reduceAdd, Int.reduceMul, Int.reduceNe, Int.reduceNeg, Int.reduceToNat, Nat.reduceMul, spId8, rdS, spIGcd, ints, gcds, mkSl, i40, i30, i43, List.foldl_cons, List.foldl_nil, Nat.gcd_zero_left, List.forall_mem_cons, h1, h2, h3, h4, List.not_mem_nil, false_implies, implies_true, hg0, i00, spISign, zl0, zs0, Int.sign_zero, iE]
    simp only [↓R0, R1, rdL, rdH, isCall, istep, ibin, vcells, fillI, setR, flat, okCell, isBase, List.set, List.drop, List.take, List.append, bnds, bhi, blo, srcOf, ↓reduceIte, Nat.reduceEqDiff, Nat.reduceAdd, Nat.reduceLeDiff, reduceCtorEq, Nat.reduceSub, Int.reduceEq, Int.reduceLT, Int.reduceLE, Int.reduceGT, Int.reduceGE, Int.reduceSub, Int.reduceAdd, Int.reduceMul, Int.reduceNe, Int.reduceNeg, Int.reduceToNat, Nat.reduceMul, spISign, zl0, zs0, Int.lt_irrefl, Int.sign_zero, pZ, Fin, isEnd, resL, res1, iE, rE]
    exact ⟨_, rfl, rfl, fun k hk => by simp only [ne_nb hk, if_false]⟩
  rename_i h0
  cases hG
  refine ⟨rfl, by simp, ?_⟩
  have hG0 := lG_pos (d := sv s4 l4) h0
  have n1 := len_sv (s := s1) h1
  have n2 := len_sv (s := s2) h2
  have n3 := len_sv (s := s3) h3
  have n4 := len_sv (s := s4) h4
  have hGl := lG_le (d := sv s4 l4) (k := 34359738368) n1 n2 n3 h0
  have hGG : Nat.gcd (Nat.gcd (Nat.gcd (nl l1) (nl l2)) (nl l3)) (nl l4) = lG (sv s1 l1) (sv s2 l2) (sv s3 l3) (sv s4 l4) := by
    unfold lG; rw [sv_natAbs, sv_natAbs, sv_natAbs, sv_natAbs]
  unfold lE
  generalize lG (sv s1 l1) (sv s2 l2) (sv s3 l3) (sv s4 l4) = G at *
  have f1 : ¬ ((G : Int) < 0) := by omega
  have f2 : ¬ ((G : Int) = 0) := by omega
  have f6 := f5 G
  have hg3 : 0 < Nat.gcd (Nat.gcd (nl l1) (nl l2)) (nl l3) := by
    rw [g3]
    by_cases z3 : sv s3 l3 = 0
    · refine Nat.gcd_pos_of_pos_left _ ?_
      by_cases z2 : sv s2 l2 = 0
      · refine Nat.gcd_pos_of_pos_left _ ?_
        have : sv s1 l1 ≠ 0 := fun e => h0 ⟨e, z2, z3⟩
        omega
      · exact Nat.gcd_pos_of_pos_right _ (by omega)
    · exact Nat.gcd_pos_of_pos_right _ (by omega)
  have hg3l : (bl (Nat.gcd (Nat.gcd (nl l1) (nl l2)) (nl l3))).length ≤ 1099511627776 := by
    rcases Nat.eq_zero_or_pos (nl l3) with e | e
    · rw [e, Nat.gcd_zero_right]
      rcases Nat.eq_zero_or_pos (nl l2) with e2 | e2
      · rw [e2, Nat.gcd_zero_right]; exact Nat.le_trans (bl_length_nl l1) (by omega)
      · exact Nat.le_trans (bl_length_mono (Nat.gcd_le_right _ e2)) (Nat.le_trans (bl_length_nl l2) (by omega))
    · exact Nat.le_trans (bl_length_mono (Nat.gcd_le_right _ e)) (Nat.le_trans (bl_length_nl l3) (by omega))
  obtain ⟨g, eg⟩ : ∃ g, Nat.gcd (Nat.gcd (nl l1) (nl l2)) (nl l3) = g := ⟨_, rfl⟩
  rw [eg] at hg3 hg3l hGG
  have t1 : ¬ ((g : Int) < 0) := by omega
  have t2 : ¬ (((g : Int).sign) = 0) := by rw [Int.sign_eq_zero_iff_zero]; omega
  have t3 := f5 g
  have w1 : IntKind.i64.wrap 1 = 1 := i64_in _ (by omega)
  have w2 : IntKind.i64.wrap 2 = 2 := i64_in _ (by omega)
  have w3 : IntKind.i64.wrap 3 = 3 := i64_in _ (by omega)
  have w4 : IntKind.i64.wrap 4 = 4 := i64_in _ (by omega)
  simp only [c58, initT, List.zipIdx_cons, List.zipIdx_nil, List.map_cons, List.map_nil, Nat.reduceAdd]
  simp only [↓R0, R1, rdL, rdH, isCall, istep, ibin, vcells, fillI, setR, flat, okCell, isBase, List.set, List.drop, List.take, List.append, bnds, bhi, blo, srcOf, ↓reduceIte, Nat.reduceEqDiff, Nat.reduceAdd, Nat.reduceLeDiff, reduceCtorEq, Nat.reduceSub, Int.reduceEq, Int.reduceLT, Int.reduceLE, Int.reduceGT, Int.reduceGE, Int.reduceSub, Int.reduceAdd, Int.reduceMul, Int.reduceNe, Int.reduceNeg, Int.reduceToNat, Nat.reduceMul, spId8, rdS, spIGcd, ints, gcds, mkSl, i40, i30, i43, List.foldl_cons, List.foldl_nil, Nat.gcd_zero_left, List.forall_mem_cons, h1, h2, h3, h4, List.not_mem_nil, false_implies, implies_true, eg, hGG, t1, t2, t3, hg3l, f1, Int.natAbs_natCast, spISign, iE]
  refine lp_step ?_
  simp only [↓R0, R1, rdL, rdH, isCall, istep, ibin, vcells, fillI, setR, flat, okCell, isBase, List.set, List.drop, List.take, List.append, bnds, bhi, blo, srcOf, ↓reduceIte, Nat.reduceEqDiff, Nat.reduceAdd, Nat.reduceLeDiff, reduceCtorEq, Nat.reduceSub, Int.reduceEq, Int.reduceLT, Int.reduceLE, Int.reduceGT, Int.reduceGE, Int.reduceSub, Int.reduceAdd, Int.reduceMul, Int.reduceNe, Int.reduceNeg, Int.reduceToNat, Nat.reduceMul, spIDiv, h1, h2, h3, h4, hGl, f1, f2, f6, w1, w2, w3, w4, iE]
  refine lp_step ?_
  simp only [↓R0, R1, rdL, rdH, isCall, istep, ibin, vcells, fillI, setR, flat, okCell, isBase, List.set, List.drop, List.take, List.append, bnds, bhi, blo, srcOf, ↓reduceIte, Nat.reduceEqDiff, Nat.reduceAdd, Nat.reduceLeDiff, reduceCtorEq, Nat.reduceSub, Int.reduceEq, Int.reduceLT, Int.reduceLE, Int.reduceGT, Int.reduceGE, Int.reduceSub, Int.reduceAdd, Int.reduceMul, Int.reduceNe, Int.reduceNeg, Int.reduceToNat, Nat.reduceMul, spIDiv, h1, h2, h3, h4, hGl, f1, f2, f6, w1, w2, w3, w4, iE]
  refine lp_step ?_
  simp only [↓R0, R1, rdL, rdH, isCall, istep, ibin, vcells, fillI, setR, flat, okCell, isBase, List.set, List.drop, List.take, List.append, bnds, bhi, blo, srcOf, ↓reduceIte, Nat.reduceEqDiff, Nat.reduceAdd, Nat.reduceLeDiff, reduceCtorEq, Nat.reduceSub, Int.reduceEq, Int.reduceLT, Int.reduceLE, Int.reduceGT, Int.reduceGE, Int.reduceSub, Int.reduceAdd, Int.reduceMul, Int.reduceNe, Int.reduceNeg, Int.reduceToNat, Nat.reduceMul, spIDiv, h1, h2, h3, h4, hGl, f1, f2, f6, w1, w2, w3, w4, iE]
  refine lp_step ?_
  simp only [↓R0, R1, rdL, rdH, isCall, istep, ibin, vcells, fillI, setR, flat, okCell, isBase, List.set, List.drop, List.take, List.append, bnds, bhi, blo, srcOf, ↓reduceIte, Nat.reduceEqDiff, Nat.reduceAdd, Nat.reduceLeDiff, reduceCtorEq, Nat.reduceSub, Int.reduceEq, Int.reduceLT, Int.reduceLE, Int.reduceGT, Int.reduceGE, Int.reduceSub, Int.reduceAdd, Int.reduceMul, Int.reduceNe, Int.reduceNeg, Int.reduceToNat, Nat.reduceMul, spIDiv, h1, h2, h3, h4, hGl, f1, f2, f6, w1, w2, w3, w4, iE]
  refine lp_step ?_
  simp only [↓R0, R1, rdL, rdH, isCall, istep, ibin, vcells, fillI, setR, flat, okCell, isBase, List.set, List.drop, List.take, List.append, bnds, bhi, blo, srcOf, ↓reduceIte, Nat.reduceEqDiff, Nat.reduceAdd, Nat.reduceLeDiff, reduceCtorEq, Nat.reduceSub, Int.reduceEq, Int.reduceLT, Int.reduceLE, Int.reduceGT, Int.reduceGE, Int.reduceSub, Int.reduceAdd, Int.reduceMul, Int.reduceNe, Int.reduceNeg, Int.reduceToNat, Nat.reduceMul, spId8, Fin, isEnd, resL, res1, iE, rE]
  exact ⟨_, rfl, rfl, fun k hk => by simp only [ne_nb hk, if_false]⟩
def spLnSide : List Value → Option Value
  | [.agg ⟨[.bool s1, .string ⟨⟨l1⟩⟩, .bool s2, .string ⟨⟨l2⟩⟩, .bool s3, .string ⟨⟨l3⟩⟩, .bool s4, .string ⟨⟨l4⟩⟩]⟩, .agg ⟨[.bool t1, .string ⟨⟨m1⟩⟩, .bool t2, .string ⟨⟨m2⟩⟩, .bool t3, .string ⟨⟨m3⟩⟩, .bool t4, .string ⟨⟨m4⟩⟩]⟩] =>
    if l1.length ≤ 4294967296 ∧ l2.length ≤ 4294967296 ∧ l3.length ≤ 4294967296 ∧ l4.length ≤ 4294967296 ∧ m1.length ≤ 4294967296 ∧ m2.length ≤ 4294967296 ∧ m3.length ≤ 4294967296 ∧ m4.length ≤ 4294967296 then
      some (.int .i64 (sv s1 l1 * sv t1 m1 + sv s2 l2 * sv t2 m2 + sv s3 l3 * sv t3 m3 - sv s4 l4 * sv t4 m4).sign) else none
  | _ => none
def c11 : ICode :=
  (.seq (.reg [⟨(some 2), none, (.box 25 8 (.t 0))⟩, ⟨(some 3), none, (.box 28 8 (.t 1))⟩, ⟨(some 4), none, (.mv (.c (.int .i64 0)))⟩])
  (.seq (.dreg [⟨(some 6), none, [], (.faddr 0 (.t 2))⟩, ⟨(some 7), none, [], (.load true 2 (.t 6))⟩, ⟨(some 8), none, [], (.faddr 0 (.t 3))⟩, ⟨(some 9), none, [], (.load true 2 (.t 8))⟩, ⟨(some 10), none, [], (.call 29 [(.t 7), (.t 9)])⟩, ⟨(some 11), none, [], (.faddr 2 (.t 2))⟩, ⟨(some 12), none, [4], (.load true 2 (.t 11))⟩, ⟨(some 13), none, [], (.faddr 2 (.t 3))⟩, ⟨(some 14), none, [4], (.load true 2 (.t 13))⟩, ⟨(some 15), none, [], (.call 29 [(.t 12), (.t 14)])⟩, ⟨(some 16), none, [], (.call 28 [(.t 10), (.t 15)])⟩, ⟨(some 17), none, [], (.faddr 4 (.t 2))⟩, ⟨(some 18), none, [4, 9, 10], (.load true 2 (.t 17))⟩, ⟨(some 19), none, [], (.faddr 4 (.t 3))⟩, ⟨(some 20), none, [4, 9, 10], (.load true 2 (.t 19))⟩, ⟨(some 21), none, [], (.call 29 [(.t 18), (.t 20)])⟩, ⟨(some 22), none, [], (.call 28 [(.t 16), (.t 21)])⟩, ⟨(some 5), none, [], (.alloc 23 2 [(.bool false), (.string ⟨⟨[]⟩⟩)])⟩, ⟨none, none, [], (.store 2 (.t 5) (.t 22))⟩])
  (.seq (.dreg [⟨(some 23), none, [], (.load true 2 (.t 5))⟩, ⟨(some 24), none, [], (.faddr 6 (.t 2))⟩, ⟨(some 25), none, [], (.load true 2 (.t 24))⟩, ⟨(some 26), none, [], (.faddr 6 (.t 3))⟩, ⟨(some 27), none, [], (.load true 2 (.t 26))⟩, ⟨(some 28), none, [], (.call 29 [(.t 25), (.t 27)])⟩, ⟨(some 29), none, [], (.call 32 [(.t 23), (.t 28)])⟩, ⟨(some 4), none, [], (.mv (.t 29))⟩])
  .ret)))
theorem tr11 : trFun Tryd.prog 11 = some ⟨30, [.t 4], c11⟩ := by kernel_rfl
set_option maxHeartbeats 2000000 in
theorem ok_lnSide : SpecOK Tryd.prog 11 (flat spLnSide) := by
  refine flat_run (env_cons ok_iMul (env_cons ok_iAdd (env_cons ok_iCmp (env_nil _)))) mixed tr11 ?_
  intro args v h N hG
  unfold spLnSide at hG
  split at hG
  case h_2 => cases hG
  rename_i s1 l1 s2 l2 s3 l3 s4 l4 t1 m1 t2 m2 t3 m3 t4 m4
  split at hG
  case isFalse => cases hG
  rename_i hl
  obtain ⟨h1, h2, h3, h4, g1, g2, g3, g4⟩ := hl
  cases hG
  refine ⟨rfl, by simp, ?_⟩
  have a1 : l1.length ≤ 34359738368 := by omega
  have a2 : l2.length ≤ 34359738368 := by omega
  have a3 : l3.length ≤ 34359738368 := by omega
  have a4 : l4.length ≤ 34359738368 := by omega
  have b1 : m1.length ≤ 34359738368 := by omega
  have b2 : m2.length ≤ 34359738368 := by omega
  have b3 : m3.length ≤ 34359738368 := by omega
  have b4 : m4.length ≤ 34359738368 := by omega
  have p1 := lmul (k := 8589934592) (len_sv (s := s1) h1) (len_sv (s := t1) g1) (by omega)
  have p2 := lmul (k := 8589934592) (len_sv (s := s2) h2) (len_sv (s := t2) g2) (by omega)
  have p3 := lmul (k := 8589934592) (len_sv (s := s3) h3) (len_sv (s := t3) g3) (by omega)
  have p4 := lmul (k := 68719476736) (len_sv (s := s4) h4) (len_sv (s := t4) g4) (by omega)
  have r1 := lle (k := 68719476736) p1 (by omega)
  have r2 := lle (k := 68719476736) p2 (by omega)
  have r3 := lle (k := 68719476736) p3 (by omega)
  have q0 := ladd (k := 8589934593) p1 p2 (by omega)
  have q1 := lle (k := 68719476736) q0 (by omega)
  have q2 := ladd (k := 68719476736) q0 p3 (by omega)
  simp only [c11, initT, List.zipIdx_cons, List.zipIdx_nil, List.map_cons, List.map_nil, Nat.reduceAdd]
  simp only [↓R0, R1, rdL, rdH, isCall, istep, ibin, vcells, fillI, setR, flat, okCell, isBase, List.set, List.drop, List.take, List.append, bnds, bhi, blo, srcOf, ↓reduceIte, Nat.reduceEqDiff, Nat.reduceAdd, Nat.reduceLeDiff, reduceCtorEq, Nat.reduceSub, Int.reduceEq, Int.reduceLT, Int.reduceLE, Int.reduceGT, Int.reduceGE, Int.reduceSub, Int.reduceAdd, Int.reduceMul, Int.reduceNe, Int.reduceNeg, Int.reduceToNat, Nat.reduceMul, spIMul, spIAdd, spICmp, a1, a2, a3, a4, b1, b2, b3, b4, r1, r2, r3, p4, q1, q2, Fin, isEnd, resL, res1, iE, rE]
  exact ⟨_, rfl, rfl, fun k hk => by simp only [ne_nb hk, if_false]⟩
end Go.Eng
end
section
set_option linter.unusedVariables false
set_option linter.unusedSimpArgs false
set_option linter.unusedSectionVars false
namespace Go.Eng
theorem pG_dvd_x (x y z w : Int) : (pG x y z w : Int) ∣ x := by
  refine Int.ofNat_dvd_left.2 ?_; exact Nat.dvd_trans (Nat.gcd_dvd_left _ _) (Nat.dvd_trans (Nat.gcd_dvd_left _ _) (Nat.gcd_dvd_left _ _))
theorem pG_dvd_y (x y z w : Int) : (pG x y z w : Int) ∣ y := by
  refine Int.ofNat_dvd_left.2 ?_; exact Nat.dvd_trans (Nat.gcd_dvd_left _ _) (Nat.dvd_trans (Nat.gcd_dvd_left _ _) (Nat.gcd_dvd_right _ _))
theorem pG_dvd_z (x y z w : Int) : (pG x y z w : Int) ∣ z := by
  refine Int.ofNat_dvd_left.2 ?_; exact Nat.dvd_trans (Nat.gcd_dvd_left _ _) (Nat.gcd_dvd_right _ _)
theorem pG_dvd_w (x y z w : Int) : (pG x y z w : Int) ∣ pW w := by
  refine Int.ofNat_dvd_left.2 ?_; exact Nat.gcd_dvd_right _ _
theorem pQ_len {x y z w a : Int} {k : Nat} (h : (bl a.natAbs).length ≤ k) : (bl (pQ x y z w a).natAbs).length ≤ k := by
  unfold pQ
  refine Nat.le_trans (bl_length_mono (Int.natAbs_ediv_le_natAbs _ _)) ?_
  split
  · rw [Int.natAbs_neg]; exact h
  · exact h
theorem pQ_mul {x y z w a : Int} (h : (pG x y z w : Int) ∣ a) : pQ x y z w a * (pG x y z w : Int) = if pW w < 0 then -a else a := by
  unfold pQ
  split
  · exact Int.ediv_mul_cancel (Int.dvd_neg.2 h)
  · exact Int.ediv_mul_cancel h
theorem pQ_pos (x y z w : Int) : 0 < pQ x y z w (pW w) := by
  have h := pQ_mul (pG_dvd_w x y z w)
  have hg := pG_pos x y z w
  have hw := pW_ne w
  have hp : 0 < pQ x y z w (pW w) * (pG x y z w : Int) := by
    rw [h]; split <;> omega
  exact Int.pos_of_mul_pos_left hp (by omega)
theorem pQ_div {x y z w a : Int} (h : (pG x y z w : Int) ∣ a) : Rat.divInt (pQ x y z w a) (pQ x y z w (pW w)) = Rat.divInt a (pW w) := by
  have h1 := pQ_mul h
  have h2 := pQ_mul (pG_dvd_w x y z w)
  have hp := pQ_pos x y z w
  have hw := pW_ne w
  have hg := pG_pos x y z w
  rw [Rat.divInt_eq_divInt_iff (by omega) hw]
  have hg' : (pG x y z w : Int) ≠ 0 := by omega
  generalize (pG x y z w : Int) = g at *
  generalize pQ x y z w a = q at *
  generalize pQ x y z w (pW w) = r at *
  by_cases c : pW w < 0
  · rw [if_pos c] at h1 h2
    apply Int.eq_of_mul_eq_mul_right hg'
    grind
  · rw [if_neg c] at h1 h2
    apply Int.eq_of_mul_eq_mul_right hg'
    grind
theorem line_by {A B C x1 y1 z1 w1 x2 y2 z2 w2 D : Int} (h1 : w1 ≠ 0) (h2 : w2 ≠ 0) :
    (A : Rat) * (Rat.divInt x2 w2 - Rat.divInt x1 w1) + (B : Rat) * (Rat.divInt y2 w2 - Rat.divInt y1 w1) + (C : Rat) * (Rat.divInt z2 w2 - Rat.divInt z1 w1) =
      Rat.divInt (w1 * (A * x2 + B * y2 + C * z2 - D * w2) - w2 * (A * x1 + B * y1 + C * z1 - D * w1)) (w1 * w2) := by
  have e1 : (w1 : Rat) ≠ 0 := fun e => h1 (by exact_mod_cast e)
  have e2 : (w2 : Rat) ≠ 0 := fun e => h2 (by exact_mod_cast e)
  simp only [Rat.divInt_eq_div, Rat.intCast_sub, Rat.intCast_add, Rat.intCast_mul]
  generalize (w1 : Rat) = W1 at *
  generalize (w2 : Rat) = W2 at *
  grind
theorem line_zero {N a b : Int} (ha : a ≠ 0) (hb : b ≠ 0) : Rat.divInt N (a * b) = 0 ↔ N = 0 := by
  rw [Rat.divInt_eq_div]
  have e : ((a * b : Int) : Rat) ≠ 0 := fun e => by
    have : a * b = 0 := by exact_mod_cast e
    exact Int.mul_ne_zero ha hb this
  constructor
  · intro h
    have : (N : Rat) = 0 := by
      generalize ((a * b : Int) : Rat) = d at *
      grind
    exact_mod_cast this
  · intro h
    subst h
    have : ((0 : Int) : Rat) = 0 := rfl
    rw [this]
    grind
theorem line_at {A B C D x1 y1 z1 w1 x2 y2 z2 w2 p1 p2 : Int} (h1 : w1 ≠ 0) (h2 : w2 ≠ 0) {N S T : Int} (hS : S = A * x1 + B * y1 + C * z1 - D * w1) (hT : T = A * x2 + B * y2 + C * z2 - D * w2) (hN : N = w1 * T - w2 * S) (h0 : N ≠ 0) :
    Rat.divInt p1 w1 + (Rat.divInt p2 w2 - Rat.divInt p1 w1) * (((D : Rat) - ((A : Rat) * Rat.divInt x1 w1 + (B : Rat) * Rat.divInt y1 w1 + (C : Rat) * Rat.divInt z1 w1)) / Rat.divInt N (w1 * w2)) =
      Rat.divInt (p1 * T - p2 * S) N := by
  have e1 : (w1 : Rat) ≠ 0 := fun e => h1 (by exact_mod_cast e)
  have e2 : (w2 : Rat) ≠ 0 := fun e => h2 (by exact_mod_cast e)
  have e3 : (N : Rat) ≠ 0 := fun e => h0 (by exact_mod_cast e)
  have hS' : (S : Rat) = (A : Rat) * x1 + (B : Rat) * y1 + (C : Rat) * z1 - (D : Rat) * w1 := by rw [hS]; simp only [Rat.intCast_sub, Rat.intCast_add, Rat.intCast_mul]
  have hN' : (N : Rat) = (w1 : Rat) * T - (w2 : Rat) * S := by rw [hN]; simp only [Rat.intCast_sub, Rat.intCast_add, Rat.intCast_mul]
  simp only [Rat.divInt_eq_div, Rat.intCast_sub, Rat.intCast_add, Rat.intCast_mul]
  clear hS hT hN h0 h1 h2
  generalize (w1 : Rat) = W1 at *
  generalize (w2 : Rat) = W2 at *
  generalize (N : Rat) = n at *
  generalize (S : Rat) = s at *
  generalize (T : Rat) = t at *
  generalize (A : Rat) = a at *
  generalize (B : Rat) = b at *
  generalize (C : Rat) = c at *
  generalize (D : Rat) = d at *
  generalize (x1 : Rat) = X1 at *
  generalize (y1 : Rat) = Y1 at *
  generalize (z1 : Rat) = Z1 at *
  generalize (p1 : Rat) = P1 at *
  generalize (p2 : Rat) = P2 at *
  have k : d - (a * (X1 / W1) + b * (Y1 / W1) + c * (Z1 / W1)) = - s / W1 := by grind
  rw [k]
  have k2 : -s / W1 / (n / (W1 * W2)) = - s * W2 / n := by grind
  rw [k2]
  grind
theorem pW_len {w : Int} {k : Nat} (h : (bl w.natAbs).length ≤ k) (hk : 1 ≤ k) : (bl (pW w).natAbs).length ≤ k := by
  unfold pW; split
  · exact Nat.le_trans (bl_length_le (k := 1).2 (by decide)) hk
  · exact h
end Go.Eng
end
section
set_option linter.unusedVariables false
set_option linter.unusedSimpArgs false
set_option linter.unusedSectionVars false
namespace Go.Eng
def aw (x w y v : Int) : Int := y * w - x * v
def thN (a2 a3 a4 b2 b3 b4 c2 c3 c4 : Int) : Int := aw a2 a4 b2 b4 * aw a3 a4 c3 c4 - aw a3 a4 b3 b4 * aw a2 a4 c2 c4
structure ThC where
  (x y z w : Int)
def thC (a1 a2 a3 a4 b1 b2 b3 b4 c1 c2 c3 c4 : Int) : ThC :=
  ⟨thN a2 a3 a4 b2 b3 b4 c2 c3 c4 * a4, thN a3 a1 a4 b3 b1 b4 c3 c1 c4 * a4, thN a1 a2 a4 b1 b2 b4 c1 c2 c4 * a4,
   thN a2 a3 a4 b2 b3 b4 c2 c3 c4 * a1 + thN a3 a1 a4 b3 b1 b4 c3 c1 c4 * a2 + thN a1 a2 a4 b1 b2 b4 c1 c2 c4 * a3⟩
def dt3 (x1 x2 x3 y1 y2 y3 z1 z2 z3 : Int) : Int := x1 * (y2 * z3 - y3 * z2) - x2 * (y1 * z3 - y3 * z1) + x3 * (y1 * z2 - y2 * z1)
def dt4 (a1 a2 a3 a4 b1 b2 b3 b4 c1 c2 c3 c4 d1 d2 d3 d4 : Int) : Int :=
  dt3 a2 a3 a4 b2 b3 b4 c2 c3 c4 * d1 + dt3 a3 a1 a4 b3 b1 b4 c3 c1 c4 * d2 + dt3 a1 a2 a4 b1 b2 b4 c1 c2 c4 * d3 - dt3 a1 a2 a3 b1 b2 b3 c1 c2 c3 * d4
def flt (a1 a2 a3 a4 b1 b2 b3 b4 c1 c2 c3 c4 : Int) : Prop :=
  dt3 a2 a3 a4 b2 b3 b4 c2 c3 c4 = 0 ∧ dt3 a3 a1 a4 b3 b1 b4 c3 c1 c4 = 0 ∧ dt3 a1 a2 a4 b1 b2 b4 c1 c2 c4 = 0
instance {a1 a2 a3 a4 b1 b2 b3 b4 c1 c2 c3 c4 : Int} : Decidable (flt a1 a2 a3 a4 b1 b2 b3 b4 c1 c2 c3 c4) := by unfold flt; infer_instance
theorem thN_eq (a2 a3 a4 b2 b3 b4 c2 c3 c4 : Int) : thN a2 a3 a4 b2 b3 b4 c2 c3 c4 = a4 * dt3 a2 a3 a4 b2 b3 b4 c2 c3 c4 := by
  unfold thN aw dt3; grind
theorem thC_w (a1 a2 a3 a4 b1 b2 b3 b4 c1 c2 c3 c4 : Int) : (thC a1 a2 a3 a4 b1 b2 b3 b4 c1 c2 c3 c4).w = a4 * (a4 * dt3 a1 a2 a3 b1 b2 b3 c1 c2 c3) := by
  unfold thC; simp only [thN_eq]; unfold dt3; grind
theorem thC_dot (a1 a2 a3 a4 b1 b2 b3 b4 c1 c2 c3 c4 d1 d2 d3 d4 : Int) :
    (thC a1 a2 a3 a4 b1 b2 b3 b4 c1 c2 c3 c4).x * d1 + (thC a1 a2 a3 a4 b1 b2 b3 b4 c1 c2 c3 c4).y * d2 + (thC a1 a2 a3 a4 b1 b2 b3 b4 c1 c2 c3 c4).z * d3 - (thC a1 a2 a3 a4 b1 b2 b3 b4 c1 c2 c3 c4).w * d4 = a4 * (a4 * dt4 a1 a2 a3 a4 b1 b2 b3 b4 c1 c2 c3 c4 d1 d2 d3 d4) := by
  rw [thC_w]
  unfold thC dt4
  simp only [thN_eq]
  generalize dt3 a2 a3 a4 b2 b3 b4 c2 c3 c4 = X
  generalize dt3 a3 a1 a4 b3 b1 b4 c3 c1 c4 = Y
  generalize dt3 a1 a2 a4 b1 b2 b4 c1 c2 c4 = Z
  generalize dt3 a1 a2 a3 b1 b2 b3 c1 c2 c3 = W
  grind
theorem thC_zero {a1 a2 a3 a4 b1 b2 b3 b4 c1 c2 c3 c4 : Int} (h : a4 ≠ 0) :
    ((thC a1 a2 a3 a4 b1 b2 b3 b4 c1 c2 c3 c4).x = 0 ∧ (thC a1 a2 a3 a4 b1 b2 b3 b4 c1 c2 c3 c4).y = 0 ∧ (thC a1 a2 a3 a4 b1 b2 b3 b4 c1 c2 c3 c4).z = 0) = flt a1 a2 a3 a4 b1 b2 b3 b4 c1 c2 c3 c4 := by
  unfold thC flt
  simp only [thN_eq, Int.mul_eq_zero, h, false_or, or_false]
theorem dt3_vert {a1 a2 a3 a4 b1 b2 b3 b4 c1 c2 c3 c4 : Int} :
    dt3 a2 a3 a4 b2 b3 b4 c2 c3 c4 * a1 + dt3 a3 a1 a4 b3 b1 b4 c3 c1 c4 * a2 + dt3 a1 a2 a4 b1 b2 b4 c1 c2 c4 * a3 = a4 * dt3 a1 a2 a3 b1 b2 b3 c1 c2 c3 := by
  unfold dt3; grind
theorem flt_dt3 {a1 a2 a3 a4 b1 b2 b3 b4 c1 c2 c3 c4 : Int} (h : a4 ≠ 0) (hf : flt a1 a2 a3 a4 b1 b2 b3 b4 c1 c2 c3 c4) : dt3 a1 a2 a3 b1 b2 b3 c1 c2 c3 = 0 := by
  have e := dt3_vert (a1 := a1) (a2 := a2) (a3 := a3) (a4 := a4) (b1 := b1) (b2 := b2) (b3 := b3) (b4 := b4) (c1 := c1) (c2 := c2) (c3 := c3) (c4 := c4)
  rw [hf.1, hf.2.1, hf.2.2, Int.zero_mul, Int.zero_mul, Int.zero_mul] at e
  have e2 := e.symm
  simp only [Int.add_zero] at e2
  rcases Int.mul_eq_zero.1 e2 with z | z
  · exact absurd z h
  · exact z
theorem flt_dt4 {a1 a2 a3 a4 b1 b2 b3 b4 c1 c2 c3 c4 d1 d2 d3 d4 : Int} (h : a4 ≠ 0) (hf : flt a1 a2 a3 a4 b1 b2 b3 b4 c1 c2 c3 c4) : dt4 a1 a2 a3 a4 b1 b2 b3 b4 c1 c2 c3 c4 d1 d2 d3 d4 = 0 := by
  unfold dt4
  rw [flt_dt3 h hf, hf.1, hf.2.1, hf.2.2]
  simp
theorem sign_sq {a x : Int} (h : a ≠ 0) : (a * (a * x)).sign = x.sign := by
  rw [← Int.mul_assoc, Int.sign_mul, Int.sign_mul]
  rcases Int.lt_trichotomy a 0 with g | g | g
  · rw [Int.sign_eq_neg_one_of_neg g]; simp
  · exact absurd g h
  · rw [Int.sign_eq_one_of_pos g]; simp
theorem side_div {x y z w d1 d2 d3 d4 G : Int} (hG : 0 < G) (hx : G ∣ x) (hy : G ∣ y) (hz : G ∣ z) (hw : G ∣ w) :
    (x / G * d1 + y / G * d2 + z / G * d3 - w / G * d4).sign = (x * d1 + y * d2 + z * d3 - w * d4).sign := by
  obtain ⟨x, rfl⟩ := hx
  obtain ⟨y, rfl⟩ := hy
  obtain ⟨z, rfl⟩ := hz
  obtain ⟨w, rfl⟩ := hw
  have n : G ≠ 0 := by omega
  rw [Int.mul_ediv_cancel_left _ n, Int.mul_ediv_cancel_left _ n, Int.mul_ediv_cancel_left _ n, Int.mul_ediv_cancel_left _ n]
  have e : G * x * d1 + G * y * d2 + G * z * d3 - G * w * d4 = G * (x * d1 + y * d2 + z * d3 - w * d4) := by grind
  rw [e, Int.sign_mul, Int.sign_eq_one_of_pos hG, Int.one_mul]
end Go.Eng
end
section
set_option linter.unusedVariables false
set_option linter.unusedSimpArgs false
set_option linter.unusedSectionVars false
set_option maxRecDepth 20000
namespace Go.Eng
open Go Go.Proofs Go.IntWalk
def spLnThrough : List Value → Option Value
  | [.agg ⟨[.bool s1, .string ⟨⟨l1⟩⟩, .bool s2, .string ⟨⟨l2⟩⟩, .bool s3, .string ⟨⟨l3⟩⟩, .bool s4, .string ⟨⟨l4⟩⟩]⟩, .agg ⟨[.bool t1, .string ⟨⟨m1⟩⟩, .bool t2, .string ⟨⟨m2⟩⟩, .bool t3, .string ⟨⟨m3⟩⟩, .bool t4, .string ⟨⟨m4⟩⟩]⟩, .agg ⟨[.bool q1, .string ⟨⟨k1⟩⟩, .bool q2, .string ⟨⟨k2⟩⟩, .bool q3, .string ⟨⟨k3⟩⟩, .bool q4, .string ⟨⟨k4⟩⟩]⟩] =>
    if l1.length ≤ 1073741824 ∧ l2.length ≤ 1073741824 ∧ l3.length ≤ 1073741824 ∧ l4.length ≤ 1073741824 ∧ m1.length ≤ 1073741824 ∧ m2.length ≤ 1073741824 ∧ m3.length ≤ 1073741824 ∧ m4.length ≤ 1073741824 ∧ k1.length ≤ 1073741824 ∧ k2.length ≤ 1073741824 ∧ k3.length ≤ 1073741824 ∧ k4.length ≤ 1073741824 then
      (if (thC (sv s1 l1) (sv s2 l2) (sv s3 l3) (sv s4 l4) (sv t1 m1) (sv t2 m2) (sv t3 m3) (sv t4 m4) (sv q1 k1) (sv q2 k2) (sv q3 k3) (sv q4 k4)).x = 0 ∧ (thC (sv s1 l1) (sv s2 l2) (sv s3 l3) (sv s4 l4) (sv t1 m1) (sv t2 m2) (sv t3 m3) (sv t4 m4) (sv q1 k1) (sv q2 k2) (sv q3 k3) (sv q4 k4)).y = 0 ∧ (thC (sv s1 l1) (sv s2 l2) (sv s3 l3) (sv s4 l4) (sv t1 m1) (sv t2 m2) (sv t3 m3) (sv t4 m4) (sv q1 k1) (sv q2 k2) (sv q3 k3) (sv q4 k4)).z = 0 then some (.tuple ⟨[.agg ⟨pZ⟩, .bool false]⟩)
        else some (.tuple ⟨[.agg ⟨lE (thC (sv s1 l1) (sv s2 l2) (sv s3 l3) (sv s4 l4) (sv t1 m1) (sv t2 m2) (sv t3 m3) (sv t4 m4) (sv q1 k1) (sv q2 k2) (sv q3 k3) (sv q4 k4)).x (thC (sv s1 l1) (sv s2 l2) (sv s3 l3) (sv s4 l4) (sv t1 m1) (sv t2 m2) (sv t3 m3) (sv t4 m4) (sv q1 k1) (sv q2 k2) (sv q3 k3) (sv q4 k4)).y (thC (sv s1 l1) (sv s2 l2) (sv s3 l3) (sv s4 l4) (sv t1 m1) (sv t2 m2) (sv t3 m3) (sv t4 m4) (sv q1 k1) (sv q2 k2) (sv q3 k3) (sv q4 k4)).z (thC (sv s1 l1) (sv s2 l2) (sv s3 l3) (sv s4 l4) (sv t1 m1) (sv t2 m2) (sv t3 m3) (sv t4 m4) (sv q1 k1) (sv q2 k2) (sv q3 k3) (sv q4 k4)).w⟩, .bool true]⟩)) else none
  | _ => none
def c39 : ICode :=
  (.seq (.reg [⟨(some 3), none, (.box 28 8 (.t 0))⟩, ⟨(some 4), none, (.box 28 8 (.t 1))⟩, ⟨(some 5), none, (.box 28 8 (.t 2))⟩, ⟨(some 6), none, (.alloc 25 8 [(.bool false), (.string ⟨⟨[]⟩⟩), (.bool false), (.string ⟨⟨[]⟩⟩), (.bool false), (.string ⟨⟨[]⟩⟩), (.bool false), (.string ⟨⟨[]⟩⟩)])⟩, ⟨(some 7), none, (.mv (.c (.bool false)))⟩])
  (.seq (.dreg [⟨(some 15), none, [], (.load true 8 (.t 3))⟩, ⟨(some 16), none, [], (.load true 8 (.t 4))⟩, ⟨(some 17), none, [], (.call 56 [(.t 15), (.t 16)])⟩, ⟨(some 18), none, [2], (.load true 8 (.t 3))⟩, ⟨(some 19), none, [2], (.load true 8 (.t 5))⟩, ⟨(some 20), none, [], (.call 56 [(.t 18), (.t 19)])⟩, ⟨(some 8), none, [], (.alloc 55 6 [(.bool false), (.string ⟨⟨[]⟩⟩), (.bool false), (.string ⟨⟨[]⟩⟩), (.bool false), (.string ⟨⟨[]⟩⟩)])⟩, ⟨(some 9), none, [], (.alloc 55 6 [(.bool false), (.string ⟨⟨[]⟩⟩), (.bool false), (.string ⟨⟨[]⟩⟩), (.bool false), (.string ⟨⟨[]⟩⟩)])⟩, ⟨none, none, [], (.store 6 (.t 8) (.t 17))⟩, ⟨none, none, [], (.store 6 (.t 9) (.t 20))⟩])
  (.seq (.reg [⟨(some 10), none, (.alloc 64 8 [(.bool false), (.string ⟨⟨[]⟩⟩), (.bool false), (.string ⟨⟨[]⟩⟩), (.bool false), (.string ⟨⟨[]⟩⟩), (.bool false), (.string ⟨⟨[]⟩⟩)])⟩])
  (.seq (.seq (.reg [⟨(some 21), none, (.mv (.c (.int .i64 0)))⟩])
  (.block 0 (.loop (.seq (.reg [⟨(some 22), none, (.bin .lss (.t 21) (.c (.int .i64 3)))⟩])
  (.seq (.cond (.t 22)
  .skip
  (.exit 0))
  (.seq (.block 1 (.seq (.reg [⟨(some 23), none, (.mv (.t 21))⟩, ⟨(some 11), none, (.mv (.t 23))⟩])
  (.seq (.reg [⟨(some 24), none, (.mv (.t 11))⟩, ⟨(some 25), none, (.bin .add (.t 24) (.c (.int .i64 1)))⟩, ⟨(some 26), none, (.bin .rem (.t 25) (.c (.int .i64 3)))⟩, ⟨(some 27), none, (.mv (.t 11))⟩, ⟨(some 28), none, (.bin .add (.t 27) (.c (.int .i64 2)))⟩, ⟨(some 29), none, (.bin .rem (.t 28) (.c (.int .i64 3)))⟩, ⟨(some 12), none, (.mv (.t 26))⟩, ⟨(some 13), none, (.mv (.t 29))⟩])
  (.dreg [⟨(some 30), none, [], (.mv (.t 11))⟩, ⟨(some 31), none, [], (.mv (.t 12))⟩, ⟨(some 32), none, [], (.ixarr 3 2 (.t 8) (.t 31))⟩, ⟨(some 33), none, [], (.load true 2 (.t 32))⟩, ⟨(some 34), none, [], (.mv (.t 13))⟩, ⟨(some 35), none, [], (.ixarr 3 2 (.t 8) (.t 34))⟩, ⟨(some 36), none, [], (.load true 2 (.t 35))⟩, ⟨(some 37), none, [], (.mv (.t 12))⟩, ⟨(some 38), none, [], (.ixarr 3 2 (.t 9) (.t 37))⟩, ⟨(some 39), none, [], (.load true 2 (.t 38))⟩, ⟨(some 40), none, [], (.mv (.t 13))⟩, ⟨(some 41), none, [], (.ixarr 3 2 (.t 9) (.t 40))⟩, ⟨(some 42), none, [], (.load true 2 (.t 41))⟩, ⟨(some 43), none, [], (.call 57 [(.t 33), (.t 36), (.t 39), (.t 42)])⟩, ⟨(some 44), none, [], (.ixarr 4 2 (.t 10) (.t 30))⟩, ⟨none, none, [], (.store 2 (.t 44) (.t 43))⟩]))))
  (.reg [⟨(some 45), none, (.bin .add (.t 21) (.c (.int .i64 1)))⟩, ⟨(some 21), none, (.mv (.t 45))⟩])))))))
  (.seq (.dreg [⟨(some 46), none, [], (.ixarr 4 2 (.t 10) (.c (.int .i64 0)))⟩, ⟨(some 47), none, [], (.load true 2 (.t 46))⟩, ⟨(some 48), none, [], (.faddr 0 (.t 3))⟩, ⟨(some 49), none, [], (.load true 2 (.t 48))⟩, ⟨(some 50), none, [], (.call 29 [(.t 47), (.t 49)])⟩, ⟨(some 51), none, [], (.ixarr 4 2 (.t 10) (.c (.int .i64 1)))⟩, ⟨(some 52), none, [4], (.load true 2 (.t 51))⟩, ⟨(some 53), none, [], (.faddr 2 (.t 3))⟩, ⟨(some 54), none, [4], (.load true 2 (.t 53))⟩, ⟨(some 55), none, [], (.call 29 [(.t 52), (.t 54)])⟩, ⟨(some 56), none, [], (.call 28 [(.t 50), (.t 55)])⟩, ⟨(some 57), none, [], (.ixarr 4 2 (.t 10) (.c (.int .i64 2)))⟩, ⟨(some 58), none, [4, 9, 10], (.load true 2 (.t 57))⟩, ⟨(some 59), none, [], (.faddr 4 (.t 3))⟩, ⟨(some 60), none, [4, 9, 10], (.load true 2 (.t 59))⟩, ⟨(some 61), none, [], (.call 29 [(.t 58), (.t 60)])⟩, ⟨(some 62), none, [], (.call 28 [(.t 56), (.t 61)])⟩, ⟨(some 63), none, [], (.ixarr 4 2 (.t 10) (.c (.int .i64 3)))⟩, ⟨none, none, [], (.store 2 (.t 63) (.t 62))⟩])
  (.seq (.seq (.reg [⟨(some 64), none, (.mv (.c (.int .i64 0)))⟩])
  (.block 2 (.loop (.seq (.reg [⟨(some 65), none, (.bin .lss (.t 64) (.c (.int .i64 3)))⟩])
  (.seq (.cond (.t 65)
  .skip
  (.exit 2))
  (.seq (.block 3 (.seq (.reg [⟨(some 66), none, (.mv (.t 64))⟩, ⟨(some 14), none, (.mv (.t 66))⟩])
  (.dreg [⟨(some 67), none, [], (.mv (.t 14))⟩, ⟨(some 68), none, [], (.mv (.t 14))⟩, ⟨(some 69), none, [], (.ixarr 4 2 (.t 10) (.t 68))⟩, ⟨(some 70), none, [], (.load true 2 (.t 69))⟩, ⟨(some 71), none, [], (.faddr 6 (.t 3))⟩, ⟨(some 72), none, [], (.load true 2 (.t 71))⟩, ⟨(some 73), none, [], (.call 29 [(.t 70), (.t 72)])⟩, ⟨(some 74), none, [], (.ixarr 4 2 (.t 10) (.t 67))⟩, ⟨none, none, [], (.store 2 (.t 74) (.t 73))⟩])))
  (.reg [⟨(some 75), none, (.bin .add (.t 64) (.c (.int .i64 1)))⟩, ⟨(some 64), none, (.mv (.t 75))⟩])))))))
  (.seq (.reg [⟨(some 76), none, (.load true 8 (.t 10))⟩, ⟨(some 77), none, (.call 38 [(.t 76)])⟩, ⟨(some 78), none, (.call 58 [(.t 77)])⟩, ⟨(some 79), none, (.ext (.t 78) 0)⟩, ⟨(some 80), none, (.ext (.t 78) 1)⟩, ⟨none, none, (.store 8 (.t 6) (.t 79))⟩, ⟨(some 7), none, (.mv (.t 80))⟩])
  .ret)))))))
theorem tr39 : trFun Tryd.prog 39 = some ⟨81, [.cell 6 true 8, .t 7], c39⟩ := by kernel_rfl
set_option maxHeartbeats 4000000 in
theorem ok_lnThrough : SpecOK Tryd.prog 39 (flat spLnThrough) := by
  refine flat_run (env_cons ok_lnAway (env_cons ok_lnMinor (env_cons ok_iMul (env_cons ok_iAdd (env_cons ok_lnOf (env_cons ok_lnNorm (env_nil _))))))) mixed tr39 ?_
  intro args v h N hG
  unfold spLnThrough at hG
  split at hG
  case h_2 => cases hG
  rename_i s1 l1 s2 l2 s3 l3 s4 l4 t1 m1 t2 m2 t3 m3 t4 m4 q1 k1 q2 k2 q3 k3 q4 k4
  split at hG
  case isFalse => cases hG
  rename_i hl
  obtain ⟨h1, h2, h3, h4, h5, h6, h7, h8, h9, h10, h11, h12⟩ := hl
  have a1 := len_sv (s := s1) h1
  have a2 := len_sv (s := s2) h2
  have a3 := len_sv (s := s3) h3
  have a4 := len_sv (s := s4) h4
  have b1 := len_sv (s := t1) h5
  have b2 := len_sv (s := t2) h6
  have b3 := len_sv (s := t3) h7
  have b4 := len_sv (s := t4) h8
  have d1 := len_sv (s := q1) h9
  have d2 := len_sv (s := q2) h10
  have d3 := len_sv (s := q3) h11
  have d4 := len_sv (s := q4) h12
  have g1 : l1.length ≤ 17179869184 := by omega
  have g2 : l2.length ≤ 17179869184 := by omega
  have g3 : l3.length ≤ 17179869184 := by omega
  have g4 : l4.length ≤ 17179869184 := by omega
  have g5 : m1.length ≤ 17179869184 := by omega
  have g6 : m2.length ≤ 17179869184 := by omega
  have g7 : m3.length ≤ 17179869184 := by omega
  have g8 : m4.length ≤ 17179869184 := by omega
  have g9 : k1.length ≤ 17179869184 := by omega
  have g10 : k2.length ≤ 17179869184 := by omega
  have g11 : k3.length ≤ 17179869184 := by omega
  have g12 : k4.length ≤ 17179869184 := by omega
  have f1 : l1.length ≤ 34359738368 := by omega
  have f2 : l2.length ≤ 34359738368 := by omega
  have f3 : l3.length ≤ 34359738368 := by omega
  have f4 : l4.length ≤ 34359738368 := by omega
  obtain ⟨A1, eA1⟩ : ∃ x, sv s1 l1 = x := ⟨_, rfl⟩
  obtain ⟨A2, eA2⟩ : ∃ x, sv s2 l2 = x := ⟨_, rfl⟩
  obtain ⟨A3, eA3⟩ : ∃ x, sv s3 l3 = x := ⟨_, rfl⟩
  obtain ⟨A4, eA4⟩ : ∃ x, sv s4 l4 = x := ⟨_, rfl⟩
  obtain ⟨B1, eB1⟩ : ∃ x, sv t1 m1 = x := ⟨_, rfl⟩
  obtain ⟨B2, eB2⟩ : ∃ x, sv t2 m2 = x := ⟨_, rfl⟩
  obtain ⟨B3, eB3⟩ : ∃ x, sv t3 m3 = x := ⟨_, rfl⟩
  obtain ⟨B4, eB4⟩ : ∃ x, sv t4 m4 = x := ⟨_, rfl⟩
  obtain ⟨D1, eD1⟩ : ∃ x, sv q1 k1 = x := ⟨_, rfl⟩
  obtain ⟨D2, eD2⟩ : ∃ x, sv q2 k2 = x := ⟨_, rfl⟩
  obtain ⟨D3, eD3⟩ : ∃ x, sv q3 k3 = x := ⟨_, rfl⟩
  obtain ⟨D4, eD4⟩ : ∃ x, sv q4 k4 = x := ⟨_, rfl⟩
  rw [eA1, eA2, eA3, eA4, eB1, eB2, eB3, eB4, eD1, eD2, eD3, eD4] at hG
  rw [eA1] at a1; rw [eA2] at a2; rw [eA3] at a3; rw [eA4] at a4
  rw [eB1] at b1; rw [eB2] at b2; rw [eB3] at b3; rw [eB4] at b4
  rw [eD1] at d1; rw [eD2] at d2; rw [eD3] at d3; rw [eD4] at d4
  have lu : ∀ {x y w v : Int}, (bl x.natAbs).length ≤ 1073741824 → (bl y.natAbs).length ≤ 1073741824 → (bl w.natAbs).length ≤ 1073741824 → (bl v.natAbs).length ≤ 1073741824 → (bl (y * w - x * v).natAbs).length ≤ 4294967296 :=
    fun hx hy hw hv => lsub (lmul (k := 2147483648) hy hw (by omega)) (lmul (k := 2147483648) hx hv (by omega)) (by omega)
  have u1 := lu a1 b1 a4 b4
  have u2 := lu a2 b2 a4 b4
  have u3 := lu a3 b3 a4 b4
  have v1 := lu a1 d1 a4 d4
  have v2 := lu a2 d2 a4 d4
  have v3 := lu a3 d3 a4 d4
  clear lu
  unfold thC thN aw at hG
  obtain ⟨U1, eU1⟩ : ∃ x, B1 * A4 - A1 * B4 = x := ⟨_, rfl⟩
  obtain ⟨U2, eU2⟩ : ∃ x, B2 * A4 - A2 * B4 = x := ⟨_, rfl⟩
  obtain ⟨U3, eU3⟩ : ∃ x, B3 * A4 - A3 * B4 = x := ⟨_, rfl⟩
  obtain ⟨V1, eV1⟩ : ∃ x, D1 * A4 - A1 * D4 = x := ⟨_, rfl⟩
  obtain ⟨V2, eV2⟩ : ∃ x, D2 * A4 - A2 * D4 = x := ⟨_, rfl⟩
  obtain ⟨V3, eV3⟩ : ∃ x, D3 * A4 - A3 * D4 = x := ⟨_, rfl⟩
  rw [eU1] at u1; rw [eU2] at u2; rw [eU3] at u3; rw [eV1] at v1; rw [eV2] at v2; rw [eV3] at v3
  rw [eU1, eU2, eU3, eV1, eV2, eV3] at hG
  have ln : ∀ {x y w v : Int}, (bl x.natAbs).length ≤ 4294967296 → (bl y.natAbs).length ≤ 4294967296 → (bl w.natAbs).length ≤ 4294967296 → (bl v.natAbs).length ≤ 4294967296 → (bl (x * v - y * w).natAbs).length ≤ 17179869184 :=
    fun hx hy hw hv => lsub (lmul (k := 8589934592) hx hv (by omega)) (lmul (k := 8589934592) hy hw (by omega)) (by omega)
  have n1 := ln u2 u3 v2 v3
  have n2 := ln u3 u1 v3 v1
  have n3 := ln u1 u2 v1 v2
  clear ln
  obtain ⟨N1, eN1⟩ : ∃ x, U2 * V3 - U3 * V2 = x := ⟨_, rfl⟩
  obtain ⟨N2, eN2⟩ : ∃ x, U3 * V1 - U1 * V3 = x := ⟨_, rfl⟩
  obtain ⟨N3, eN3⟩ : ∃ x, U1 * V2 - U2 * V1 = x := ⟨_, rfl⟩
  rw [eN1] at n1; rw [eN2] at n2; rw [eN3] at n3
  rw [eN1, eN2, eN3] at hG
  have lp : ∀ {x y : Int}, (bl x.natAbs).length ≤ 17179869184 → (bl y.natAbs).length ≤ 1073741824 → (bl (x * y).natAbs).length ≤ 25769803776 :=
    fun hx hy => lmul hx hy (by omega)
  have p1 := lp n1 a1
  have p2 := lp n2 a2
  have p3 := lp n3 a3
  have r1 := lle (k := 34359738368) (lp n1 a4) (by omega)
  have r2 := lle (k := 34359738368) (lp n2 a4) (by omega)
  have r3 := lle (k := 34359738368) (lp n3 a4) (by omega)
  clear lp
  have x1 := lle (k := 68719476736) p1 (by omega)
  have x2 := lle (k := 68719476736) p2 (by omega)
  have x3 := lle (k := 68719476736) p3 (by omega)
  have y1 := ladd (k := 25769803777) p1 p2 (by omega)
  have y2 := lle (k := 68719476736) y1 (by omega)
  have y3 := ladd (k := 34359738368) y1 p3 (by omega)
  have o1 := lle (k := 34359738368) n1 (by omega)
  have o2 := lle (k := 34359738368) n2 (by omega)
  have o3 := lle (k := 34359738368) n3 (by omega)
  have e1 := lle (k := 17179869184) u1 (by omega)
  have e2 := lle (k := 17179869184) u2 (by omega)
  have e3 := lle (k := 17179869184) u3 (by omega)
  have e4 := lle (k := 17179869184) v1 (by omega)
  have e5 := lle (k := 17179869184) v2 (by omega)
  have e6 := lle (k := 17179869184) v3 (by omega)
  clear a1 a2 a3 a4 b1 b2 b3 b4 d1 d2 d3 d4 u1 u2 u3 v1 v2 v3 n1 n2 n3 p1 p2 p3 y1
  have w1 : IntKind.i64.wrap 1 = 1 := i64_in _ (by omega)
  have w2 : IntKind.i64.wrap 2 = 2 := i64_in _ (by omega)
  have w3 : IntKind.i64.wrap 3 = 3 := i64_in _ (by omega)
  have w4 : IntKind.i64.wrap 4 = 4 := i64_in _ (by omega)
  have i1 : Int.tmod 1 3 = 1 := rfl
  have i2 : Int.tmod 2 3 = 2 := rfl
  have i3 : Int.tmod 3 3 = 0 := rfl
  have i4 : Int.tmod 4 3 = 1 := rfl
  split at hG
  · rename_i h0
    have hh := eq_true h0
    cases hG
    refine ⟨rfl, by simp, ?_⟩
    simp only [c39, initT, List.zipIdx_cons, List.zipIdx_nil, List.map_cons, List.map_nil, Nat.reduceAdd]
    simp only [↓R0, R1, rdL, rdH, isCall, istep, ibin, vcells, fillI, setR, flat, okCell, isBase, List.set, List.drop, List.take, List.append, bnds, bhi, blo, srcOf, ↓reduceIte, Nat.reduceEqDiff, Nat.reduceAdd, Nat.reduceLeDiff, reduceCtorEq, Nat.reduceSub, Int.reduceEq, Int.reduceLT, Int.reduceLE, Int.reduceGT, Int.reduceGE, Int.reduceSub, Int.reduceAdd, Int.reduceMul, Int.reduceNe, Int.reduceNeg, Int.reduceToNat, Nat.reduceMul, spLnAway, g1, g2, g3, g4, g5, g6, g7, g8, g9, g10, g11, g12, eA1, eA2, eA3, eA4, eB1, eB2, eB3, eB4, eD1, eD2, eD3, eD4, eU1, eU2, eU3, eV1, eV2, eV3, tE, iE]
    refine lp_step ?_
    simp only [↓R0, R1, rdL, rdH, isCall, istep, ibin, vcells, fillI, setR, flat, okCell, isBase, List.set, List.drop, List.take, List.append, bnds, bhi, blo, srcOf, ↓reduceIte, Nat.reduceEqDiff, Nat.reduceAdd, Nat.reduceLeDiff, reduceCtorEq, Nat.reduceSub, Int.reduceEq, Int.reduceLT, Int.reduceLE, Int.reduceGT, Int.reduceGE, Int.reduceSub, Int.reduceAdd, Int.reduceMul, Int.reduceNe, Int.reduceNeg, Int.reduceToNat, Nat.reduceMul, e1, e2, e3, e4, e5, e6, eN1, eN2, eN3, w1, w2, w3, w4, i1, i2, i3, i4, spLnMinor, iE]
    refine lp_step ?_
    simp only [↓R0, R1, rdL, rdH, isCall, istep, ibin, vcells, fillI, setR, flat, okCell, isBase, List.set, List.drop, List.take, List.append, bnds, bhi, blo, srcOf, ↓reduceIte, Nat.reduceEqDiff, Nat.reduceAdd, Nat.reduceLeDiff, reduceCtorEq, Nat.reduceSub, Int.reduceEq, Int.reduceLT, Int.reduceLE, Int.reduceGT, Int.reduceGE, Int.reduceSub, Int.reduceAdd, Int.reduceMul, Int.reduceNe, Int.reduceNeg, Int.reduceToNat, Nat.reduceMul, e1, e2, e3, e4, e5, e6, eN1, eN2, eN3, w1, w2, w3, w4, i1, i2, i3, i4, spLnMinor, iE]
    refine lp_step ?_
    simp only [↓R0, R1, rdL, rdH, isCall, istep, ibin, vcells, fillI, setR, flat, okCell, isBase, List.set, List.drop, List.take, List.append, bnds, bhi, blo, srcOf, ↓reduceIte, Nat.reduceEqDiff, Nat.reduceAdd, Nat.reduceLeDiff, reduceCtorEq, Nat.reduceSub, Int.reduceEq, Int.reduceLT, Int.reduceLE, Int.reduceGT, Int.reduceGE, Int.reduceSub, Int.reduceAdd, Int.reduceMul, Int.reduceNe, Int.reduceNeg, Int.reduceToNat, Nat.reduceMul, e1, e2, e3, e4, e5, e6, eN1, eN2, eN3, w1, w2, w3, w4, i1, i2, i3, i4, spLnMinor, iE]
    refine lp_step ?_
    simp only [↓R0, R1, rdL, rdH, isCall, istep, ibin, vcells, fillI, setR, flat, okCell, isBase, List.set, List.drop, List.take, List.append, bnds, bhi, blo, srcOf, ↓reduceIte, Nat.reduceEqDiff, Nat.reduceAdd, Nat.reduceLeDiff, reduceCtorEq, Nat.reduceSub, Int.reduceEq, Int.reduceLT, Int.reduceLE, Int.reduceGT, Int.reduceGE, Int.reduceSub, Int.reduceAdd, Int.reduceMul, Int.reduceNe, Int.reduceNeg, Int.reduceToNat, Nat.reduceMul, o1, o2, o3, f1, f2, f3, f4, eA1, eA2, eA3, eA4, x1, x2, x3, y2, spIMul, spIAdd, iE]
    refine lp_step ?_
    simp only [↓R0, R1, rdL, rdH, isCall, istep, ibin, vcells, fillI, setR, flat, okCell, isBase, List.set, List.drop, List.take, List.append, bnds, bhi, blo, srcOf, ↓reduceIte, Nat.reduceEqDiff, Nat.reduceAdd, Nat.reduceLeDiff, reduceCtorEq, Nat.reduceSub, Int.reduceEq, Int.reduceLT, Int.reduceLE, Int.reduceGT, Int.reduceGE, Int.reduceSub, Int.reduceAdd, Int.reduceMul, Int.reduceNe, Int.reduceNeg, Int.reduceToNat, Nat.reduceMul, o1, o2, o3, f1, f2, f3, f4, eA1, eA2, eA3, eA4, w1, w2, w3, spIMul, iE]
    refine lp_step ?_
    simp only [↓R0, R1, rdL, rdH, isCall, istep, ibin, vcells, fillI, setR, flat, okCell, isBase, List.set, List.drop, List.take, List.append, bnds, bhi, blo, srcOf, ↓reduceIte, Nat.reduceEqDiff, Nat.reduceAdd, Nat.reduceLeDiff, reduceCtorEq, Nat.reduceSub, Int.reduceEq, Int.reduceLT, Int.reduceLE, Int.reduceGT, Int.reduceGE, Int.reduceSub, Int.reduceAdd, Int.reduceMul, Int.reduceNe, Int.reduceNeg, Int.reduceToNat, Nat.reduceMul, o1, o2, o3, f1, f2, f3, f4, eA1, eA2, eA3, eA4, w1, w2, w3, spIMul, iE]
    refine lp_step ?_
    simp only [↓R0, R1, rdL, rdH, isCall, istep, ibin, vcells, fillI, setR, flat, okCell, isBase, List.set, List.drop, List.take, List.append, bnds, bhi, blo, srcOf, ↓reduceIte, Nat.reduceEqDiff, Nat.reduceAdd, Nat.reduceLeDiff, reduceCtorEq, Nat.reduceSub, Int.reduceEq, Int.reduceLT, Int.reduceLE, Int.reduceGT, Int.reduceGE, Int.reduceSub, Int.reduceAdd, Int.reduceMul, Int.reduceNe, Int.reduceNeg, Int.reduceToNat, Nat.reduceMul, o1, o2, o3, f1, f2, f3, f4, eA1, eA2, eA3, eA4, w1, w2, w3, spIMul, iE]
    refine lp_step ?_
    simp only [↓R0, R1, rdL, rdH, isCall, istep, ibin, vcells, fillI, setR, flat, okCell, isBase, List.set, List.drop, List.take, List.append, bnds, bhi, blo, srcOf, ↓reduceIte, Nat.reduceEqDiff, Nat.reduceAdd, Nat.reduceLeDiff, reduceCtorEq, Nat.reduceSub, Int.reduceEq, Int.reduceLT, Int.reduceLE, Int.reduceGT, Int.reduceGE, Int.reduceSub, Int.reduceAdd, Int.reduceMul, Int.reduceNe, Int.reduceNeg, Int.reduceToNat, Nat.reduceMul, spId8, spLnNorm, r1, r2, r3, y3, hh, pZ, lE, Fin, isEnd, resL, res1, iE, rE]
    exact ⟨_, rfl, rfl, fun k hk => by simp only [ne_nb hk, if_false]⟩
  · rename_i h0
    have hh := eq_false h0
    cases hG
    refine ⟨rfl, by simp, ?_⟩
    simp only [c39, initT, List.zipIdx_cons, List.zipIdx_nil, List.map_cons, List.map_nil, Nat.reduceAdd]
    simp only [↓R0, R1, rdL, rdH, isCall, istep, ibin, vcells, fillI, setR, flat, okCell, isBase, List.set, List.drop, List.take, List.append, bnds, bhi, blo, srcOf, ↓reduceIte, Nat.reduceEqDiff, Nat.reduceAdd, Nat.reduceLeDiff, reduceCtorEq, Nat.reduceSub, Int.reduceEq, Int.reduceLT, Int.reduceLE, Int.reduceGT, Int.reduceGE, Int.reduceSub, Int.reduceAdd, Int.reduceMul, Int.reduceNe, Int.reduceNeg, Int.reduceToNat, Nat.reduceMul, spLnAway, g1, g2, g3, g4, g5, g6, g7, g8, g9, g10, g11, g12, eA1, eA2, eA3, eA4, eB1, eB2, eB3, eB4, eD1, eD2, eD3, eD4, eU1, eU2, eU3, eV1, eV2, eV3, tE, iE]
    refine lp_step ?_
    simp only [↓R0, R1, rdL, rdH, isCall, istep, ibin, vcells, fillI, setR, flat, okCell, isBase, List.set, List.drop, List.take, List.append, bnds, bhi, blo, srcOf, ↓reduceIte, Nat.reduceEqDiff, Nat.reduceAdd, Nat.reduceLeDiff, reduceCtorEq, Nat.reduceSub, Int.reduceEq, Int.reduceLT, Int.reduceLE, Int.reduceGT, Int.reduceGE, Int.reduceSub, Int.reduceAdd, Int.reduceMul, Int.reduceNe, Int.reduceNeg, Int.reduceToNat, Nat.reduceMul, e1, e2, e3, e4, e5, e6, eN1, eN2, eN3, w1, w2, w3, w4, i1, i2, i3, i4, spLnMinor, iE]
    refine lp_step ?_
    simp only [↓R0, R1, rdL, rdH, isCall, istep, ibin, vcells, fillI, setR, flat, okCell, isBase, List.set, List.drop, List.take, List.append, bnds, bhi, blo, srcOf, ↓reduceIte, Nat.reduceEqDiff, Nat.reduceAdd, Nat.reduceLeDiff, reduceCtorEq, Nat.reduceSub, Int.reduceEq, Int.reduceLT, Int.reduceLE, Int.reduceGT, Int.reduceGE, Int.reduceSub, Int.reduceAdd, Int.reduceMul, Int.reduceNe, Int.reduceNeg, Int.reduceToNat, Nat.reduceMul, e1, e2, e3, e4, e5, e6, eN1, eN2, eN3, w1, w2, w3, w4, i1, i2, i3, i4, spLnMinor, iE]
    refine lp_step ?_
    simp only [↓R0, R1, rdL, rdH, isCall, istep, ibin, vcells, fillI, setR, flat, okCell, isBase, List.set, List.drop, List.take, List.append, bnds, bhi, blo, srcOf, ↓reduceIte, Nat.reduceEqDiff, Nat.reduceAdd, Nat.reduceLeDiff, reduceCtorEq, Nat.reduceSub, Int.reduceEq, Int.reduceLT, Int.reduceLE, Int.reduceGT, Int.reduceGE, Int.reduceSub, Int.reduceAdd, Int.reduceMul, Int.reduceNe, Int.reduceNeg, Int.reduceToNat, Nat.reduceMul, e1, e2, e3, e4, e5, e6, eN1, eN2, eN3, w1, w2, w3, w4, i1, i2, i3, i4, spLnMinor, iE]
    refine lp_step ?_
    simp only [↓R0, R1, rdL, rdH, isCall, istep, ibin, vcells, fillI, setR, flat, okCell, isBase, List.set, List.drop, List.take, List.append, bnds, bhi, blo, srcOf, ↓reduceIte, Nat.reduceEqDiff, Nat.reduceAdd, Nat.reduceLeDiff, reduceCtorEq, Nat.reduceSub, Int.reduceEq, Int.reduceLT, Int.reduceLE, Int.reduceGT, Int.reduceGE, Int.reduceSub, Int.reduceAdd, Int.reduceMul, Int.reduceNe, Int.reduceNeg, Int.reduceToNat, Nat.reduceMul, o1, o2, o3, f1, f2, f3, f4, eA1, eA2, eA3, eA4, x1, x2, x3, y2, spIMul, spIAdd, iE]
    refine lp_step ?_
    simp only [↓R0, R1, rdL, rdH, isCall, istep, ibin, vcells, fillI, setR, flat, okCell, isBase, List.set, List.drop, List.take, List.append, bnds, bhi, blo, srcOf, ↓reduceIte, Nat.reduceEqDiff, Nat.reduceAdd, Nat.reduceLeDiff, reduceCtorEq, Nat.reduceSub, Int.reduceEq, Int.reduceLT, Int.reduceLE, Int.reduceGT, Int.reduceGE, Int.reduceSub, Int.reduceAdd, Int.reduceMul, Int.reduceNe, Int.reduceNeg, Int.reduceToNat, Nat.reduceMul, o1, o2, o3, f1, f2, f3, f4, eA1, eA2, eA3, eA4, w1, w2, w3, spIMul, iE]
    refine lp_step ?_
    simp only [↓R0, R1, rdL, rdH, isCall, istep, ibin, vcells, fillI, setR, flat, okCell, isBase, List.set, List.drop, List.take, List.append, bnds, bhi, blo, srcOf, ↓reduceIte, Nat.reduceEqDiff, Nat.reduceAdd, Nat.reduceLeDiff, reduceCtorEq, Nat.reduceSub, Int.reduceEq, Int.reduceLT, Int.reduceLE, Int.reduceGT, Int.reduceGE, Int.reduceSub, Int.reduceAdd, Int.reduceMul, Int.reduceNe, Int.reduceNeg, Int.reduceToNat, Nat.reduceMul, o1, o2, o3, f1, f2, f3, f4, eA1, eA2, eA3, eA4, w1, w2, w3, spIMul, iE]
    refine lp_step ?_
    simp only [↓R0, R1, rdL, rdH, isCall, istep, ibin, vcells, fillI, setR, flat, okCell, isBase, List.set, List.drop, List.take, List.append, bnds, bhi, blo, srcOf, ↓reduceIte, Nat.reduceEqDiff, Nat.reduceAdd, Nat.reduceLeDiff, reduceCtorEq, Nat.reduceSub, Int.reduceEq, Int.reduceLT, Int.reduceLE, Int.reduceGT, Int.reduceGE, Int.reduceSub, Int.reduceAdd, Int.reduceMul, Int.reduceNe, Int.reduceNeg, Int.reduceToNat, Nat.reduceMul, o1, o2, o3, f1, f2, f3, f4, eA1, eA2, eA3, eA4, w1, w2, w3, spIMul, iE]
    refine lp_step ?_
    simp only [↓R0, R1, rdL, rdH, isCall, istep, ibin, vcells, fillI, setR, flat, okCell, isBase, List.set, List.drop, List.take, List.append, bnds, bhi, blo, srcOf, ↓reduceIte, Nat.reduceEqDiff, Nat.reduceAdd, Nat.reduceLeDiff, reduceCtorEq, Nat.reduceSub, Int.reduceEq, Int.reduceLT, Int.reduceLE, Int.reduceGT, Int.reduceGE, Int.reduceSub, Int.reduceAdd, Int.reduceMul, Int.reduceNe, Int.reduceNeg, Int.reduceToNat, Nat.reduceMul, spId8, spLnNorm, r1, r2, r3, y3, hh, pZ, lE, Fin, isEnd, resL, res1, iE, rE]
    exact ⟨_, rfl, rfl, fun k hk => by simp only [ne_nb hk, if_false]⟩
end Go.Eng
end
section
set_option linter.unusedVariables false
set_option linter.unusedSimpArgs false
set_option linter.unusedSectionVars false
set_option maxRecDepth 20000
namespace Go.Eng
open Go Go.Proofs Go.IntWalk
theorem lG_d1 (a b c d : Int) : (lG a b c d : Int) ∣ a := by
  rw [← Int.dvd_natAbs]; exact Int.ofNat_dvd.2 (Nat.dvd_trans (Nat.gcd_dvd_left _ _) (Nat.dvd_trans (Nat.gcd_dvd_left _ _) (Nat.gcd_dvd_left _ _)))
theorem lG_d2 (a b c d : Int) : (lG a b c d : Int) ∣ b := by
  rw [← Int.dvd_natAbs]; exact Int.ofNat_dvd.2 (Nat.dvd_trans (Nat.gcd_dvd_left _ _) (Nat.dvd_trans (Nat.gcd_dvd_left _ _) (Nat.gcd_dvd_right _ _)))
theorem lG_d3 (a b c d : Int) : (lG a b c d : Int) ∣ c := by
  rw [← Int.dvd_natAbs]; exact Int.ofNat_dvd.2 (Nat.dvd_trans (Nat.gcd_dvd_left _ _) (Nat.gcd_dvd_right _ _))
theorem lG_d4 (a b c d : Int) : (lG a b c d : Int) ∣ d := by
  rw [← Int.dvd_natAbs]; exact Int.ofNat_dvd.2 (Nat.gcd_dvd_right _ _)
theorem lG_side {x y z w : Int} (d1 d2 d3 d4 : Int) (h : ¬ (x = 0 ∧ y = 0 ∧ z = 0)) :
    (x / (lG x y z w : Int) * d1 + y / (lG x y z w : Int) * d2 + z / (lG x y z w : Int) * d3 - w / (lG x y z w : Int) * d4).sign = (x * d1 + y * d2 + z * d3 - w * d4).sign :=
  side_div (by have := lG_pos (d := w) h; omega) (lG_d1 ..) (lG_d2 ..) (lG_d3 ..) (lG_d4 ..)
theorem thC_len {a1 a2 a3 a4 b1 b2 b3 b4 c1 c2 c3 c4 : Int} (h1 : (bl a1.natAbs).length ≤ 67108864) (h2 : (bl a2.natAbs).length ≤ 67108864) (h3 : (bl a3.natAbs).length ≤ 67108864) (h4 : (bl a4.natAbs).length ≤ 67108864)
    (h5 : (bl b1.natAbs).length ≤ 67108864) (h6 : (bl b2.natAbs).length ≤ 67108864) (h7 : (bl b3.natAbs).length ≤ 67108864) (h8 : (bl b4.natAbs).length ≤ 67108864)
    (h9 : (bl c1.natAbs).length ≤ 67108864) (h10 : (bl c2.natAbs).length ≤ 67108864) (h11 : (bl c3.natAbs).length ≤ 67108864) (h12 : (bl c4.natAbs).length ≤ 67108864) :
    (bl (thC a1 a2 a3 a4 b1 b2 b3 b4 c1 c2 c3 c4).x.natAbs).length ≤ 4294967296 ∧ (bl (thC a1 a2 a3 a4 b1 b2 b3 b4 c1 c2 c3 c4).y.natAbs).length ≤ 4294967296 ∧ (bl (thC a1 a2 a3 a4 b1 b2 b3 b4 c1 c2 c3 c4).z.natAbs).length ≤ 4294967296 ∧ (bl (thC a1 a2 a3 a4 b1 b2 b3 b4 c1 c2 c3 c4).w.natAbs).length ≤ 4294967296 := by
  have lu : ∀ {x w y v : Int}, (bl x.natAbs).length ≤ 67108864 → (bl w.natAbs).length ≤ 67108864 → (bl y.natAbs).length ≤ 67108864 → (bl v.natAbs).length ≤ 67108864 → (bl (aw x w y v).natAbs).length ≤ 268435456 :=
    fun hx hw hy hv => lsub (lmul (k := 134217728) hy hw (by omega)) (lmul (k := 134217728) hx hv (by omega)) (by omega)
  have ln : ∀ {x y w v : Int}, (bl x.natAbs).length ≤ 268435456 → (bl y.natAbs).length ≤ 268435456 → (bl w.natAbs).length ≤ 268435456 → (bl v.natAbs).length ≤ 268435456 → (bl (x * v - y * w).natAbs).length ≤ 536870913 :=
    fun hx hy hw hv => lsub (lmul (k := 536870912) hx hv (by omega)) (lmul (k := 536870912) hy hw (by omega)) (by omega)
  have u1 := lu h1 h4 h5 h8
  have u2 := lu h2 h4 h6 h8
  have u3 := lu h3 h4 h7 h8
  have v1 := lu h1 h4 h9 h12
  have v2 := lu h2 h4 h10 h12
  have v3 := lu h3 h4 h11 h12
  have n1 := ln u2 u3 v2 v3
  have n2 := ln u3 u1 v3 v1
  have n3 := ln u1 u2 v1 v2
  have lp : ∀ {x y : Int}, (bl x.natAbs).length ≤ 536870913 → (bl y.natAbs).length ≤ 67108864 → (bl (x * y).natAbs).length ≤ 603979777 :=
    fun hx hy => lmul hx hy (by omega)
  refine ⟨lle (lp n1 h4) (by omega), lle (lp n2 h4) (by omega), lle (lp n3 h4) (by omega), ?_⟩
  exact lle (ladd (k := 603979779) (ladd (k := 603979778) (lp n1 h1) (lp n2 h2) (by omega)) (lp n3 h3) (by omega)) (by omega)
def spXOrient : List Value → Option Value
  | [.agg ⟨[.bool s1, .string ⟨⟨l1⟩⟩, .bool s2, .string ⟨⟨l2⟩⟩, .bool s3, .string ⟨⟨l3⟩⟩, .bool s4, .string ⟨⟨l4⟩⟩]⟩, .agg ⟨[.bool t1, .string ⟨⟨m1⟩⟩, .bool t2, .string ⟨⟨m2⟩⟩, .bool t3, .string ⟨⟨m3⟩⟩, .bool t4, .string ⟨⟨m4⟩⟩]⟩, .agg ⟨[.bool q1, .string ⟨⟨k1⟩⟩, .bool q2, .string ⟨⟨k2⟩⟩, .bool q3, .string ⟨⟨k3⟩⟩, .bool q4, .string ⟨⟨k4⟩⟩]⟩, .agg ⟨[.bool p1, .string ⟨⟨j1⟩⟩, .bool p2, .string ⟨⟨j2⟩⟩, .bool p3, .string ⟨⟨j3⟩⟩, .bool p4, .string ⟨⟨j4⟩⟩]⟩] =>
    if (l1.length ≤ 67108864 ∧ l2.length ≤ 67108864 ∧ l3.length ≤ 67108864 ∧ l4.length ≤ 67108864 ∧ m1.length ≤ 67108864 ∧ m2.length ≤ 67108864 ∧ m3.length ≤ 67108864 ∧ m4.length ≤ 67108864 ∧ k1.length ≤ 67108864 ∧ k2.length ≤ 67108864 ∧ k3.length ≤ 67108864 ∧ k4.length ≤ 67108864 ∧ j1.length ≤ 67108864 ∧ j2.length ≤ 67108864 ∧ j3.length ≤ 67108864 ∧ j4.length ≤ 67108864) ∧ sv s4 l4 ≠ 0 then
      some (.int .i64 (dt4 (sv s1 l1) (sv s2 l2) (sv s3 l3) (sv s4 l4) (sv t1 m1) (sv t2 m2) (sv t3 m3) (sv t4 m4) (sv q1 k1) (sv q2 k2) (sv q3 k3) (sv q4 k4) (sv p1 j1) (sv p2 j2) (sv p3 j3) (sv p4 j4)).sign) else none
  | _ => none
def spXCollin : List Value → Option Value
  | [.agg ⟨[.bool s1, .string ⟨⟨l1⟩⟩, .bool s2, .string ⟨⟨l2⟩⟩, .bool s3, .string ⟨⟨l3⟩⟩, .bool s4, .string ⟨⟨l4⟩⟩]⟩, .agg ⟨[.bool t1, .string ⟨⟨m1⟩⟩, .bool t2, .string ⟨⟨m2⟩⟩, .bool t3, .string ⟨⟨m3⟩⟩, .bool t4, .string ⟨⟨m4⟩⟩]⟩, .agg ⟨[.bool q1, .string ⟨⟨k1⟩⟩, .bool q2, .string ⟨⟨k2⟩⟩, .bool q3, .string ⟨⟨k3⟩⟩, .bool q4, .string ⟨⟨k4⟩⟩]⟩] =>
    if (l1.length ≤ 67108864 ∧ l2.length ≤ 67108864 ∧ l3.length ≤ 67108864 ∧ l4.length ≤ 67108864 ∧ m1.length ≤ 67108864 ∧ m2.length ≤ 67108864 ∧ m3.length ≤ 67108864 ∧ m4.length ≤ 67108864 ∧ k1.length ≤ 67108864 ∧ k2.length ≤ 67108864 ∧ k3.length ≤ 67108864 ∧ k4.length ≤ 67108864) ∧ sv s4 l4 ≠ 0 then
      some (.bool (decide (flt (sv s1 l1) (sv s2 l2) (sv s3 l3) (sv s4 l4) (sv t1 m1) (sv t2 m2) (sv t3 m3) (sv t4 m4) (sv q1 k1) (sv q2 k2) (sv q3 k3) (sv q4 k4)))) else none
  | _ => none
def c14 : ICode :=
  (.seq (.reg [⟨(some 3), none, (.box 28 8 (.t 0))⟩, ⟨(some 4), none, (.box 28 8 (.t 1))⟩, ⟨(some 5), none, (.box 28 8 (.t 2))⟩, ⟨(some 6), none, (.mv (.c (.bool false)))⟩])
  (.seq (.reg [⟨(some 10), none, (.load true 8 (.t 3))⟩, ⟨(some 11), none, (.load true 8 (.t 4))⟩, ⟨(some 12), none, (.load true 8 (.t 5))⟩, ⟨(some 13), none, (.call 39 [(.t 10), (.t 11), (.t 12)])⟩, ⟨(some 9), none, (.mv (.t 13))⟩, ⟨(some 14), none, (.ext (.t 9) 0)⟩, ⟨(some 15), none, (.ext (.t 9) 1)⟩, ⟨(some 7), none, (.alloc 25 8 [(.bool false), (.string ⟨⟨[]⟩⟩), (.bool false), (.string ⟨⟨[]⟩⟩), (.bool false), (.string ⟨⟨[]⟩⟩), (.bool false), (.string ⟨⟨[]⟩⟩)])⟩, ⟨none, none, (.store 8 (.t 7) (.t 14))⟩, ⟨(some 8), none, (.mv (.t 15))⟩])
  (.seq (.reg [⟨(some 16), none, (.mv (.t 8))⟩, ⟨(some 17), none, (.un .not (.t 16))⟩, ⟨(some 6), none, (.mv (.t 17))⟩])
  .ret)))
theorem tr14 : trFun Tryd.prog 14 = some ⟨18, [.t 6], c14⟩ := by kernel_rfl
set_option maxHeartbeats 2000000 in
theorem ok_xCollin : SpecOK Tryd.prog 14 (flat spXCollin) := by
  refine flat_run (env_cons ok_lnThrough (env_nil _)) mixed tr14 ?_
  intro args v h N hG
  unfold spXCollin at hG
  split at hG
  case h_2 => cases hG
  rename_i s1 l1 s2 l2 s3 l3 s4 l4 t1 m1 t2 m2 t3 m3 t4 m4 q1 k1 q2 k2 q3 k3 q4 k4
  split at hG
  case isFalse => cases hG
  rename_i hl
  obtain ⟨⟨h1, h2, h3, h4, h5, h6, h7, h8, h9, h10, h11, h12⟩, hne⟩ := hl
  have hF := thC_zero (a1 := sv s1 l1) (a2 := sv s2 l2) (a3 := sv s3 l3) (b1 := sv t1 m1) (b2 := sv t2 m2) (b3 := sv t3 m3) (b4 := sv t4 m4) (c1 := sv q1 k1) (c2 := sv q2 k2) (c3 := sv q3 k3) (c4 := sv q4 k4) hne
  obtain ⟨T, hT⟩ : ∃ T, thC (sv s1 l1) (sv s2 l2) (sv s3 l3) (sv s4 l4) (sv t1 m1) (sv t2 m2) (sv t3 m3) (sv t4 m4) (sv q1 k1) (sv q2 k2) (sv q3 k3) (sv q4 k4) = T := ⟨_, rfl⟩
  rw [hT] at hF
  obtain ⟨x, y, z, w⟩ := T
  simp only at hF
  have g1 : l1.length ≤ 1073741824 := by omega
  have g2 : l2.length ≤ 1073741824 := by omega
  have g3 : l3.length ≤ 1073741824 := by omega
  have g4 : l4.length ≤ 1073741824 := by omega
  have g5 : m1.length ≤ 1073741824 := by omega
  have g6 : m2.length ≤ 1073741824 := by omega
  have g7 : m3.length ≤ 1073741824 := by omega
  have g8 : m4.length ≤ 1073741824 := by omega
  have g9 : k1.length ≤ 1073741824 := by omega
  have g10 : k2.length ≤ 1073741824 := by omega
  have g11 : k3.length ≤ 1073741824 := by omega
  have g12 : k4.length ≤ 1073741824 := by omega
  cases hG
  refine ⟨rfl, by simp, ?_⟩
  by_cases h0 : x = 0 ∧ y = 0 ∧ z = 0
  · have hd := eq_true (hF ▸ h0)
    have hh := eq_true h0
    simp only [c14, initT, List.zipIdx_cons, List.zipIdx_nil, List.map_cons, List.map_nil, Nat.reduceAdd]
    simp only [↓R0, R1, rdL, rdH, isCall, istep, ibin, vcells, fillI, setR, flat, okCell, isBase, List.set, List.drop, List.take, List.append, bnds, bhi, blo, srcOf, ↓reduceIte, Nat.reduceEqDiff, Nat.reduceAdd, Nat.reduceLeDiff, reduceCtorEq, Nat.reduceSub, Int.reduceEq, Int.reduceLT, Int.reduceLE, Int.reduceGT, Int.reduceGE, Int.reduceSub, Int.reduceAdd, Int.reduceMul, Int.reduceNe, Int.reduceNeg, Int.reduceToNat, Nat.reduceMul, spLnThrough, g1, g2, g3, g4, g5, g6, g7, g8, g9, g10, g11, g12, hT, hh, pZ, hd, Bool.not_false, Bool.not_true, Fin, isEnd, resL, res1, iE, rE]
    exact ⟨_, rfl, rfl, fun k hk => by simp only [ne_nb hk, if_false]⟩
  · have hh := eq_false h0
    have hd := eq_false (hF ▸ h0)
    simp only [c14, initT, List.zipIdx_cons, List.zipIdx_nil, List.map_cons, List.map_nil, Nat.reduceAdd]
    simp only [↓R0, R1, rdL, rdH, isCall, istep, ibin, vcells, fillI, setR, flat, okCell, isBase, List.set, List.drop, List.take, List.append, bnds, bhi, blo, srcOf, ↓reduceIte, Nat.reduceEqDiff, Nat.reduceAdd, Nat.reduceLeDiff, reduceCtorEq, Nat.reduceSub, Int.reduceEq, Int.reduceLT, Int.reduceLE, Int.reduceGT, Int.reduceGE, Int.reduceSub, Int.reduceAdd, Int.reduceMul, Int.reduceNe, Int.reduceNeg, Int.reduceToNat, Nat.reduceMul, spLnThrough, g1, g2, g3, g4, g5, g6, g7, g8, g9, g10, g11, g12, hT, hh, lE, hd, Bool.not_false, Bool.not_true, Fin, isEnd, resL, res1, iE, rE]
    exact ⟨_, rfl, rfl, fun k hk => by simp only [ne_nb hk, if_false]⟩
end Go.Eng
end
section
set_option linter.unusedVariables false
set_option linter.unusedSimpArgs false
set_option linter.unusedSectionVars false
set_option maxRecDepth 20000
namespace Go.Eng
open Go Go.Proofs Go.IntWalk
def det3 (a1 a2 a3 b1 b2 b3 c1 c2 c3 : Int) : Int := a1 * (b2 * c3 - b3 * c2) + a2 * (b3 * c1 - b1 * c3) + a3 * (b1 * c2 - b2 * c1)
def sum3 (d z e y f x : Int) : Int := d * z + e * y + f * x
def spXThree : List Value → Option Value
  | [.agg ⟨[.bool sa1, .string ⟨⟨la1⟩⟩, .bool sa2, .string ⟨⟨la2⟩⟩, .bool sa3, .string ⟨⟨la3⟩⟩, .bool sa4, .string ⟨⟨la4⟩⟩]⟩, .agg ⟨[.bool sb1, .string ⟨⟨lb1⟩⟩, .bool sb2, .string ⟨⟨lb2⟩⟩, .bool sb3, .string ⟨⟨lb3⟩⟩, .bool sb4, .string ⟨⟨lb4⟩⟩]⟩, .agg ⟨[.bool sc1, .string ⟨⟨lc1⟩⟩, .bool sc2, .string ⟨⟨lc2⟩⟩, .bool sc3, .string ⟨⟨lc3⟩⟩, .bool sc4, .string ⟨⟨lc4⟩⟩]⟩] =>
    if la1.length ≤ 2147483648 ∧ la2.length ≤ 2147483648 ∧ la3.length ≤ 2147483648 ∧ la4.length ≤ 2147483648 ∧ lb1.length ≤ 2147483648 ∧ lb2.length ≤ 2147483648 ∧ lb3.length ≤ 2147483648 ∧ lb4.length ≤ 2147483648 ∧ lc1.length ≤ 2147483648 ∧ lc2.length ≤ 2147483648 ∧ lc3.length ≤ 2147483648 ∧ lc4.length ≤ 2147483648 then
      (if sv sa1 la1 * (sv sb2 lb2 * sv sc3 lc3 - sv sb3 lb3 * sv sc2 lc2) + sv sa2 la2 * (sv sb3 lb3 * sv sc1 lc1 - sv sb1 lb1 * sv sc3 lc3) + sv sa3 la3 * (sv sb1 lb1 * sv sc2 lc2 - sv sb2 lb2 * sv sc1 lc1) = 0 then some (.tuple ⟨[.agg ⟨pZ⟩, .bool false]⟩) else some (.tuple ⟨[.agg ⟨pE (sv sa4 la4 * (sv sb2 lb2 * sv sc3 lc3 - sv sb3 lb3 * sv sc2 lc2) + sv sb4 lb4 * (sv sc2 lc2 * sv sa3 la3 - sv sc3 lc3 * sv sa2 la2) + sv sc4 lc4 * (sv sa2 la2 * sv sb3 lb3 - sv sa3 la3 * sv sb2 lb2)) (sv sa4 la4 * (sv sb3 lb3 * sv sc1 lc1 - sv sb1 lb1 * sv sc3 lc3) + sv sb4 lb4 * (sv sc3 lc3 * sv sa1 la1 - sv sc1 lc1 * sv sa3 la3) + sv sc4 lc4 * (sv sa3 la3 * sv sb1 lb1 - sv sa1 la1 * sv sb3 lb3)) (sv sa4 la4 * (sv sb1 lb1 * sv sc2 lc2 - sv sb2 lb2 * sv sc1 lc1) + sv sb4 lb4 * (sv sc1 lc1 * sv sa2 la2 - sv sc2 lc2 * sv sa1 la1) + sv sc4 lc4 * (sv sa1 la1 * sv sb2 lb2 - sv sa2 la2 * sv sb1 lb1)) (sv sa1 la1 * (sv sb2 lb2 * sv sc3 lc3 - sv sb3 lb3 * sv sc2 lc2) + sv sa2 la2 * (sv sb3 lb3 * sv sc1 lc1 - sv sb1 lb1 * sv sc3 lc3) + sv sa3 la3 * (sv sb1 lb1 * sv sc2 lc2 - sv sb2 lb2 * sv sc1 lc1))⟩, .bool true]⟩)) else none
  | _ => none
def c10 : ICode :=
  (.seq (.reg [⟨(some 3), none, (.box 25 8 (.t 0))⟩, ⟨(some 4), none, (.box 25 8 (.t 1))⟩, ⟨(some 5), none, (.box 25 8 (.t 2))⟩, ⟨(some 6), none, (.alloc 28 8 [(.bool false), (.string ⟨⟨[]⟩⟩), (.bool false), (.string ⟨⟨[]⟩⟩), (.bool false), (.string ⟨⟨[]⟩⟩), (.bool false), (.string ⟨⟨[]⟩⟩)])⟩, ⟨(some 7), none, (.mv (.c (.bool false)))⟩])
  (.seq (.reg [⟨(some 14), none, (.load true 8 (.t 3))⟩, ⟨(some 15), none, (.load true 8 (.t 4))⟩, ⟨(some 16), none, (.load true 8 (.t 5))⟩, ⟨(some 17), none, (.build [(.bool false), (.string ⟨⟨[]⟩⟩), (.bool false), (.string ⟨⟨[]⟩⟩), (.bool false), (.string ⟨⟨[]⟩⟩), (.bool false), (.string ⟨⟨[]⟩⟩), (.bool false), (.string ⟨⟨[]⟩⟩), (.bool false), (.string ⟨⟨[]⟩⟩), (.bool false), (.string ⟨⟨[]⟩⟩), (.bool false), (.string ⟨⟨[]⟩⟩), (.bool false), (.string ⟨⟨[]⟩⟩), (.bool false), (.string ⟨⟨[]⟩⟩), (.bool false), (.string ⟨⟨[]⟩⟩), (.bool false), (.string ⟨⟨[]⟩⟩)] [(0, 8, (.t 14)), (8, 8, (.t 15)), (16, 8, (.t 16))])⟩, ⟨(some 8), none, (.alloc 26 24 [(.bool false), (.string ⟨⟨[]⟩⟩), (.bool false), (.string ⟨⟨[]⟩⟩), (.bool false), (.string ⟨⟨[]⟩⟩), (.bool false), (.string ⟨⟨[]⟩⟩), (.bool false), (.string ⟨⟨[]⟩⟩), (.bool false), (.string ⟨⟨[]⟩⟩), (.bool false), (.string ⟨⟨[]⟩⟩), (.bool false), (.string ⟨⟨[]⟩⟩), (.bool false), (.string ⟨⟨[]⟩⟩), (.bool false), (.string ⟨⟨[]⟩⟩), (.bool false), (.string ⟨⟨[]⟩⟩), (.bool false), (.string ⟨⟨[]⟩⟩)])⟩, ⟨none, none, (.store 24 (.t 8) (.t 17))⟩])
  (.seq (.reg [⟨(some 9), none, (.alloc 56 6 [(.bool false), (.string ⟨⟨[]⟩⟩), (.bool false), (.string ⟨⟨[]⟩⟩), (.bool false), (.string ⟨⟨[]⟩⟩)])⟩])
  (.seq (.seq (.reg [⟨(some 18), none, (.load true 24 (.t 8))⟩, ⟨(some 19), none, (.mv (.c (.int .i64 0)))⟩])
  (.block 0 (.loop (.seq (.reg [⟨(some 20), none, (.bin .lss (.t 19) (.c (.int .i64 3)))⟩])
  (.seq (.cond (.t 20)
  .skip
  (.exit 0))
  (.seq (.block 1 (.seq (.reg [⟨(some 21), none, (.mv (.t 19))⟩, ⟨(some 22), none, (.idarr 3 true 8 (.t 18) (.t 19))⟩, ⟨(some 11), none, (.alloc 25 8 [(.bool false), (.string ⟨⟨[]⟩⟩), (.bool false), (.string ⟨⟨[]⟩⟩), (.bool false), (.string ⟨⟨[]⟩⟩), (.bool false), (.string ⟨⟨[]⟩⟩)])⟩, ⟨(some 10), none, (.mv (.t 21))⟩, ⟨none, none, (.store 8 (.t 11) (.t 22))⟩])
  (.seq (.dreg [⟨(some 23), none, [], (.mv (.t 10))⟩, ⟨(some 24), none, [], (.bin .add (.t 23) (.c (.int .i64 1)))⟩, ⟨(some 25), none, [], (.bin .rem (.t 24) (.c (.int .i64 3)))⟩, ⟨(some 26), none, [], (.ixarr 3 8 (.t 8) (.t 25))⟩, ⟨(some 27), none, [], (.load true 8 (.t 26))⟩, ⟨(some 28), none, [], (.call 27 [(.t 27)])⟩, ⟨(some 29), none, [], (.mv (.t 10))⟩, ⟨(some 30), none, [], (.bin .add (.t 29) (.c (.int .i64 2)))⟩, ⟨(some 31), none, [], (.bin .rem (.t 30) (.c (.int .i64 3)))⟩, ⟨(some 32), none, [], (.ixarr 3 8 (.t 8) (.t 31))⟩, ⟨(some 33), none, [5], (.load true 8 (.t 32))⟩, ⟨(some 34), none, [], (.call 27 [(.t 33)])⟩, ⟨(some 35), none, [], (.call 26 [(.t 28), (.t 34)])⟩, ⟨(some 12), none, [], (.alloc 56 6 [(.bool false), (.string ⟨⟨[]⟩⟩), (.bool false), (.string ⟨⟨[]⟩⟩), (.bool false), (.string ⟨⟨[]⟩⟩)])⟩, ⟨none, none, [], (.store 6 (.t 12) (.t 35))⟩])
  (.seq (.reg [⟨(some 36), none, (.mv (.c (.int .i64 0)))⟩])
  (.block 2 (.loop (.seq (.reg [⟨(some 37), none, (.bin .lss (.t 36) (.c (.int .i64 3)))⟩])
  (.seq (.cond (.t 37)
  .skip
  (.exit 2))
  (.seq (.block 3 (.seq (.reg [⟨(some 38), none, (.mv (.t 36))⟩, ⟨(some 13), none, (.mv (.t 38))⟩])
  (.dreg [⟨(some 39), none, [], (.mv (.t 13))⟩, ⟨(some 40), none, [], (.mv (.t 13))⟩, ⟨(some 41), none, [], (.ixarr 3 2 (.t 9) (.t 40))⟩, ⟨(some 42), none, [], (.load true 2 (.t 41))⟩, ⟨(some 43), none, [], (.faddr 6 (.t 11))⟩, ⟨(some 44), none, [], (.load true 2 (.t 43))⟩, ⟨(some 45), none, [], (.mv (.t 13))⟩, ⟨(some 46), none, [], (.ixarr 3 2 (.t 12) (.t 45))⟩, ⟨(some 47), none, [], (.load true 2 (.t 46))⟩, ⟨(some 48), none, [], (.call 29 [(.t 44), (.t 47)])⟩, ⟨(some 49), none, [], (.call 28 [(.t 42), (.t 48)])⟩, ⟨(some 50), none, [], (.ixarr 3 2 (.t 9) (.t 39))⟩, ⟨none, none, [], (.store 2 (.t 50) (.t 49))⟩])))
  (.reg [⟨(some 51), none, (.bin .add (.t 36) (.c (.int .i64 1)))⟩, ⟨(some 36), none, (.mv (.t 51))⟩]))))))))))
  (.reg [⟨(some 52), none, (.bin .add (.t 19) (.c (.int .i64 1)))⟩, ⟨(some 19), none, (.mv (.t 52))⟩])))))))
  (.seq (.dreg [⟨(some 53), none, [], (.load true 6 (.t 9))⟩, ⟨(some 54), none, [], (.load true 8 (.t 3))⟩, ⟨(some 55), none, [], (.call 27 [(.t 54)])⟩, ⟨(some 56), none, [2], (.load true 8 (.t 4))⟩, ⟨(some 57), none, [], (.call 27 [(.t 56)])⟩, ⟨(some 58), none, [2, 4], (.load true 8 (.t 5))⟩, ⟨(some 59), none, [], (.call 27 [(.t 58)])⟩, ⟨(some 60), none, [], (.call 26 [(.t 57), (.t 59)])⟩, ⟨(some 61), none, [], (.call 31 [(.t 55), (.t 60)])⟩, ⟨(some 62), none, [], (.call 30 [(.t 53), (.t 61)])⟩, ⟨(some 63), none, [], (.ext (.t 62) 0)⟩, ⟨(some 64), none, [], (.ext (.t 62) 1)⟩, ⟨none, none, [], (.store 8 (.t 6) (.t 63))⟩, ⟨(some 7), none, [], (.mv (.t 64))⟩])
  .ret)))))
theorem tr10 : trFun Tryd.prog 10 = some ⟨65, [.cell 6 true 8, .t 7], c10⟩ := by kernel_rfl
set_option maxHeartbeats 8000000 in
theorem ok_xThree : SpecOK Tryd.prog 10 (flat spXThree) := by
  refine flat_run (env_cons ok_xNormal (env_cons ok_xCross (env_cons ok_xDot (env_cons ok_xMade (env_cons ok_iMul (env_cons ok_iAdd (env_nil _))))))) mixed tr10 ?_
  intro args v h N hG
  unfold spXThree at hG
  split at hG
  case h_2 => cases hG
  rename_i sa1 la1 sa2 la2 sa3 la3 sa4 la4 sb1 lb1 sb2 lb2 sb3 lb3 sb4 lb4 sc1 lc1 sc2 lc2 sc3 lc3 sc4 lc4
  split at hG
  case isFalse => cases hG
  rename_i hl
  obtain ⟨ha1, ha2, ha3, ha4, hb1, hb2, hb3, hb4, hc1, hc2, hc3, hc4⟩ := hl
  have na1 := len_sv (s := sa1) ha1
  have ra1 : la1.length ≤ 4294967296 := by omega
  have qa1 : la1.length ≤ 17179869184 := by omega
  have na2 := len_sv (s := sa2) ha2
  have ra2 : la2.length ≤ 4294967296 := by omega
  have qa2 : la2.length ≤ 17179869184 := by omega
  have na3 := len_sv (s := sa3) ha3
  have ra3 : la3.length ≤ 4294967296 := by omega
  have qa3 : la3.length ≤ 17179869184 := by omega
  have na4 := len_sv (s := sa4) ha4
  have ra4 : la4.length ≤ 34359738368 := by omega
  have nb1 := len_sv (s := sb1) hb1
  have rb1 : lb1.length ≤ 4294967296 := by omega
  have qb1 : lb1.length ≤ 17179869184 := by omega
  have nb2 := len_sv (s := sb2) hb2
  have rb2 : lb2.length ≤ 4294967296 := by omega
  have qb2 : lb2.length ≤ 17179869184 := by omega
  have nb3 := len_sv (s := sb3) hb3
  have rb3 : lb3.length ≤ 4294967296 := by omega
  have qb3 : lb3.length ≤ 17179869184 := by omega
  have nb4 := len_sv (s := sb4) hb4
  have rb4 : lb4.length ≤ 34359738368 := by omega
  have nc1 := len_sv (s := sc1) hc1
  have rc1 : lc1.length ≤ 4294967296 := by omega
  have qc1 : lc1.length ≤ 17179869184 := by omega
  have nc2 := len_sv (s := sc2) hc2
  have rc2 : lc2.length ≤ 4294967296 := by omega
  have qc2 : lc2.length ≤ 17179869184 := by omega
  have nc3 := len_sv (s := sc3) hc3
  have rc3 : lc3.length ≤ 4294967296 := by omega
  have qc3 : lc3.length ≤ 17179869184 := by omega
  have nc4 := len_sv (s := sc4) hc4
  have rc4 : lc4.length ≤ 34359738368 := by omega
  have zbc0 := lsub (k := 8589934592) (lmul (k := 4294967296) nb2 nc3 (by omega)) (lmul (k := 4294967296) nb3 nc2 (by omega)) (by omega)
  obtain ⟨Zbc0, ebc0⟩ : ∃ z, sv sb2 lb2 * sv sc3 lc3 - sv sb3 lb3 * sv sc2 lc2 = z := ⟨_, rfl⟩
  rw [ebc0] at hG zbc0
  have ybc0 := lle (k := 34359738368) zbc0 (by omega)
  have xbc0 := lmul (k := 12884901888) na4 zbc0 (by omega)
  have wbc0 := lle (k := 68719476736) xbc0 (by omega)
  have zbc1 := lsub (k := 8589934592) (lmul (k := 4294967296) nb3 nc1 (by omega)) (lmul (k := 4294967296) nb1 nc3 (by omega)) (by omega)
  obtain ⟨Zbc1, ebc1⟩ : ∃ z, sv sb3 lb3 * sv sc1 lc1 - sv sb1 lb1 * sv sc3 lc3 = z := ⟨_, rfl⟩
  rw [ebc1] at hG zbc1
  have ybc1 := lle (k := 34359738368) zbc1 (by omega)
  have xbc1 := lmul (k := 12884901888) na4 zbc1 (by omega)
  have wbc1 := lle (k := 68719476736) xbc1 (by omega)
  have zbc2 := lsub (k := 8589934592) (lmul (k := 4294967296) nb1 nc2 (by omega)) (lmul (k := 4294967296) nb2 nc1 (by omega)) (by omega)
  obtain ⟨Zbc2, ebc2⟩ : ∃ z, sv sb1 lb1 * sv sc2 lc2 - sv sb2 lb2 * sv sc1 lc1 = z := ⟨_, rfl⟩
  rw [ebc2] at hG zbc2
  have ybc2 := lle (k := 34359738368) zbc2 (by omega)
  have xbc2 := lmul (k := 12884901888) na4 zbc2 (by omega)
  have wbc2 := lle (k := 68719476736) xbc2 (by omega)
  have zca0 := lsub (k := 8589934592) (lmul (k := 4294967296) nc2 na3 (by omega)) (lmul (k := 4294967296) nc3 na2 (by omega)) (by omega)
  obtain ⟨Zca0, eca0⟩ : ∃ z, sv sc2 lc2 * sv sa3 la3 - sv sc3 lc3 * sv sa2 la2 = z := ⟨_, rfl⟩
  rw [eca0] at hG zca0
  have yca0 := lle (k := 34359738368) zca0 (by omega)
  have xca0 := lmul (k := 12884901888) nb4 zca0 (by omega)
  have wca0 := lle (k := 68719476736) xca0 (by omega)
  have zca1 := lsub (k := 8589934592) (lmul (k := 4294967296) nc3 na1 (by omega)) (lmul (k := 4294967296) nc1 na3 (by omega)) (by omega)
  obtain ⟨Zca1, eca1⟩ : ∃ z, sv sc3 lc3 * sv sa1 la1 - sv sc1 lc1 * sv sa3 la3 = z := ⟨_, rfl⟩
  rw [eca1] at hG zca1
  have yca1 := lle (k := 34359738368) zca1 (by omega)
  have xca1 := lmul (k := 12884901888) nb4 zca1 (by omega)
  have wca1 := lle (k := 68719476736) xca1 (by omega)
  have zca2 := lsub (k := 8589934592) (lmul (k := 4294967296) nc1 na2 (by omega)) (lmul (k := 4294967296) nc2 na1 (by omega)) (by omega)
  obtain ⟨Zca2, eca2⟩ : ∃ z, sv sc1 lc1 * sv sa2 la2 - sv sc2 lc2 * sv sa1 la1 = z := ⟨_, rfl⟩
  rw [eca2] at hG zca2
  have yca2 := lle (k := 34359738368) zca2 (by omega)
  have xca2 := lmul (k := 12884901888) nb4 zca2 (by omega)
  have wca2 := lle (k := 68719476736) xca2 (by omega)
  have zab0 := lsub (k := 8589934592) (lmul (k := 4294967296) na2 nb3 (by omega)) (lmul (k := 4294967296) na3 nb2 (by omega)) (by omega)
  obtain ⟨Zab0, eab0⟩ : ∃ z, sv sa2 la2 * sv sb3 lb3 - sv sa3 la3 * sv sb2 lb2 = z := ⟨_, rfl⟩
  rw [eab0] at hG zab0
  have yab0 := lle (k := 34359738368) zab0 (by omega)
  have xab0 := lmul (k := 12884901888) nc4 zab0 (by omega)
  have wab0 := lle (k := 68719476736) xab0 (by omega)
  have zab1 := lsub (k := 8589934592) (lmul (k := 4294967296) na3 nb1 (by omega)) (lmul (k := 4294967296) na1 nb3 (by omega)) (by omega)
  obtain ⟨Zab1, eab1⟩ : ∃ z, sv sa3 la3 * sv sb1 lb1 - sv sa1 la1 * sv sb3 lb3 = z := ⟨_, rfl⟩
  rw [eab1] at hG zab1
  have yab1 := lle (k := 34359738368) zab1 (by omega)
  have xab1 := lmul (k := 12884901888) nc4 zab1 (by omega)
  have wab1 := lle (k := 68719476736) xab1 (by omega)
  have zab2 := lsub (k := 8589934592) (lmul (k := 4294967296) na1 nb2 (by omega)) (lmul (k := 4294967296) na2 nb1 (by omega)) (by omega)
  obtain ⟨Zab2, eab2⟩ : ∃ z, sv sa1 la1 * sv sb2 lb2 - sv sa2 la2 * sv sb1 lb1 = z := ⟨_, rfl⟩
  rw [eab2] at hG zab2
  have yab2 := lle (k := 34359738368) zab2 (by omega)
  have xab2 := lmul (k := 12884901888) nc4 zab2 (by omega)
  have wab2 := lle (k := 68719476736) xab2 (by omega)
  have t0 := lle (k := 17179869184) zbc0 (by omega)
  have u0 := ladd (k := 12884901889) xbc0 xca0 (by omega)
  have ul0 := lle (k := 68719476736) u0 (by omega)
  have S0 := ladd (k := 34359738368) u0 xab0 (by omega)
  have t1 := lle (k := 17179869184) zbc1 (by omega)
  have u1 := ladd (k := 12884901889) xbc1 xca1 (by omega)
  have ul1 := lle (k := 68719476736) u1 (by omega)
  have S1 := ladd (k := 34359738368) u1 xab1 (by omega)
  have t2 := lle (k := 17179869184) zbc2 (by omega)
  have u2 := ladd (k := 12884901889) xbc2 xca2 (by omega)
  have ul2 := lle (k := 68719476736) u2 (by omega)
  have S2 := ladd (k := 34359738368) u2 xab2 (by omega)
  have W0 := ladd (k := 34359738368) (ladd (k := 17179869184) (lmul (k := 12884901888) na1 zbc0 (by omega)) (lmul (k := 12884901888) na2 zbc1 (by omega)) (by omega)) (lmul (k := 12884901888) na3 zbc2 (by omega)) (by omega)
  have z0 : sv false [] = 0 := rfl
  have zl0 : (bl (Int.natAbs 0)).length ≤ 34359738368 := by rw [show Int.natAbs 0 = 0 from rfl, bl_zero]; exact Nat.zero_le _
  have zs0 : sv false (bl (Int.natAbs 0)) = 0 := by rw [sv_bl]; rfl
  have i1 : IntKind.i64.wrap 1 = 1 := i64_in _ (by omega)
  have i2 : IntKind.i64.wrap 2 = 2 := i64_in _ (by omega)
  have i3 : IntKind.i64.wrap 3 = 3 := i64_in _ (by omega)
  have i4 : IntKind.i64.wrap 4 = 4 := i64_in _ (by omega)
  have m1 : Int.tmod 1 3 = 1 := rfl
  have m2 : Int.tmod 2 3 = 2 := rfl
  have m3 : Int.tmod 3 3 = 0 := rfl
  have m4 : Int.tmod 4 3 = 1 := rfl
  split at hG
  · rename_i hw
    cases hG
    refine ⟨rfl, by simp, ?_⟩
    simp only [c10, initT, List.zipIdx_cons, List.zipIdx_nil, List.map_cons, List.map_nil, Nat.reduceAdd]
    simp only [↓R0, R1, rdL, rdH, isCall, istep, ibin, vcells, fillI, setR, flat, okCell, isBase, List.set, List.drop, List.take, List.append, bnds, bhi, blo, srcOf, ↓reduceIte, Nat.reduceEqDiff, Nat.reduceAdd, Nat.reduceLeDiff, reduceCtorEq, Nat.reduceSub, Int.reduceEq, Int.reduceLT, Int.reduceLE, Int.reduceGT, Int.reduceGE, Int.reduceSub, Int.reduceAdd, Int.reduceMul, Int.reduceNe, Int.reduceNeg, Int.reduceToNat, Nat.reduceMul]
    refine lp_step ?_
    simp only [↓R0, R1, rdL, rdH, isCall, istep, ibin, vcells, fillI, setR, flat, okCell, isBase, List.set, List.drop, List.take, List.append, bnds, bhi, blo, srcOf, ↓reduceIte, Nat.reduceEqDiff, Nat.reduceAdd, Nat.reduceLeDiff, reduceCtorEq, Nat.reduceSub, Int.reduceEq, Int.reduceLT, Int.reduceLE, Int.reduceGT, Int.reduceGE, Int.reduceSub, Int.reduceAdd, Int.reduceMul, Int.reduceNe, Int.reduceNeg, Int.reduceToNat, Nat.reduceMul, ra1, qa1, ra2, qa2, ra3, qa3, ra4, rb1, qb1, rb2, qb2, rb3, qb3, rb4, rc1, qc1, rc2, qc2, rc3, qc3, rc4, ebc0, ybc0, wbc0, ebc1, ybc1, wbc1, ebc2, ybc2, wbc2, eca0, yca0, wca0, eca1, yca1, wca1, eca2, yca2, wca2, eab0, yab0, wab0, eab1, yab1, wab1, eab2, yab2, wab2, t0, ul0, S0, t1, ul1, S1, t2, ul2, S2, W0, z0, Int.zero_add, Nat.zero_le, i1, i2, i3, i4, m1, m2, m3, m4, spXNormal, spXCross, tE, spIMul, spIAdd, iE]
    refine lp_step ?_
    simp only [↓R0, R1, rdL, rdH, isCall, istep, ibin, vcells, fillI, setR, flat, okCell, isBase, List.set, List.drop, List.take, List.append, bnds, bhi, blo, srcOf, ↓reduceIte, Nat.reduceEqDiff, Nat.reduceAdd, Nat.reduceLeDiff, reduceCtorEq, Nat.reduceSub, Int.reduceEq, Int.reduceLT, Int.reduceLE, Int.reduceGT, Int.reduceGE, Int.reduceSub, Int.reduceAdd, Int.reduceMul, Int.reduceNe, Int.reduceNeg, Int.reduceToNat, Nat.reduceMul, ra1, qa1, ra2, qa2, ra3, qa3, ra4, rb1, qb1, rb2, qb2, rb3, qb3, rb4, rc1, qc1, rc2, qc2, rc3, qc3, rc4, ebc0, ybc0, wbc0, ebc1, ybc1, wbc1, ebc2, ybc2, wbc2, eca0, yca0, wca0, eca1, yca1, wca1, eca2, yca2, wca2, eab0, yab0, wab0, eab1, yab1, wab1, eab2, yab2, wab2, t0, ul0, S0, t1, ul1, S1, t2, ul2, S2, W0, z0, Int.zero_add, Nat.zero_le, i1, i2, i3, i4, m1, m2, m3, m4, spXNormal, spXCross, tE, spIMul, spIAdd, iE]
    refine lp_step ?_
    simp only [↓R0, R1, rdL, rdH, isCall, istep, ibin, vcells, fillI, setR, flat, okCell, isBase, List.set, List.drop, List.take, List.append, bnds, bhi, blo, srcOf, ↓reduceIte, Nat.reduceEqDiff, Nat.reduceAdd, Nat.reduceLeDiff, reduceCtorEq, Nat.reduceSub, Int.reduceEq, Int.reduceLT, Int.reduceLE, Int.reduceGT, Int.reduceGE, Int.reduceSub, Int.reduceAdd, Int.reduceMul, Int.reduceNe, Int.reduceNeg, Int.reduceToNat, Nat.reduceMul, ra1, qa1, ra2, qa2, ra3, qa3, ra4, rb1, qb1, rb2, qb2, rb3, qb3, rb4, rc1, qc1, rc2, qc2, rc3, qc3, rc4, ebc0, ybc0, wbc0, ebc1, ybc1, wbc1, ebc2, ybc2, wbc2, eca0, yca0, wca0, eca1, yca1, wca1, eca2, yca2, wca2, eab0, yab0, wab0, eab1, yab1, wab1, eab2, yab2, wab2, t0, ul0, S0, t1, ul1, S1, t2, ul2, S2, W0, z0, Int.zero_add, Nat.zero_le, i1, i2, i3, i4, m1, m2, m3, m4, spXNormal, spXCross, tE, spIMul, spIAdd, iE]
    refine lp_step ?_
    simp only [↓R0, R1, rdL, rdH, isCall, istep, ibin, vcells, fillI, setR, flat, okCell, isBase, List.set, List.drop, List.take, List.append, bnds, bhi, blo, srcOf, ↓reduceIte, Nat.reduceEqDiff, Nat.reduceAdd, Nat.reduceLeDiff, reduceCtorEq, Nat.reduceSub, Int.reduceEq, Int.reduceLT, Int.reduceLE, Int.reduceGT, Int.reduceGE, Int.reduceSub, Int.reduceAdd, Int.reduceMul, Int.reduceNe, Int.reduceNeg, Int.reduceToNat, Nat.reduceMul, ra1, qa1, ra2, qa2, ra3, qa3, ra4, rb1, qb1, rb2, qb2, rb3, qb3, rb4, rc1, qc1, rc2, qc2, rc3, qc3, rc4, ebc0, ybc0, wbc0, ebc1, ybc1, wbc1, ebc2, ybc2, wbc2, eca0, yca0, wca0, eca1, yca1, wca1, eca2, yca2, wca2, eab0, yab0, wab0, eab1, yab1, wab1, eab2, yab2, wab2, t0, ul0, S0, t1, ul1, S1, t2, ul2, S2, W0, z0, Int.zero_add, Nat.zero_le, i1, i2, i3, i4, m1, m2, m3, m4, spXNormal, spXCross, tE, spIMul, spIAdd, iE]
    refine lp_step ?_
    simp only [↓R0, R1, rdL, rdH, isCall, istep, ibin, vcells, fillI, setR, flat, okCell, isBase, List.set, List.drop, List.take, List.append, bnds, bhi, blo, srcOf, ↓reduceIte, Nat.reduceEqDiff, Nat.reduceAdd, Nat.reduceLeDiff, reduceCtorEq, Nat.reduceSub, Int.reduceEq, Int.reduceLT, Int.reduceLE, Int.reduceGT, Int.reduceGE, Int.reduceSub, Int.reduceAdd, Int.reduceMul, Int.reduceNe, Int.reduceNeg, Int.reduceToNat, Nat.reduceMul, ra1, qa1, ra2, qa2, ra3, qa3, ra4, rb1, qb1, rb2, qb2, rb3, qb3, rb4, rc1, qc1, rc2, qc2, rc3, qc3, rc4, ebc0, ybc0, wbc0, ebc1, ybc1, wbc1, ebc2, ybc2, wbc2, eca0, yca0, wca0, eca1, yca1, wca1, eca2, yca2, wca2, eab0, yab0, wab0, eab1, yab1, wab1, eab2, yab2, wab2, t0, ul0, S0, t1, ul1, S1, t2, ul2, S2, W0, z0, Int.zero_add, Nat.zero_le, i1, i2, i3, i4, m1, m2, m3, m4, spXNormal, spXCross, tE, spIMul, spIAdd, iE]
    refine lp_step ?_
    simp only [↓R0, R1, rdL, rdH, isCall, istep, ibin, vcells, fillI, setR, flat, okCell, isBase, List.set, List.drop, List.take, List.append, bnds, bhi, blo, srcOf, ↓reduceIte, Nat.reduceEqDiff, Nat.reduceAdd, Nat.reduceLeDiff, reduceCtorEq, Nat.reduceSub, Int.reduceEq, Int.reduceLT, Int.reduceLE, Int.reduceGT, Int.reduceGE, Int.reduceSub, Int.reduceAdd, Int.reduceMul, Int.reduceNe, Int.reduceNeg, Int.reduceToNat, Nat.reduceMul, ra1, qa1, ra2, qa2, ra3, qa3, ra4, rb1, qb1, rb2, qb2, rb3, qb3, rb4, rc1, qc1, rc2, qc2, rc3, qc3, rc4, ebc0, ybc0, wbc0, ebc1, ybc1, wbc1, ebc2, ybc2, wbc2, eca0, yca0, wca0, eca1, yca1, wca1, eca2, yca2, wca2, eab0, yab0, wab0, eab1, yab1, wab1, eab2, yab2, wab2, t0, ul0, S0, t1, ul1, S1, t2, ul2, S2, W0, z0, Int.zero_add, Nat.zero_le, i1, i2, i3, i4, m1, m2, m3, m4, spXNormal, spXCross, tE, spIMul, spIAdd, iE]
    refine lp_step ?_
    simp only [↓R0, R1, rdL, rdH, isCall, istep, ibin, vcells, fillI, setR, flat, okCell, isBase, List.set, List.drop, List.take, List.append, bnds, bhi, blo, srcOf, ↓reduceIte, Nat.reduceEqDiff, Nat.reduceAdd, Nat.reduceLeDiff, reduceCtorEq, Nat.reduceSub, Int.reduceEq, Int.reduceLT, Int.reduceLE, Int.reduceGT, Int.reduceGE, Int.reduceSub, Int.reduceAdd, Int.reduceMul, Int.reduceNe, Int.reduceNeg, Int.reduceToNat, Nat.reduceMul, ra1, qa1, ra2, qa2, ra3, qa3, ra4, rb1, qb1, rb2, qb2, rb3, qb3, rb4, rc1, qc1, rc2, qc2, rc3, qc3, rc4, ebc0, ybc0, wbc0, ebc1, ybc1, wbc1, ebc2, ybc2, wbc2, eca0, yca0, wca0, eca1, yca1, wca1, eca2, yca2, wca2, eab0, yab0, wab0, eab1, yab1, wab1, eab2, yab2, wab2, t0, ul0, S0, t1, ul1, S1, t2, ul2, S2, W0, z0, Int.zero_add, Nat.zero_le, i1, i2, i3, i4, m1, m2, m3, m4, spXNormal, spXCross, tE, spIMul, spIAdd, iE]
    refine lp_step ?_
    simp only [↓R0, R1, rdL, rdH, isCall, istep, ibin, vcells, fillI, setR, flat, okCell, isBase, List.set, List.drop, List.take, List.append, bnds, bhi, blo, srcOf, ↓reduceIte, Nat.reduceEqDiff, Nat.reduceAdd, Nat.reduceLeDiff, reduceCtorEq, Nat.reduceSub, Int.reduceEq, Int.reduceLT, Int.reduceLE, Int.reduceGT, Int.reduceGE, Int.reduceSub, Int.reduceAdd, Int.reduceMul, Int.reduceNe, Int.reduceNeg, Int.reduceToNat, Nat.reduceMul, ra1, qa1, ra2, qa2, ra3, qa3, ra4, rb1, qb1, rb2, qb2, rb3, qb3, rb4, rc1, qc1, rc2, qc2, rc3, qc3, rc4, ebc0, ybc0, wbc0, ebc1, ybc1, wbc1, ebc2, ybc2, wbc2, eca0, yca0, wca0, eca1, yca1, wca1, eca2, yca2, wca2, eab0, yab0, wab0, eab1, yab1, wab1, eab2, yab2, wab2, t0, ul0, S0, t1, ul1, S1, t2, ul2, S2, W0, z0, Int.zero_add, Nat.zero_le, i1, i2, i3, i4, m1, m2, m3, m4, spXNormal, spXCross, tE, spIMul, spIAdd, iE]
    refine lp_step ?_
    simp only [↓R0, R1, rdL, rdH, isCall, istep, ibin, vcells, fillI, setR, flat, okCell, isBase, List.set, List.drop, List.take, List.append, bnds, bhi, blo, srcOf, ↓reduceIte, Nat.reduceEqDiff, Nat.reduceAdd, Nat.reduceLeDiff, reduceCtorEq, Nat.reduceSub, Int.reduceEq, Int.reduceLT, Int.reduceLE, Int.reduceGT, Int.reduceGE, Int.reduceSub, Int.reduceAdd, Int.reduceMul, Int.reduceNe, Int.reduceNeg, Int.reduceToNat, Nat.reduceMul, ra1, qa1, ra2, qa2, ra3, qa3, ra4, rb1, qb1, rb2, qb2, rb3, qb3, rb4, rc1, qc1, rc2, qc2, rc3, qc3, rc4, ebc0, ybc0, wbc0, ebc1, ybc1, wbc1, ebc2, ybc2, wbc2, eca0, yca0, wca0, eca1, yca1, wca1, eca2, yca2, wca2, eab0, yab0, wab0, eab1, yab1, wab1, eab2, yab2, wab2, t0, ul0, S0, t1, ul1, S1, t2, ul2, S2, W0, z0, Int.zero_add, Nat.zero_le, i1, i2, i3, i4, m1, m2, m3, m4, spXNormal, spXCross, tE, spIMul, spIAdd, iE]
    refine lp_step ?_
    simp only [↓R0, R1, rdL, rdH, isCall, istep, ibin, vcells, fillI, setR, flat, okCell, isBase, List.set, List.drop, List.take, List.append, bnds, bhi, blo, srcOf, ↓reduceIte, Nat.reduceEqDiff, Nat.reduceAdd, Nat.reduceLeDiff, reduceCtorEq, Nat.reduceSub, Int.reduceEq, Int.reduceLT, Int.reduceLE, Int.reduceGT, Int.reduceGE, Int.reduceSub, Int.reduceAdd, Int.reduceMul, Int.reduceNe, Int.reduceNeg, Int.reduceToNat, Nat.reduceMul, ra1, qa1, ra2, qa2, ra3, qa3, ra4, rb1, qb1, rb2, qb2, rb3, qb3, rb4, rc1, qc1, rc2, qc2, rc3, qc3, rc4, ebc0, ybc0, wbc0, ebc1, ybc1, wbc1, ebc2, ybc2, wbc2, eca0, yca0, wca0, eca1, yca1, wca1, eca2, yca2, wca2, eab0, yab0, wab0, eab1, yab1, wab1, eab2, yab2, wab2, t0, ul0, S0, t1, ul1, S1, t2, ul2, S2, W0, z0, Int.zero_add, Nat.zero_le, i1, i2, i3, i4, m1, m2, m3, m4, spXNormal, spXCross, tE, spIMul, spIAdd, iE]
    refine lp_step ?_
    simp only [↓R0, R1, rdL, rdH, isCall, istep, ibin, vcells, fillI, setR, flat, okCell, isBase, List.set, List.drop, List.take, List.append, bnds, bhi, blo, srcOf, ↓reduceIte, Nat.reduceEqDiff, Nat.reduceAdd, Nat.reduceLeDiff, reduceCtorEq, Nat.reduceSub, Int.reduceEq, Int.reduceLT, Int.reduceLE, Int.reduceGT, Int.reduceGE, Int.reduceSub, Int.reduceAdd, Int.reduceMul, Int.reduceNe, Int.reduceNeg, Int.reduceToNat, Nat.reduceMul, ra1, qa1, ra2, qa2, ra3, qa3, ra4, rb1, qb1, rb2, qb2, rb3, qb3, rb4, rc1, qc1, rc2, qc2, rc3, qc3, rc4, ebc0, ybc0, wbc0, ebc1, ybc1, wbc1, ebc2, ybc2, wbc2, eca0, yca0, wca0, eca1, yca1, wca1, eca2, yca2, wca2, eab0, yab0, wab0, eab1, yab1, wab1, eab2, yab2, wab2, t0, ul0, S0, t1, ul1, S1, t2, ul2, S2, W0, z0, Int.zero_add, Nat.zero_le, i1, i2, i3, i4, m1, m2, m3, m4, spXNormal, spXCross, tE, spIMul, spIAdd, iE]
    refine lp_step ?_
    simp only [↓R0, R1, rdL, rdH, isCall, istep, ibin, vcells, fillI, setR, flat, okCell, isBase, List.set, List.drop, List.take, List.append, bnds, bhi, blo, srcOf, ↓reduceIte, Nat.reduceEqDiff, Nat.reduceAdd, Nat.reduceLeDiff, reduceCtorEq, Nat.reduceSub, Int.reduceEq, Int.reduceLT, Int.reduceLE, Int.reduceGT, Int.reduceGE, Int.reduceSub, Int.reduceAdd, Int.reduceMul, Int.reduceNe, Int.reduceNeg, Int.reduceToNat, Nat.reduceMul, ra1, qa1, ra2, qa2, ra3, qa3, ra4, rb1, qb1, rb2, qb2, rb3, qb3, rb4, rc1, qc1, rc2, qc2, rc3, qc3, rc4, ebc0, ybc0, wbc0, ebc1, ybc1, wbc1, ebc2, ybc2, wbc2, eca0, yca0, wca0, eca1, yca1, wca1, eca2, yca2, wca2, eab0, yab0, wab0, eab1, yab1, wab1, eab2, yab2, wab2, t0, ul0, S0, t1, ul1, S1, t2, ul2, S2, W0, z0, Int.zero_add, Nat.zero_le, i1, i2, i3, i4, m1, m2, m3, m4, spXNormal, spXCross, tE, spIMul, spIAdd, iE]
    refine lp_step ?_
    simp only [↓R0, R1, rdL, rdH, isCall, istep, ibin, vcells, fillI, setR, flat, okCell, isBase, List.set, List.drop, List.take, List.append, bnds, bhi, blo, srcOf, ↓reduceIte, Nat.reduceEqDiff, Nat.reduceAdd, Nat.reduceLeDiff, reduceCtorEq, Nat.reduceSub, Int.reduceEq, Int.reduceLT, Int.reduceLE, Int.reduceGT, Int.reduceGE, Int.reduceSub, Int.reduceAdd, Int.reduceMul, Int.reduceNe, Int.reduceNeg, Int.reduceToNat, Nat.reduceMul, ra1, qa1, ra2, qa2, ra3, qa3, ra4, rb1, qb1, rb2, qb2, rb3, qb3, rb4, rc1, qc1, rc2, qc2, rc3, qc3, rc4, ebc0, ybc0, wbc0, ebc1, ybc1, wbc1, ebc2, ybc2, wbc2, eca0, yca0, wca0, eca1, yca1, wca1, eca2, yca2, wca2, eab0, yab0, wab0, eab1, yab1, wab1, eab2, yab2, wab2, t0, ul0, S0, t1, ul1, S1, t2, ul2, S2, W0, z0, Int.zero_add, Nat.zero_le, i1, i2, i3, i4, m1, m2, m3, m4, spXNormal, spXCross, tE, spIMul, spIAdd, iE]
    refine lp_step ?_
    simp only [↓R0, R1, rdL, rdH, isCall, istep, ibin, vcells, fillI, setR, flat, okCell, isBase, List.set, List.drop, List.take, List.append, bnds, bhi, blo, srcOf, ↓reduceIte, Nat.reduceEqDiff, Nat.reduceAdd, Nat.reduceLeDiff, reduceCtorEq, Nat.reduceSub, Int.reduceEq, Int.reduceLT, Int.reduceLE, Int.reduceGT, Int.reduceGE, Int.reduceSub, Int.reduceAdd, Int.reduceMul, Int.reduceNe, Int.reduceNeg, Int.reduceToNat, Nat.reduceMul, ra1, qa1, ra2, qa2, ra3, qa3, ra4, rb1, qb1, rb2, qb2, rb3, qb3, rb4, rc1, qc1, rc2, qc2, rc3, qc3, rc4, ebc0, ybc0, wbc0, ebc1, ybc1, wbc1, ebc2, ybc2, wbc2, eca0, yca0, wca0, eca1, yca1, wca1, eca2, yca2, wca2, eab0, yab0, wab0, eab1, yab1, wab1, eab2, yab2, wab2, t0, ul0, S0, t1, ul1, S1, t2, ul2, S2, W0, z0, Int.zero_add, Nat.zero_le, i1, i2, i3, i4, m1, m2, m3, m4, spXNormal, spXCross, tE, spIMul, spIAdd, iE]
    refine lp_step ?_
    simp only [↓R0, R1, rdL, rdH, isCall, istep, ibin, vcells, fillI, setR, flat, okCell, isBase, List.set, List.drop, List.take, List.append, bnds, bhi, blo, srcOf, ↓reduceIte, Nat.reduceEqDiff, Nat.reduceAdd, Nat.reduceLeDiff, reduceCtorEq, Nat.reduceSub, Int.reduceEq, Int.reduceLT, Int.reduceLE, Int.reduceGT, Int.reduceGE, Int.reduceSub, Int.reduceAdd, Int.reduceMul, Int.reduceNe, Int.reduceNeg, Int.reduceToNat, Nat.reduceMul, ra1, qa1, ra2, qa2, ra3, qa3, ra4, rb1, qb1, rb2, qb2, rb3, qb3, rb4, rc1, qc1, rc2, qc2, rc3, qc3, rc4, ebc0, ybc0, wbc0, ebc1, ybc1, wbc1, ebc2, ybc2, wbc2, eca0, yca0, wca0, eca1, yca1, wca1, eca2, yca2, wca2, eab0, yab0, wab0, eab1, yab1, wab1, eab2, yab2, wab2, t0, ul0, S0, t1, ul1, S1, t2, ul2, S2, W0, z0, Int.zero_add, Nat.zero_le, i1, i2, i3, i4, m1, m2, m3, m4, spXNormal, spXCross, tE, spIMul, spIAdd, iE]
    refine lp_step ?_
    simp only [↓R0, R1, rdL, rdH, isCall, istep, ibin, vcells, fillI, setR, flat, okCell, isBase, List.set, List.drop, List.take, List.append, bnds, bhi, blo, srcOf, ↓reduceIte, Nat.reduceEqDiff, Nat.reduceAdd, Nat.reduceLeDiff, reduceCtorEq, Nat.reduceSub, Int.reduceEq, Int.reduceLT, Int.reduceLE, Int.reduceGT, Int.reduceGE, Int.reduceSub, Int.reduceAdd, Int.reduceMul, Int.reduceNe, Int.reduceNeg, Int.reduceToNat, Nat.reduceMul, ra1, qa1, ra2, qa2, ra3, qa3, ra4, rb1, qb1, rb2, qb2, rb3, qb3, rb4, rc1, qc1, rc2, qc2, rc3, qc3, rc4, ebc0, ybc0, wbc0, ebc1, ybc1, wbc1, ebc2, ybc2, wbc2, eca0, yca0, wca0, eca1, yca1, wca1, eca2, yca2, wca2, eab0, yab0, wab0, eab1, yab1, wab1, eab2, yab2, wab2, t0, ul0, S0, t1, ul1, S1, t2, ul2, S2, W0, z0, Int.zero_add, Nat.zero_le, spXNormal, spXCross, tE, spXDot, spXMade, hw, zl0, zs0, Int.lt_irrefl, pZ, pE, Fin, isEnd, resL, res1, iE, rE]
    exact ⟨_, rfl, rfl, fun k hk => by simp only [ne_nb hk, if_false]⟩
  · rename_i hw
    cases hG
    refine ⟨rfl, by simp, ?_⟩
    simp only [c10, initT, List.zipIdx_cons, List.zipIdx_nil, List.map_cons, List.map_nil, Nat.reduceAdd]
    simp only [↓R0, R1, rdL, rdH, isCall, istep, ibin, vcells, fillI, setR, flat, okCell, isBase, List.set, List.drop, List.take, List.append, bnds, bhi, blo, srcOf, ↓reduceIte, Nat.reduceEqDiff, Nat.reduceAdd, Nat.reduceLeDiff, reduceCtorEq, Nat.reduceSub, Int.reduceEq, Int.reduceLT, Int.reduceLE, Int.reduceGT, Int.reduceGE, Int.reduceSub, Int.reduceAdd, Int.reduceMul, Int.reduceNe, Int.reduceNeg, Int.reduceToNat, Nat.reduceMul]
    refine lp_step ?_
    simp only [↓R0, R1, rdL, rdH, isCall, istep, ibin, vcells, fillI, setR, flat, okCell, isBase, List.set, List.drop, List.take, List.append, bnds, bhi, blo, srcOf, ↓reduceIte, Nat.reduceEqDiff, Nat.reduceAdd, Nat.reduceLeDiff, reduceCtorEq, Nat.reduceSub, Int.reduceEq, Int.reduceLT, Int.reduceLE, Int.reduceGT, Int.reduceGE, Int.reduceSub, Int.reduceAdd, Int.reduceMul, Int.reduceNe, Int.reduceNeg, Int.reduceToNat, Nat.reduceMul, ra1, qa1, ra2, qa2, ra3, qa3, ra4, rb1, qb1, rb2, qb2, rb3, qb3, rb4, rc1, qc1, rc2, qc2, rc3, qc3, rc4, ebc0, ybc0, wbc0, ebc1, ybc1, wbc1, ebc2, ybc2, wbc2, eca0, yca0, wca0, eca1, yca1, wca1, eca2, yca2, wca2, eab0, yab0, wab0, eab1, yab1, wab1, eab2, yab2, wab2, t0, ul0, S0, t1, ul1, S1, t2, ul2, S2, W0, z0, Int.zero_add, Nat.zero_le, i1, i2, i3, i4, m1, m2, m3, m4, spXNormal, spXCross, tE, spIMul, spIAdd, iE]
    refine lp_step ?_
    simp only [↓R0, R1, rdL, rdH, isCall, istep, ibin, vcells, fillI, setR, flat, okCell, isBase, List.set, List.drop, List.take, List.append, bnds, bhi, blo, srcOf, ↓reduceIte, Nat.reduceEqDiff, Nat.reduceAdd, Nat.reduceLeDiff, reduceCtorEq, Nat.reduceSub, Int.reduceEq, Int.reduceLT, Int.reduceLE, Int.reduceGT, Int.reduceGE, Int.reduceSub, Int.reduceAdd, Int.reduceMul, Int.reduceNe, Int.reduceNeg, Int.reduceToNat, Nat.reduceMul, ra1, qa1, ra2, qa2, ra3, qa3, ra4, rb1, qb1, rb2, qb2, rb3, qb3, rb4, rc1, qc1, rc2, qc2, rc3, qc3, rc4, ebc0, ybc0, wbc0, ebc1, ybc1, wbc1, ebc2, ybc2, wbc2, eca0, yca0, wca0, eca1, yca1, wca1, eca2, yca2, wca2, eab0, yab0, wab0, eab1, yab1, wab1, eab2, yab2, wab2, t0, ul0, S0, t1, ul1, S1, t2, ul2, S2, W0, z0, Int.zero_add, Nat.zero_le, i1, i2, i3, i4, m1, m2, m3, m4, spXNormal, spXCross, tE, spIMul, spIAdd, iE]
    refine lp_step ?_
    simp only [↓R0, R1, rdL, rdH, isCall, istep, ibin, vcells, fillI, setR, flat, okCell, isBase, List.set, List.drop, List.take, List.append, bnds, bhi, blo, srcOf, ↓reduceIte, Nat.reduceEqDiff, Nat.reduceAdd, Nat.reduceLeDiff, reduceCtorEq, Nat.reduceSub, Int.reduceEq, Int.reduceLT, Int.reduceLE, Int.reduceGT, Int.reduceGE, Int.reduceSub, Int.reduceAdd, Int.reduceMul, Int.reduceNe, Int.reduceNeg, Int.reduceToNat, Nat.reduceMul, ra1, qa1, ra2, qa2, ra3, qa3, ra4, rb1, qb1, rb2, qb2, rb3, qb3, rb4, rc1, qc1, rc2, qc2, rc3, qc3, rc4, ebc0, ybc0, wbc0, ebc1, ybc1, wbc1, ebc2, ybc2, wbc2, eca0, yca0, wca0, eca1, yca1, wca1, eca2, yca2, wca2, eab0, yab0, wab0, eab1, yab1, wab1, eab2, yab2, wab2, t0, ul0, S0, t1, ul1, S1, t2, ul2, S2, W0, z0, Int.zero_add, Nat.zero_le, i1, i2, i3, i4, m1, m2, m3, m4, spXNormal, spXCross, tE, spIMul, spIAdd, iE]
    refine lp_step ?_
    simp only [↓R0, R1, rdL, rdH, isCall, istep, ibin, vcells, fillI, setR, flat, okCell, isBase, List.set, List.drop, List.take, List.append, bnds, bhi, blo, srcOf, ↓reduceIte, Nat.reduceEqDiff, Nat.reduceAdd, Nat.reduceLeDiff, reduceCtorEq, Nat.reduceSub, Int.reduceEq, Int.reduceLT, Int.reduceLE, Int.reduceGT, Int.reduceGE, Int.reduceSub, Int.reduceAdd, Int.reduceMul, Int.reduceNe, Int.reduceNeg, Int.reduceToNat, Nat.reduceMul, ra1, qa1, ra2, qa2, ra3, qa3, ra4, rb1, qb1, rb2, qb2, rb3, qb3, rb4, rc1, qc1, rc2, qc2, rc3, qc3, rc4, ebc0, ybc0, wbc0, ebc1, ybc1, wbc1, ebc2, ybc2, wbc2, eca0, yca0, wca0, eca1, yca1, wca1, eca2, yca2, wca2, eab0, yab0, wab0, eab1, yab1, wab1, eab2, yab2, wab2, t0, ul0, S0, t1, ul1, S1, t2, ul2, S2, W0, z0, Int.zero_add, Nat.zero_le, i1, i2, i3, i4, m1, m2, m3, m4, spXNormal, spXCross, tE, spIMul, spIAdd, iE]
    refine lp_step ?_
    simp only [↓R0, R1, rdL, rdH, isCall, istep, ibin, vcells, fillI, setR, flat, okCell, isBase, List.set, List.drop, List.take, List.append, bnds, bhi, blo, srcOf, ↓reduceIte, Nat.reduceEqDiff, Nat.reduceAdd, Nat.reduceLeDiff, reduceCtorEq, Nat.reduceSub, Int.reduceEq, Int.reduceLT, Int.reduceLE, Int.reduceGT, Int.reduceGE, Int.reduceSub, Int.reduceAdd, Int.reduceMul, Int.reduceNe, Int.reduceNeg, Int.reduceToNat, Nat.reduceMul, ra1, qa1, ra2, qa2, ra3, qa3, ra4, rb1, qb1, rb2, qb2, rb3, qb3, rb4, rc1, qc1, rc2, qc2, rc3, qc3, rc4, ebc0, ybc0, wbc0, ebc1, ybc1, wbc1, ebc2, ybc2, wbc2, eca0, yca0, wca0, eca1, yca1, wca1, eca2, yca2, wca2, eab0, yab0, wab0, eab1, yab1, wab1, eab2, yab2, wab2, t0, ul0, S0, t1, ul1, S1, t2, ul2, S2, W0, z0, Int.zero_add, Nat.zero_le, i1, i2, i3, i4, m1, m2, m3, m4, spXNormal, spXCross, tE, spIMul, spIAdd, iE]
    refine lp_step ?_
    simp only [↓R0, R1, rdL, rdH, isCall, istep, ibin, vcells, fillI, setR, flat, okCell, isBase, List.set, List.drop, List.take, List.append, bnds, bhi, blo, srcOf, ↓reduceIte, Nat.reduceEqDiff, Nat.reduceAdd, Nat.reduceLeDiff, reduceCtorEq, Nat.reduceSub, Int.reduceEq, Int.reduceLT, Int.reduceLE, Int.reduceGT, Int.reduceGE, Int.reduceSub, Int.reduceAdd, Int.reduceMul, Int.reduceNe, Int.reduceNeg, Int.reduceToNat, Nat.reduceMul, ra1, qa1, ra2, qa2, ra3, qa3, ra4, rb1, qb1, rb2, qb2, rb3, qb3, rb4, rc1, qc1, rc2, qc2, rc3, qc3, rc4, ebc0, ybc0, wbc0, ebc1, ybc1, wbc1, ebc2, ybc2, wbc2, eca0, yca0, wca0, eca1, yca1, wca1, eca2, yca2, wca2, eab0, yab0, wab0, eab1, yab1, wab1, eab2, yab2, wab2, t0, ul0, S0, t1, ul1, S1, t2, ul2, S2, W0, z0, Int.zero_add, Nat.zero_le, i1, i2, i3, i4, m1, m2, m3, m4, spXNormal, spXCross, tE, spIMul, spIAdd, iE]
    refine lp_step ?_
    simp only [↓R0, R1, rdL, rdH, isCall, istep, ibin, vcells, fillI, setR, flat, okCell, isBase, List.set, List.drop, List.take, List.append, bnds, bhi, blo, srcOf, ↓reduceIte, Nat.reduceEqDiff, Nat.reduceAdd, Nat.reduceLeDiff, reduceCtorEq, Nat.reduceSub, Int.reduceEq, Int.reduceLT, Int.reduceLE, Int.reduceGT, Int.reduceGE, Int.reduceSub, Int.reduceAdd, Int.reduceMul, Int.reduceNe, Int.reduceNeg, Int.reduceToNat, Nat.reduceMul, ra1, qa1, ra2, qa2, ra3, qa3, ra4, rb1, qb1, rb2, qb2, rb3, qb3, rb4, rc1, qc1, rc2, qc2, rc3, qc3, rc4, ebc0, ybc0, wbc0, ebc1, ybc1, wbc1, ebc2, ybc2, wbc2, eca0, yca0, wca0, eca1, yca1, wca1, eca2, yca2, wca2, eab0, yab0, wab0, eab1, yab1, wab1, eab2, yab2, wab2, t0, ul0, S0, t1, ul1, S1, t2, ul2, S2, W0, z0, Int.zero_add, Nat.zero_le, i1, i2, i3, i4, m1, m2, m3, m4, spXNormal, spXCross, tE, spIMul, spIAdd, iE]
    refine lp_step ?_
    simp only [↓R0, R1, rdL, rdH, isCall, istep, ibin, vcells, fillI, setR, flat, okCell, isBase, List.set, List.drop, List.take, List.append, bnds, bhi, blo, srcOf, ↓reduceIte, Nat.reduceEqDiff, Nat.reduceAdd, Nat.reduceLeDiff, reduceCtorEq, Nat.reduceSub, Int.reduceEq, Int.reduceLT, Int.reduceLE, Int.reduceGT, Int.reduceGE, Int.reduceSub, Int.reduceAdd, Int.reduceMul, Int.reduceNe, Int.reduceNeg, Int.reduceToNat, Nat.reduceMul, ra1, qa1, ra2, qa2, ra3, qa3, ra4, rb1, qb1, rb2, qb2, rb3, qb3, rb4, rc1, qc1, rc2, qc2, rc3, qc3, rc4, ebc0, ybc0, wbc0, ebc1, ybc1, wbc1, ebc2, ybc2, wbc2, eca0, yca0, wca0, eca1, yca1, wca1, eca2, yca2, wca2, eab0, yab0, wab0, eab1, yab1, wab1, eab2, yab2, wab2, t0, ul0, S0, t1, ul1, S1, t2, ul2, S2, W0, z0, Int.zero_add, Nat.zero_le, i1, i2, i3, i4, m1, m2, m3, m4, spXNormal, spXCross, tE, spIMul, spIAdd, iE]
    refine lp_step ?_
    simp only [↓R0, R1, rdL, rdH, isCall, istep, ibin, vcells, fillI, setR, flat, okCell, isBase, List.set, List.drop, List.take, List.append, bnds, bhi, blo, srcOf, ↓reduceIte, Nat.reduceEqDiff, Nat.reduceAdd, Nat.reduceLeDiff, reduceCtorEq, Nat.reduceSub, Int.reduceEq, Int.reduceLT, Int.reduceLE, Int.reduceGT, Int.reduceGE, Int.reduceSub, Int.reduceAdd, Int.reduceMul, Int.reduceNe, Int.reduceNeg, Int.reduceToNat, Nat.reduceMul, ra1, qa1, ra2, qa2, ra3, qa3, ra4, rb1, qb1, rb2, qb2, rb3, qb3, rb4, rc1, qc1, rc2, qc2, rc3, qc3, rc4, ebc0, ybc0, wbc0, ebc1, ybc1, wbc1, ebc2, ybc2, wbc2, eca0, yca0, wca0, eca1, yca1, wca1, eca2, yca2, wca2, eab0, yab0, wab0, eab1, yab1, wab1, eab2, yab2, wab2, t0, ul0, S0, t1, ul1, S1, t2, ul2, S2, W0, z0, Int.zero_add, Nat.zero_le, i1, i2, i3, i4, m1, m2, m3, m4, spXNormal, spXCross, tE, spIMul, spIAdd, iE]
    refine lp_step ?_
    simp only [↓R0, R1, rdL, rdH, isCall, istep, ibin, vcells, fillI, setR, flat, okCell, isBase, List.set, List.drop, List.take, List.append, bnds, bhi, blo, srcOf, ↓reduceIte, Nat.reduceEqDiff, Nat.reduceAdd, Nat.reduceLeDiff, reduceCtorEq, Nat.reduceSub, Int.reduceEq, Int.reduceLT, Int.reduceLE, Int.reduceGT, Int.reduceGE, Int.reduceSub, Int.reduceAdd, Int.reduceMul, Int.reduceNe, Int.reduceNeg, Int.reduceToNat, Nat.reduceMul, ra1, qa1, ra2, qa2, ra3, qa3, ra4, rb1, qb1, rb2, qb2, rb3, qb3, rb4, rc1, qc1, rc2, qc2, rc3, qc3, rc4, ebc0, ybc0, wbc0, ebc1, ybc1, wbc1, ebc2, ybc2, wbc2, eca0, yca0, wca0, eca1, yca1, wca1, eca2, yca2, wca2, eab0, yab0, wab0, eab1, yab1, wab1, eab2, yab2, wab2, t0, ul0, S0, t1, ul1, S1, t2, ul2, S2, W0, z0, Int.zero_add, Nat.zero_le, i1, i2, i3, i4, m1, m2, m3, m4, spXNormal, spXCross, tE, spIMul, spIAdd, iE]
    refine lp_step ?_
    simp only [↓R0, R1, rdL, rdH, isCall, istep, ibin, vcells, fillI, setR, flat, okCell, isBase, List.set, List.drop, List.take, List.append, bnds, bhi, blo, srcOf, ↓reduceIte, Nat.reduceEqDiff, Nat.reduceAdd, Nat.reduceLeDiff, reduceCtorEq, Nat.reduceSub, Int.reduceEq, Int.reduceLT, Int.reduceLE, Int.reduceGT, Int.reduceGE, Int.reduceSub, Int.reduceAdd, Int.reduceMul, Int.reduceNe, Int.reduceNeg, Int.reduceToNat, Nat.reduceMul, ra1, qa1, ra2, qa2, ra3, qa3, ra4, rb1, qb1, rb2, qb2, rb3, qb3, rb4, rc1, qc1, rc2, qc2, rc3, qc3, rc4, ebc0, ybc0, wbc0, ebc1, ybc1, wbc1, ebc2, ybc2, wbc2, eca0, yca0, wca0, eca1, yca1, wca1, eca2, yca2, wca2, eab0, yab0, wab0, eab1, yab1, wab1, eab2, yab2, wab2, t0, ul0, S0, t1, ul1, S1, t2, ul2, S2, W0, z0, Int.zero_add, Nat.zero_le, i1, i2, i3, i4, m1, m2, m3, m4, spXNormal, spXCross, tE, spIMul, spIAdd, iE]
    refine lp_step ?_
    simp only [↓R0, R1, rdL, rdH, isCall, istep, ibin, vcells, fillI, setR, flat, okCell, isBase, List.set, List.drop, List.take, List.append, bnds, bhi, blo, srcOf, ↓reduceIte, Nat.reduceEqDiff, Nat.reduceAdd, Nat.reduceLeDiff, reduceCtorEq, Nat.reduceSub, Int.reduceEq, Int.reduceLT, Int.reduceLE, Int.reduceGT, Int.reduceGE, Int.reduceSub, Int.reduceAdd, Int.reduceMul, Int.reduceNe, Int.reduceNeg, Int.reduceToNat, Nat.reduceMul, ra1, qa1, ra2, qa2, ra3, qa3, ra4, rb1, qb1, rb2, qb2, rb3, qb3, rb4, rc1, qc1, rc2, qc2, rc3, qc3, rc4, ebc0, ybc0, wbc0, ebc1, ybc1, wbc1, ebc2, ybc2, wbc2, eca0, yca0, wca0, eca1, yca1, wca1, eca2, yca2, wca2, eab0, yab0, wab0, eab1, yab1, wab1, eab2, yab2, wab2, t0, ul0, S0, t1, ul1, S1, t2, ul2, S2, W0, z0, Int.zero_add, Nat.zero_le, i1, i2, i3, i4, m1, m2, m3, m4, spXNormal, spXCross, tE, spIMul, spIAdd, iE]
    refine lp_step ?_
    simp only [↓R0, R1, rdL, rdH, isCall, istep, ibin, vcells, fillI, setR, flat, okCell, isBase, List.set, List.drop, List.take, List.append, bnds, bhi, blo, srcOf, ↓reduceIte, Nat.reduceEqDiff, Nat.reduceAdd, Nat.reduceLeDiff, reduceCtorEq, Nat.reduceSub, Int.reduceEq, Int.reduceLT, Int.reduceLE, Int.reduceGT, Int.reduceGE, Int.reduceSub, Int.reduceAdd, Int.reduceMul, Int.reduceNe, Int.reduceNeg, Int.reduceToNat, Nat.reduceMul, ra1, qa1, ra2, qa2, ra3, qa3, ra4, rb1, qb1, rb2, qb2, rb3, qb3, rb4, rc1, qc1, rc2, qc2, rc3, qc3, rc4, ebc0, ybc0, wbc0, ebc1, ybc1, wbc1, ebc2, ybc2, wbc2, eca0, yca0, wca0, eca1, yca1, wca1, eca2, yca2, wca2, eab0, yab0, wab0, eab1, yab1, wab1, eab2, yab2, wab2, t0, ul0, S0, t1, ul1, S1, t2, ul2, S2, W0, z0, Int.zero_add, Nat.zero_le, i1, i2, i3, i4, m1, m2, m3, m4, spXNormal, spXCross, tE, spIMul, spIAdd, iE]
    refine lp_step ?_
    simp only [↓R0, R1, rdL, rdH, isCall, istep, ibin, vcells, fillI, setR, flat, okCell, isBase, List.set, List.drop, List.take, List.append, bnds, bhi, blo, srcOf, ↓reduceIte, Nat.reduceEqDiff, Nat.reduceAdd, Nat.reduceLeDiff, reduceCtorEq, Nat.reduceSub, Int.reduceEq, Int.reduceLT, Int.reduceLE, Int.reduceGT, Int.reduceGE, Int.reduceSub, Int.reduceAdd, Int.reduceMul, Int.reduceNe, Int.reduceNeg, Int.reduceToNat, Nat.reduceMul, ra1, qa1, ra2, qa2, ra3, qa3, ra4, rb1, qb1, rb2, qb2, rb3, qb3, rb4, rc1, qc1, rc2, qc2, rc3, qc3, rc4, ebc0, ybc0, wbc0, ebc1, ybc1, wbc1, ebc2, ybc2, wbc2, eca0, yca0, wca0, eca1, yca1, wca1, eca2, yca2, wca2, eab0, yab0, wab0, eab1, yab1, wab1, eab2, yab2, wab2, t0, ul0, S0, t1, ul1, S1, t2, ul2, S2, W0, z0, Int.zero_add, Nat.zero_le, i1, i2, i3, i4, m1, m2, m3, m4, spXNormal, spXCross, tE, spIMul, spIAdd, iE]
    refine lp_step ?_
    simp only [↓R0, R1, rdL, rdH, isCall, istep, ibin, vcells, fillI, setR, flat, okCell, isBase, List.set, List.drop, List.take, List.append, bnds, bhi, blo, srcOf, ↓reduceIte, Nat.reduceEqDiff, Nat.reduceAdd, Nat.reduceLeDiff, reduceCtorEq, Nat.reduceSub, Int.reduceEq, Int.reduceLT, Int.reduceLE, Int.reduceGT, Int.reduceGE, Int.reduceSub, Int.reduceAdd, Int.reduceMul, Int.reduceNe, Int.reduceNeg, Int.reduceToNat, Nat.reduceMul, ra1, qa1, ra2, qa2, ra3, qa3, ra4, rb1, qb1, rb2, qb2, rb3, qb3, rb4, rc1, qc1, rc2, qc2, rc3, qc3, rc4, ebc0, ybc0, wbc0, ebc1, ybc1, wbc1, ebc2, ybc2, wbc2, eca0, yca0, wca0, eca1, yca1, wca1, eca2, yca2, wca2, eab0, yab0, wab0, eab1, yab1, wab1, eab2, yab2, wab2, t0, ul0, S0, t1, ul1, S1, t2, ul2, S2, W0, z0, Int.zero_add, Nat.zero_le, i1, i2, i3, i4, m1, m2, m3, m4, spXNormal, spXCross, tE, spIMul, spIAdd, iE]
    refine lp_step ?_
    simp only [↓R0, R1, rdL, rdH, isCall, istep, ibin, vcells, fillI, setR, flat, okCell, isBase, List.set, List.drop, List.take, List.append, bnds, bhi, blo, srcOf, ↓reduceIte, Nat.reduceEqDiff, Nat.reduceAdd, Nat.reduceLeDiff, reduceCtorEq, Nat.reduceSub, Int.reduceEq, Int.reduceLT, Int.reduceLE, Int.reduceGT, Int.reduceGE, Int.reduceSub, Int.reduceAdd, Int.reduceMul, Int.reduceNe, Int.reduceNeg, Int.reduceToNat, Nat.reduceMul, ra1, qa1, ra2, qa2, ra3, qa3, ra4, rb1, qb1, rb2, qb2, rb3, qb3, rb4, rc1, qc1, rc2, qc2, rc3, qc3, rc4, ebc0, ybc0, wbc0, ebc1, ybc1, wbc1, ebc2, ybc2, wbc2, eca0, yca0, wca0, eca1, yca1, wca1, eca2, yca2, wca2, eab0, yab0, wab0, eab1, yab1, wab1, eab2, yab2, wab2, t0, ul0, S0, t1, ul1, S1, t2, ul2, S2, W0, z0, Int.zero_add, Nat.zero_le, spXNormal, spXCross, tE, spXDot, spXMade, hw, zl0, zs0, Int.lt_irrefl, pZ, pE, Fin, isEnd, resL, res1, iE, rE]
    exact ⟨_, rfl, rfl, fun k hk => by simp only [ne_nb hk, if_false]⟩
end Go.Eng
end
section
set_option linter.unusedVariables false
set_option linter.unusedSimpArgs false
set_option linter.unusedSectionVars false
set_option maxRecDepth 20000
namespace Go.Eng
open Go Go.Proofs Go.IntWalk
def spXAbove : List Value → Option Value
  | [.agg ⟨[.bool s1, .string ⟨⟨l1⟩⟩, .bool s2, .string ⟨⟨l2⟩⟩, .bool s3, .string ⟨⟨l3⟩⟩, .bool s4, .string ⟨⟨l4⟩⟩]⟩, .agg ⟨[.bool t1, .string ⟨⟨m1⟩⟩, .bool t2, .string ⟨⟨m2⟩⟩, .bool t3, .string ⟨⟨m3⟩⟩, .bool t4, .string ⟨⟨m4⟩⟩]⟩] =>
    if l1.length ≤ 4294967296 ∧ l2.length ≤ 4294967296 ∧ l3.length ≤ 4294967296 ∧ l4.length ≤ 4294967296 ∧ m1.length ≤ 4294967296 ∧ m2.length ≤ 4294967296 ∧ m3.length ≤ 4294967296 ∧ m4.length ≤ 4294967296 then
      some (.agg ⟨iE (sv s1 l1 * sv t1 m1 + sv s2 l2 * sv t2 m2 + sv s3 l3 * sv t3 m3 - sv s4 l4 * sv t4 m4)⟩) else none
  | _ => none
def c33 : ICode :=
  (.seq (.reg [⟨(some 2), none, (.box 25 8 (.t 0))⟩, ⟨(some 3), none, (.box 28 8 (.t 1))⟩, ⟨(some 4), none, (.alloc 23 2 [(.bool false), (.string ⟨⟨[]⟩⟩)])⟩])
  (.seq (.dreg [⟨(some 5), none, [], (.load true 8 (.t 2))⟩, ⟨(some 6), none, [], (.call 27 [(.t 5)])⟩, ⟨(some 7), none, [], (.faddr 0 (.t 3))⟩, ⟨(some 8), none, [1], (.load true 2 (.t 7))⟩, ⟨(some 9), none, [], (.faddr 2 (.t 3))⟩, ⟨(some 10), none, [1], (.load true 2 (.t 9))⟩, ⟨(some 11), none, [], (.faddr 4 (.t 3))⟩, ⟨(some 12), none, [1], (.load true 2 (.t 11))⟩, ⟨(some 13), none, [], (.build [(.bool false), (.string ⟨⟨[]⟩⟩), (.bool false), (.string ⟨⟨[]⟩⟩), (.bool false), (.string ⟨⟨[]⟩⟩)] [(0, 2, (.t 8)), (2, 2, (.t 10)), (4, 2, (.t 12))])⟩, ⟨(some 14), none, [], (.call 31 [(.t 6), (.t 13)])⟩, ⟨(some 15), none, [], (.faddr 6 (.t 2))⟩, ⟨(some 16), none, [1, 9], (.load true 2 (.t 15))⟩, ⟨(some 17), none, [], (.faddr 6 (.t 3))⟩, ⟨(some 18), none, [1, 9], (.load true 2 (.t 17))⟩, ⟨(some 19), none, [], (.call 29 [(.t 16), (.t 18)])⟩, ⟨(some 20), none, [], (.call 35 [(.t 14), (.t 19)])⟩, ⟨none, none, [], (.store 2 (.t 4) (.t 20))⟩])
  .ret))
theorem tr33 : trFun Tryd.prog 33 = some ⟨21, [.cell 4 true 2], c33⟩ := by kernel_rfl
set_option maxHeartbeats 2000000 in
theorem ok_xAbove : SpecOK Tryd.prog 33 (flat spXAbove) := by
  refine flat_run (env_cons ok_xNormal (env_cons ok_xDot (env_cons ok_iMul (env_cons ok_iSub (env_nil _))))) mixed tr33 ?_
  intro args v h N hG
  unfold spXAbove at hG
  split at hG
  case h_2 => cases hG
  rename_i s1 l1 s2 l2 s3 l3 s4 l4 t1 m1 t2 m2 t3 m3 t4 m4
  split at hG
  case isFalse => cases hG
  rename_i hl
  obtain ⟨h1, h2, h3, h4, g1, g2, g3, g4⟩ := hl
  cases hG
  refine ⟨rfl, by simp, ?_⟩
  have a1 : l1.length ≤ 17179869184 := by omega
  have a2 : l2.length ≤ 17179869184 := by omega
  have a3 : l3.length ≤ 17179869184 := by omega
  have a4 : l4.length ≤ 34359738368 := by omega
  have b1 : m1.length ≤ 17179869184 := by omega
  have b2 : m2.length ≤ 17179869184 := by omega
  have b3 : m3.length ≤ 17179869184 := by omega
  have b4 : m4.length ≤ 34359738368 := by omega
  have p1 := lmul (k := 8589934592) (len_sv (s := s1) h1) (len_sv (s := t1) g1) (by omega)
  have p2 := lmul (k := 8589934592) (len_sv (s := s2) h2) (len_sv (s := t2) g2) (by omega)
  have p3 := lmul (k := 8589934592) (len_sv (s := s3) h3) (len_sv (s := t3) g3) (by omega)
  have p4 := lmul (k := 68719476736) (len_sv (s := s4) h4) (len_sv (s := t4) g4) (by omega)
  have q1 := ladd (k := 68719476736) (ladd (k := 8589934593) p1 p2 (by omega)) p3 (by omega)
  simp only [c33, initT, List.zipIdx_cons, List.zipIdx_nil, List.map_cons, List.map_nil, Nat.reduceAdd]
  simp only [↓R0, R1, rdL, rdH, isCall, istep, ibin, vcells, fillI, setR, flat, okCell, isBase, List.set, List.drop, List.take, List.append, bnds, bhi, blo, srcOf, ↓reduceIte, Nat.reduceEqDiff, Nat.reduceAdd, Nat.reduceLeDiff, reduceCtorEq, Nat.reduceSub, Int.reduceEq, Int.reduceLT, Int.reduceLE, Int.reduceGT, Int.reduceGE, Int.reduceSub, Int.reduceAdd, Int.reduceMul, Int.reduceNe, Int.reduceNeg, Int.reduceToNat, Nat.reduceMul, spXNormal, spXDot, spIMul, spISub, a1, a2, a3, a4, b1, b2, b3, b4, p4, q1, Fin, isEnd, resL, res1, iE, rE]
  exact ⟨_, rfl, rfl, fun k hk => by simp only [ne_nb hk, if_false]⟩
def spXBetw : List Value → Heap → Option Value
  | [.agg ⟨[.bool s1, .string ⟨⟨l1⟩⟩]⟩, .agg ⟨[.bool s2, .string ⟨⟨l2⟩⟩]⟩, .pointer (some ⟨k, 0, none⟩), .pointer (some ⟨k', 0, none⟩)], h => match hget h k, hget h k' with
    | some ⟨_, _, _, [.bool t1, .string ⟨⟨m1⟩⟩]⟩, some ⟨_, _, _, [.bool t2, .string ⟨⟨m2⟩⟩]⟩ =>
      if l1.length ≤ 17179869184 ∧ l2.length ≤ 17179869184 ∧ m1.length ≤ 17179869184 ∧ m2.length ≤ 17179869184 then some (.agg ⟨iE (sv s1 l1 * sv t1 m1 - sv s2 l2 * sv t2 m2)⟩) else none
    | _, _ => none
  | _, _ => none
def c34 : ICode :=
  (.seq (.reg [⟨(some 4), none, (.box 23 2 (.t 0))⟩, ⟨(some 5), none, (.box 23 2 (.t 1))⟩, ⟨(some 6), none, (.alloc 23 2 [(.bool false), (.string ⟨⟨[]⟩⟩)])⟩])
  (.seq (.dreg [⟨(some 7), none, [], (.load true 2 (.t 4))⟩, ⟨(some 8), none, [], (.load true 2 (.t 2))⟩, ⟨(some 9), none, [], (.call 29 [(.t 7), (.t 8)])⟩, ⟨(some 10), none, [2], (.load true 2 (.t 5))⟩, ⟨(some 11), none, [2], (.load true 2 (.t 3))⟩, ⟨(some 12), none, [], (.call 29 [(.t 10), (.t 11)])⟩, ⟨(some 13), none, [], (.call 35 [(.t 9), (.t 12)])⟩, ⟨none, none, [], (.store 2 (.t 6) (.t 13))⟩])
  .ret))
theorem tr34 : trFun Tryd.prog 34 = some ⟨14, [.cell 6 true 2], c34⟩ := by kernel_rfl
theorem ok_xBetw : SpecOK Tryd.prog 34 (rdS spXBetw) := by
  refine rd_run (env_cons ok_iMul (env_cons ok_iSub (env_nil _))) mixed tr34 ?_ ?_
  · intro args h h' v hle e
    unfold spXBetw at e ⊢
    split at e
    · split at e
      · rename_i b1 b2
        simp only [hle _ _ b1, hle _ _ b2]; exact e
      · cases e
    · cases e
  intro args v h N hG hN
  unfold spXBetw at hG
  split at hG
  case h_2 => cases hG
  rename_i s1 l1 s2 l2 k k'
  split at hG
  case h_2 => cases hG
  rename_i e1 z1 x1 t1 m1 e2 z2 x2 t2 m2 hb1 hb2
  split at hG
  case isFalse => cases hG
  rename_i hl
  obtain ⟨h1, h2, h3, h4⟩ := hl
  cases hG
  refine ⟨rfl, by simp, ?_⟩
  have k1 := hN _ _ hb1
  have k2 := hN _ _ hb2
  have ne1 : ∀ j, (N + j = k) = False := fun j => eq_false (by omega)
  have ne2 : ∀ j, (N + j = k') = False := fun j => eq_false (by omega)
  have a1 : l1.length ≤ 34359738368 := by omega
  have a2 : l2.length ≤ 34359738368 := by omega
  have b1 : m1.length ≤ 34359738368 := by omega
  have b2 : m2.length ≤ 34359738368 := by omega
  have p1 := lmul (k := 68719476736) (len_sv (s := s1) h1) (len_sv (s := t1) h3) (by omega)
  have p2 := lmul (k := 68719476736) (len_sv (s := s2) h2) (len_sv (s := t2) h4) (by omega)
  simp only [c34, initT, List.zipIdx_cons, List.zipIdx_nil, List.map_cons, List.map_nil, Nat.reduceAdd]
  simp only [↓R0, R1, rdL, rdH, isCall, istep, ibin, vcells, fillI, setR, flat, okCell, isBase, List.set, List.drop, List.take, List.append, bnds, bhi, blo, srcOf, ↓reduceIte, Nat.reduceEqDiff, Nat.reduceAdd, Nat.reduceLeDiff, reduceCtorEq, Nat.reduceSub, Int.reduceEq, Int.reduceLT, Int.reduceLE, Int.reduceGT, Int.reduceGE, Int.reduceSub, Int.reduceAdd, Int.reduceMul, Int.reduceNe, Int.reduceNeg, Int.reduceToNat, Nat.reduceMul, ne1, ne2, hb1, hb2, spIMul, spISub, a1, a2, b1, b2, p1, p2, Fin, isEnd, resL, res1, iE, rE]
  exact ⟨_, rfl, rfl, fun k hk => by simp only [ne_nb hk, if_false]⟩
def spXLine : List Value → Option Value
  | [.agg ⟨[.bool s1, .string ⟨⟨l1⟩⟩, .bool s2, .string ⟨⟨l2⟩⟩, .bool s3, .string ⟨⟨l3⟩⟩, .bool s4, .string ⟨⟨l4⟩⟩]⟩, .agg ⟨[.bool t1, .string ⟨⟨m1⟩⟩, .bool t2, .string ⟨⟨m2⟩⟩, .bool t3, .string ⟨⟨m3⟩⟩, .bool t4, .string ⟨⟨m4⟩⟩]⟩,
      .agg ⟨[.bool u1, .string ⟨⟨o1⟩⟩, .bool u2, .string ⟨⟨o2⟩⟩, .bool u3, .string ⟨⟨o3⟩⟩, .bool u4, .string ⟨⟨o4⟩⟩]⟩] =>
    if l1.length ≤ 2147483648 ∧ l2.length ≤ 2147483648 ∧ l3.length ≤ 2147483648 ∧ l4.length ≤ 2147483648 ∧ m1.length ≤ 2147483648 ∧ m2.length ≤ 2147483648 ∧ m3.length ≤ 2147483648 ∧ m4.length ≤ 2147483648 ∧
      o1.length ≤ 2147483648 ∧ o2.length ≤ 2147483648 ∧ o3.length ≤ 2147483648 ∧ o4.length ≤ 2147483648 then
      (if t1 = u1 ∧ m1 = o1 ∧ t2 = u2 ∧ m2 = o2 ∧ t3 = u3 ∧ m3 = o3 ∧ t4 = u4 ∧ m4 = o4 then some (.tuple ⟨[.agg ⟨pZ⟩, .bool false]⟩) else
      if sv t4 m4 * (sv s1 l1 * sv u1 o1 + sv s2 l2 * sv u2 o2 + sv s3 l3 * sv u3 o3 - sv s4 l4 * sv u4 o4) - sv u4 o4 * (sv s1 l1 * sv t1 m1 + sv s2 l2 * sv t2 m2 + sv s3 l3 * sv t3 m3 - sv s4 l4 * sv t4 m4) = 0 then some (.tuple ⟨[.agg ⟨pZ⟩, .bool false]⟩) else
      some (.tuple ⟨[.agg ⟨pE (sv t1 m1 * (sv s1 l1 * sv u1 o1 + sv s2 l2 * sv u2 o2 + sv s3 l3 * sv u3 o3 - sv s4 l4 * sv u4 o4) - sv u1 o1 * (sv s1 l1 * sv t1 m1 + sv s2 l2 * sv t2 m2 + sv s3 l3 * sv t3 m3 - sv s4 l4 * sv t4 m4))
        (sv t2 m2 * (sv s1 l1 * sv u1 o1 + sv s2 l2 * sv u2 o2 + sv s3 l3 * sv u3 o3 - sv s4 l4 * sv u4 o4) - sv u2 o2 * (sv s1 l1 * sv t1 m1 + sv s2 l2 * sv t2 m2 + sv s3 l3 * sv t3 m3 - sv s4 l4 * sv t4 m4))
        (sv t3 m3 * (sv s1 l1 * sv u1 o1 + sv s2 l2 * sv u2 o2 + sv s3 l3 * sv u3 o3 - sv s4 l4 * sv u4 o4) - sv u3 o3 * (sv s1 l1 * sv t1 m1 + sv s2 l2 * sv t2 m2 + sv s3 l3 * sv t3 m3 - sv s4 l4 * sv t4 m4))
        (sv t4 m4 * (sv s1 l1 * sv u1 o1 + sv s2 l2 * sv u2 o2 + sv s3 l3 * sv u3 o3 - sv s4 l4 * sv u4 o4) - sv u4 o4 * (sv s1 l1 * sv t1 m1 + sv s2 l2 * sv t2 m2 + sv s3 l3 * sv t3 m3 - sv s4 l4 * sv t4 m4))⟩, .bool true]⟩)) else none
  | _ => none
def c12 : ICode :=
  (.seq (.reg [⟨(some 3), none, (.box 25 8 (.t 0))⟩, ⟨(some 4), none, (.box 28 8 (.t 1))⟩, ⟨(some 5), none, (.box 28 8 (.t 2))⟩, ⟨(some 6), none, (.alloc 28 8 [(.bool false), (.string ⟨⟨[]⟩⟩), (.bool false), (.string ⟨⟨[]⟩⟩), (.bool false), (.string ⟨⟨[]⟩⟩), (.bool false), (.string ⟨⟨[]⟩⟩)])⟩, ⟨(some 7), none, (.mv (.c (.bool false)))⟩])
  (.seq (.seq (.reg [⟨(some 11), none, (.load true 8 (.t 4))⟩, ⟨(some 12), none, (.load true 8 (.t 5))⟩, ⟨(some 13), none, (.eqa false [.b, .s, .b, .s, .b, .s, .b, .s] (.t 11) (.t 12))⟩])
  (.cond (.t 13)
  (.seq (.reg [⟨(some 14), none, (.build [(.bool false), (.string ⟨⟨[]⟩⟩), (.bool false), (.string ⟨⟨[]⟩⟩), (.bool false), (.string ⟨⟨[]⟩⟩), (.bool false), (.string ⟨⟨[]⟩⟩)] [])⟩, ⟨none, none, (.store 8 (.t 6) (.t 14))⟩, ⟨(some 7), none, (.mv (.c (.bool false)))⟩])
  .ret)
  .skip))
  (.seq (.dreg [⟨(some 15), none, [], (.load true 8 (.t 3))⟩, ⟨(some 16), none, [], (.load true 8 (.t 4))⟩, ⟨(some 17), none, [], (.call 33 [(.t 15), (.t 16)])⟩, ⟨(some 18), none, [2], (.load true 8 (.t 3))⟩, ⟨(some 19), none, [2], (.load true 8 (.t 5))⟩, ⟨(some 20), none, [], (.call 33 [(.t 18), (.t 19)])⟩, ⟨(some 8), none, [], (.alloc 23 2 [(.bool false), (.string ⟨⟨[]⟩⟩)])⟩, ⟨(some 9), none, [], (.alloc 23 2 [(.bool false), (.string ⟨⟨[]⟩⟩)])⟩, ⟨none, none, [], (.store 2 (.t 8) (.t 17))⟩, ⟨none, none, [], (.store 2 (.t 9) (.t 20))⟩])
  (.seq (.reg [⟨(some 21), none, (.mkfn 34 [(.t 9), (.t 8)])⟩, ⟨(some 10), none, (.mv (.t 21))⟩])
  (.seq (.dreg [⟨(some 22), none, [], (.mv (.t 10))⟩, ⟨(some 23), none, [], (.faddr 0 (.t 4))⟩, ⟨(some 24), none, [], (.load true 2 (.t 23))⟩, ⟨(some 25), none, [], (.faddr 0 (.t 5))⟩, ⟨(some 26), none, [], (.load true 2 (.t 25))⟩, ⟨(some 27), none, [], (.callv (.t 22) [(.t 24), (.t 26)])⟩, ⟨(some 28), none, [], (.mv (.t 10))⟩, ⟨(some 29), none, [], (.faddr 2 (.t 4))⟩, ⟨(some 30), none, [5], (.load true 2 (.t 29))⟩, ⟨(some 31), none, [], (.faddr 2 (.t 5))⟩, ⟨(some 32), none, [5], (.load true 2 (.t 31))⟩, ⟨(some 33), none, [], (.callv (.t 28) [(.t 30), (.t 32)])⟩, ⟨(some 34), none, [], (.mv (.t 10))⟩, ⟨(some 35), none, [], (.faddr 4 (.t 4))⟩, ⟨(some 36), none, [5, 11], (.load true 2 (.t 35))⟩, ⟨(some 37), none, [], (.faddr 4 (.t 5))⟩, ⟨(some 38), none, [5, 11], (.load true 2 (.t 37))⟩, ⟨(some 39), none, [], (.callv (.t 34) [(.t 36), (.t 38)])⟩, ⟨(some 40), none, [], (.build [(.bool false), (.string ⟨⟨[]⟩⟩), (.bool false), (.string ⟨⟨[]⟩⟩), (.bool false), (.string ⟨⟨[]⟩⟩)] [(0, 2, (.t 27)), (2, 2, (.t 33)), (4, 2, (.t 39))])⟩, ⟨(some 41), none, [], (.mv (.t 10))⟩, ⟨(some 42), none, [], (.faddr 6 (.t 4))⟩, ⟨(some 43), none, [5, 11, 17], (.load true 2 (.t 42))⟩, ⟨(some 44), none, [], (.faddr 6 (.t 5))⟩, ⟨(some 45), none, [5, 11, 17], (.load true 2 (.t 44))⟩, ⟨(some 46), none, [], (.callv (.t 41) [(.t 43), (.t 45)])⟩, ⟨(some 47), none, [], (.call 30 [(.t 40), (.t 46)])⟩, ⟨(some 48), none, [], (.ext (.t 47) 0)⟩, ⟨(some 49), none, [], (.ext (.t 47) 1)⟩, ⟨none, none, [], (.store 8 (.t 6) (.t 48))⟩, ⟨(some 7), none, [], (.mv (.t 49))⟩])
  .ret)))))
theorem tr12 : trFun Tryd.prog 12 = some ⟨50, [.cell 6 true 8, .t 7], c12⟩ := by kernel_rfl
set_option maxHeartbeats 8000000 in
theorem ok_xLine : SpecOK Tryd.prog 12 (flat spXLine) := by
  refine flat_run (env_cons ok_xAbove (env_cons ok_xBetw (env_cons ok_xMade (env_nil _)))) mixed tr12 ?_
  intro args v h N hG
  unfold spXLine at hG
  split at hG
  case h_2 => cases hG
  rename_i s1 l1 s2 l2 s3 l3 s4 l4 t1 m1 t2 m2 t3 m3 t4 m4 u1 o1 u2 o2 u3 o3 u4 o4
  split at hG
  case isFalse => cases hG
  rename_i hl
  obtain ⟨h1, h2, h3, h4, g1, g2, g3, g4, j1, j2, j3, j4⟩ := hl
  split at hG
  · rename_i heq
    obtain ⟨rfl, rfl, rfl, rfl, rfl, rfl, rfl, rfl⟩ := heq
    cases hG
    refine ⟨rfl, by simp, ?_⟩
    simp only [c12, initT, List.zipIdx_cons, List.zipIdx_nil, List.map_cons, List.map_nil, Nat.reduceAdd]
    simp only [↓R0, R1, rdL, rdH, isCall, istep, ibin, vcells, fillI, setR, flat, okCell, isBase, List.set, List.drop, List.take, List.append, bnds, bhi, blo, srcOf, ↓reduceIte, Nat.reduceEqDiff, Nat.reduceAdd, Nat.reduceLeDiff, reduceCtorEq, Nat.reduceSub, Int.reduceEq, Int.reduceLT, Int.reduceLE, Int.reduceGT, Int.reduceGE, Int.reduceSub, Int.reduceAdd, Int.reduceMul, Int.reduceNe, Int.reduceNeg, Int.reduceToNat, Nat.reduceMul, ceq, pZ, Fin, isEnd, resL, res1, iE, rE]
    exact ⟨_, rfl, rfl, fun k hk => by simp only [ne_nb hk, if_false]⟩
  rename_i hne
  have hc : (decide (t1 = u1) && (decide (m1 = o1) && (decide (t2 = u2) && (decide (m2 = o2) && (decide (t3 = u3) && (decide (m3 = o3) && (decide (t4 = u4) && decide (m4 = o4)))))))) = false := by
    cases hb : (decide (t1 = u1) && (decide (m1 = o1) && (decide (t2 = u2) && (decide (m2 = o2) && (decide (t3 = u3) && (decide (m3 = o3) && (decide (t4 = u4) && decide (m4 = o4)))))))) with
    | false => rfl
    | true => simp only [Bool.and_eq_true, decide_eq_true_eq] at hb; exact absurd hb hne
  have bS := lsub (k := 4294967299) (ladd (k := 4294967298) (ladd (k := 4294967297) (lmul (k := 4294967296) (len_sv (s := s1) h1) (len_sv (s := t1) g1) (by omega)) (lmul (k := 4294967296) (len_sv (s := s2) h2) (len_sv (s := t2) g2) (by omega)) (by omega)) (lmul (k := 4294967296) (len_sv (s := s3) h3) (len_sv (s := t3) g3) (by omega)) (by omega)) (lmul (k := 4294967296) (len_sv (s := s4) h4) (len_sv (s := t4) g4) (by omega)) (by omega)
  have bT := lsub (k := 4294967299) (ladd (k := 4294967298) (ladd (k := 4294967297) (lmul (k := 4294967296) (len_sv (s := s1) h1) (len_sv (s := u1) j1) (by omega)) (lmul (k := 4294967296) (len_sv (s := s2) h2) (len_sv (s := u2) j2) (by omega)) (by omega)) (lmul (k := 4294967296) (len_sv (s := s3) h3) (len_sv (s := u3) j3) (by omega)) (by omega)) (lmul (k := 4294967296) (len_sv (s := s4) h4) (len_sv (s := u4) j4) (by omega)) (by omega)
  obtain ⟨S, eS⟩ : ∃ z, sv s1 l1 * sv t1 m1 + sv s2 l2 * sv t2 m2 + sv s3 l3 * sv t3 m3 - sv s4 l4 * sv t4 m4 = z := ⟨_, rfl⟩
  obtain ⟨T, eT⟩ : ∃ z, sv s1 l1 * sv u1 o1 + sv s2 l2 * sv u2 o2 + sv s3 l3 * sv u3 o3 - sv s4 l4 * sv u4 o4 = z := ⟨_, rfl⟩
  rw [eS] at hG bS
  rw [eT] at hG bT
  have a1 : l1.length ≤ 4294967296 := by omega
  have a2 : l2.length ≤ 4294967296 := by omega
  have a3 : l3.length ≤ 4294967296 := by omega
  have a4 : l4.length ≤ 4294967296 := by omega
  have b1 : m1.length ≤ 4294967296 := by omega
  have b2 : m2.length ≤ 4294967296 := by omega
  have b3 : m3.length ≤ 4294967296 := by omega
  have b4 : m4.length ≤ 4294967296 := by omega
  have c1 : o1.length ≤ 4294967296 := by omega
  have c2 : o2.length ≤ 4294967296 := by omega
  have c3 : o3.length ≤ 4294967296 := by omega
  have c4 : o4.length ≤ 4294967296 := by omega
  have b1' : m1.length ≤ 17179869184 := by omega
  have b2' : m2.length ≤ 17179869184 := by omega
  have b3' : m3.length ≤ 17179869184 := by omega
  have b4' : m4.length ≤ 17179869184 := by omega
  have c1' : o1.length ≤ 17179869184 := by omega
  have c2' : o2.length ≤ 17179869184 := by omega
  have c3' : o3.length ≤ 17179869184 := by omega
  have c4' : o4.length ≤ 17179869184 := by omega
  have bS' := lle (k := 17179869184) bS (by omega)
  have bT' := lle (k := 17179869184) bT (by omega)
  have X1 := lsub (k := 34359738368) (lmul (k := 12884901888) (len_sv (s := t1) g1) bT (by omega)) (lmul (k := 12884901888) (len_sv (s := u1) j1) bS (by omega)) (by omega)
  have X2 := lsub (k := 34359738368) (lmul (k := 12884901888) (len_sv (s := t2) g2) bT (by omega)) (lmul (k := 12884901888) (len_sv (s := u2) j2) bS (by omega)) (by omega)
  have X3 := lsub (k := 34359738368) (lmul (k := 12884901888) (len_sv (s := t3) g3) bT (by omega)) (lmul (k := 12884901888) (len_sv (s := u3) j3) bS (by omega)) (by omega)
  have X4 := lsub (k := 34359738368) (lmul (k := 12884901888) (len_sv (s := t4) g4) bT (by omega)) (lmul (k := 12884901888) (len_sv (s := u4) j4) bS (by omega)) (by omega)
  have zl0 : (bl (Int.natAbs 0)).length ≤ 34359738368 := by rw [show Int.natAbs 0 = 0 from rfl, bl_zero]; exact Nat.zero_le _
  have zs0 : sv false (bl (Int.natAbs 0)) = 0 := by rw [sv_bl]; rfl
  split at hG
  · rename_i hw
    cases hG
    refine ⟨rfl, by simp, ?_⟩
    simp only [c12, initT, List.zipIdx_cons, List.zipIdx_nil, List.map_cons, List.map_nil, Nat.reduceAdd]
    simp only [↓R0, R1, rdL, rdH, isCall, istep, ibin, vcells, fillI, setR, flat, okCell, isBase, List.set, List.drop, List.take, List.append, bnds, bhi, blo, srcOf, ↓reduceIte, Nat.reduceEqDiff, Nat.reduceAdd, Nat.reduceLeDiff, reduceCtorEq, Nat.reduceSub, Int.reduceEq, Int.reduceLT, Int.reduceLE, Int.reduceGT, Int.reduceGE, Int.reduceSub, Int.reduceAdd, Int.reduceMul, Int.reduceNe, Int.reduceNeg, Int.reduceToNat, Nat.reduceMul, ceq, hc, spXAbove, a1, a2, a3, a4, b1, b2, b3, b4, c1, c2, c3, c4, b1', b2', b3', b4', c1', c2', c3', c4', eS, eT, bS', bT', callF, rdS, spXBetw, X1, X2, X3, X4, spXMade, hw, zl0, zs0, Int.lt_irrefl, pZ, pE, Fin, isEnd, resL, res1, iE, rE]
    exact ⟨_, rfl, rfl, fun k hk => by simp only [ne_nb hk, if_false]⟩
  · rename_i hw
    cases hG
    refine ⟨rfl, by simp, ?_⟩
    simp only [c12, initT, List.zipIdx_cons, List.zipIdx_nil, List.map_cons, List.map_nil, Nat.reduceAdd]
    simp only [↓R0, R1, rdL, rdH, isCall, istep, ibin, vcells, fillI, setR, flat, okCell, isBase, List.set, List.drop, List.take, List.append, bnds, bhi, blo, srcOf, ↓reduceIte, Nat.reduceEqDiff, Nat.reduceAdd, Nat.reduceLeDiff, reduceCtorEq, Nat.reduceSub, Int.reduceEq, Int.reduceLT, Int.reduceLE, Int.reduceGT, Int.reduceGE, Int.reduceSub, Int.reduceAdd, Int.reduceMul, Int.reduceNe, Int.reduceNeg, Int.reduceToNat, Nat.reduceMul, ceq, hc, spXAbove, a1, a2, a3, a4, b1, b2, b3, b4, c1, c2, c3, c4, b1', b2', b3', b4', c1', c2', c3', c4', eS, eT, bS', bT', callF, rdS, spXBetw, X1, X2, X3, X4, spXMade, hw, zl0, zs0, Int.lt_irrefl, pZ, pE, Fin, isEnd, resL, res1, iE, rE]
    exact ⟨_, rfl, rfl, fun k hk => by simp only [ne_nb hk, if_false]⟩
end Go.Eng
end
section
set_option linter.unusedVariables false
set_option linter.unusedSimpArgs false
set_option linter.unusedSectionVars false
set_option maxRecDepth 20000
namespace Go.Eng
open Go Go.Proofs Go.IntWalk
def spLFlat : List Value → Option Value
  | [.int .i64 a, .int .i64 b, .int .i64 c, .int .i64 d] => if (-9223372036854775808 ≤ a ∧ a ≤ 9223372036854775807) ∧ (-9223372036854775808 ≤ b ∧ b ≤ 9223372036854775807) ∧ (-9223372036854775808 ≤ c ∧ c ≤ 9223372036854775807) ∧ (-9223372036854775808 ≤ d ∧ d ≤ 9223372036854775807) then
      some (.agg ⟨iE a ++ iE b ++ iE c ++ iE d⟩) else none
  | _ => none
def c17 : ICode :=
  (.seq (.reg [⟨(some 8), none, (.alloc 25 8 [(.bool false), (.string ⟨⟨[]⟩⟩), (.bool false), (.string ⟨⟨[]⟩⟩), (.bool false), (.string ⟨⟨[]⟩⟩), (.bool false), (.string ⟨⟨[]⟩⟩)])⟩])
  (.seq (.reg [⟨(some 9), none, (.mv (.t 0))⟩, ⟨(some 10), none, (.call 19 [(.t 9)])⟩, ⟨(some 11), none, (.mv (.t 1))⟩, ⟨(some 12), none, (.call 19 [(.t 11)])⟩, ⟨(some 13), none, (.mv (.t 2))⟩, ⟨(some 14), none, (.call 19 [(.t 13)])⟩, ⟨(some 15), none, (.mv (.t 3))⟩, ⟨(some 16), none, (.call 19 [(.t 15)])⟩, ⟨(some 17), none, (.build [(.bool false), (.string ⟨⟨[]⟩⟩), (.bool false), (.string ⟨⟨[]⟩⟩), (.bool false), (.string ⟨⟨[]⟩⟩), (.bool false), (.string ⟨⟨[]⟩⟩)] [(0, 2, (.t 10)), (2, 2, (.t 12)), (4, 2, (.t 14)), (6, 2, (.t 16))])⟩, ⟨none, none, (.store 8 (.t 8) (.t 17))⟩])
  .ret))
theorem tr17 : trFun Tryd.prog 17 = some ⟨18, [.cell 8 true 8], c17⟩ := by kernel_rfl
theorem ok_lFlat : SpecOK Tryd.prog 17 (flat spLFlat) := by
  refine flat_run (env_cons ok_iFrom (env_nil _)) mixed tr17 ?_
  intro args v h N hG
  unfold spLFlat at hG
  split at hG
  case h_2 => cases hG
  rename_i a b c d
  split at hG
  case isFalse => cases hG
  rename_i hl
  obtain ⟨⟨h1, h2⟩, ⟨h3, h4⟩, ⟨h5, h6⟩, ⟨h7, h8⟩⟩ := hl
  cases hG
  refine ⟨rfl, by simp, ?_⟩
  simp only [c17, initT, List.zipIdx_cons, List.zipIdx_nil, List.map_cons, List.map_nil, Nat.reduceAdd]
  simp only [↓R0, R1, rdL, rdH, isCall, istep, ibin, vcells, fillI, setR, flat, okCell, isBase, List.set, List.drop, List.take, List.append, bnds, bhi, blo, srcOf, ↓reduceIte, Nat.reduceEqDiff, Nat.reduceAdd, Nat.reduceLeDiff, reduceCtorEq, Nat.reduceSub, Int.reduceEq, Int.reduceLT, Int.reduceLE, Int.reduceGT, Int.reduceGE, Int.reduceSub, Int.reduceAdd, Int.reduceMul, Int.reduceNe, Int.reduceNeg, Int.reduceToNat, Nat.reduceMul, spIFrom, h1, h2, h3, h4, h5, h6, h7, h8, Fin, isEnd, resL, res1, iE, rE]
  exact ⟨_, rfl, rfl, fun k hk => by simp only [ne_nb hk, if_false]⟩
def spLAt : List Value → Option Value
  | [.int .i64 a, .int .i64 b, .int .i64 c] => if (-9223372036854775808 ≤ a ∧ a ≤ 9223372036854775807) ∧ (-9223372036854775808 ≤ b ∧ b ≤ 9223372036854775807) ∧ (-9223372036854775808 ≤ c ∧ c ≤ 9223372036854775807) then
      some (.agg ⟨iE a ++ iE b ++ iE c ++ iE 1⟩) else none
  | _ => none
def c18 : ICode :=
  (.seq (.reg [⟨(some 6), none, (.alloc 28 8 [(.bool false), (.string ⟨⟨[]⟩⟩), (.bool false), (.string ⟨⟨[]⟩⟩), (.bool false), (.string ⟨⟨[]⟩⟩), (.bool false), (.string ⟨⟨[]⟩⟩)])⟩])
  (.seq (.reg [⟨(some 7), none, (.mv (.t 0))⟩, ⟨(some 8), none, (.call 19 [(.t 7)])⟩, ⟨(some 9), none, (.mv (.t 1))⟩, ⟨(some 10), none, (.call 19 [(.t 9)])⟩, ⟨(some 11), none, (.mv (.t 2))⟩, ⟨(some 12), none, (.call 19 [(.t 11)])⟩, ⟨(some 13), none, (.call 19 [(.c (.int .i64 1))])⟩, ⟨(some 14), none, (.build [(.bool false), (.string ⟨⟨[]⟩⟩), (.bool false), (.string ⟨⟨[]⟩⟩), (.bool false), (.string ⟨⟨[]⟩⟩), (.bool false), (.string ⟨⟨[]⟩⟩)] [(0, 2, (.t 8)), (2, 2, (.t 10)), (4, 2, (.t 12)), (6, 2, (.t 13))])⟩, ⟨none, none, (.store 8 (.t 6) (.t 14))⟩])
  .ret))
theorem tr18 : trFun Tryd.prog 18 = some ⟨15, [.cell 6 true 8], c18⟩ := by kernel_rfl
theorem ok_lAt : SpecOK Tryd.prog 18 (flat spLAt) := by
  refine flat_run (env_cons ok_iFrom (env_nil _)) mixed tr18 ?_
  intro args v h N hG
  unfold spLAt at hG
  split at hG
  case h_2 => cases hG
  rename_i a b c
  split at hG
  case isFalse => cases hG
  rename_i hl
  obtain ⟨⟨h1, h2⟩, ⟨h3, h4⟩, ⟨h5, h6⟩⟩ := hl
  cases hG
  refine ⟨rfl, by simp, ?_⟩
  simp only [c18, initT, List.zipIdx_cons, List.zipIdx_nil, List.map_cons, List.map_nil, Nat.reduceAdd]
  simp only [↓R0, R1, rdL, rdH, isCall, istep, ibin, vcells, fillI, setR, flat, okCell, isBase, List.set, List.drop, List.take, List.append, bnds, bhi, blo, srcOf, ↓reduceIte, Nat.reduceEqDiff, Nat.reduceAdd, Nat.reduceLeDiff, reduceCtorEq, Nat.reduceSub, Int.reduceEq, Int.reduceLT, Int.reduceLE, Int.reduceGT, Int.reduceGE, Int.reduceSub, Int.reduceAdd, Int.reduceMul, Int.reduceNe, Int.reduceNeg, Int.reduceToNat, Nat.reduceMul, spIFrom, h1, h2, h3, h4, h5, h6, Fin, isEnd, resL, res1, iE, rE]
  exact ⟨_, rfl, rfl, fun k hk => by simp only [ne_nb hk, if_false]⟩
theorem bl_small {n : Nat} (h0 : n ≠ 0) (h : n < 256) : bl n = [UInt8.ofNat n] := by
  rw [bl_pos h0, Nat.div_eq_of_lt h, bl_zero, Nat.mod_eq_of_lt h]
theorem iE_0 : iE 0 = [.bool false, .string ⟨⟨[]⟩⟩] := by unfold iE; rw [show Int.natAbs 0 = 0 from rfl, bl_zero]; rfl
theorem iE_1 : iE 1 = [.bool false, .string ⟨⟨[1]⟩⟩] := by unfold iE; rw [show Int.natAbs 1 = 1 from rfl, bl_small (by decide) (by decide)]; rfl
theorem iE_2 : iE 2 = [.bool false, .string ⟨⟨[2]⟩⟩] := by unfold iE; rw [show Int.natAbs 2 = 2 from rfl, bl_small (by decide) (by decide)]; rfl
theorem iE_3 : iE 3 = [.bool false, .string ⟨⟨[3]⟩⟩] := by unfold iE; rw [show Int.natAbs 3 = 3 from rfl, bl_small (by decide) (by decide)]; rfl
theorem iE_4 : iE 4 = [.bool false, .string ⟨⟨[4]⟩⟩] := by unfold iE; rw [show Int.natAbs 4 = 4 from rfl, bl_small (by decide) (by decide)]; rfl
def cE4 (a b c d : List UInt8) : List Value := [.bool false, .string ⟨⟨a⟩⟩, .bool false, .string ⟨⟨b⟩⟩, .bool false, .string ⟨⟨c⟩⟩, .bool false, .string ⟨⟨d⟩⟩]
theorem fx1 : spLFlat [.int .i64 1, .int .i64 0, .int .i64 0, .int .i64 2] = some (.agg ⟨cE4 [1] [] [] [2]⟩) := by
  unfold spLFlat; simp only; rw [if_pos (by decide), iE_1, iE_0, iE_2]; rfl
theorem fx2 : spLFlat [.int .i64 0, .int .i64 1, .int .i64 0, .int .i64 3] = some (.agg ⟨cE4 [] [1] [] [3]⟩) := by
  unfold spLFlat; simp only; rw [if_pos (by decide), iE_1, iE_0, iE_3]; rfl
theorem fx3 : spLFlat [.int .i64 0, .int .i64 0, .int .i64 1, .int .i64 4] = some (.agg ⟨cE4 [] [] [1] [4]⟩) := by
  unfold spLFlat; simp only; rw [if_pos (by decide), iE_1, iE_0, iE_4]; rfl
theorem fx4 : spLFlat [.int .i64 0, .int .i64 0, .int .i64 1, .int .i64 1] = some (.agg ⟨cE4 [] [] [1] [1]⟩) := by
  unfold spLFlat; simp only; rw [if_pos (by decide), iE_1, iE_0]; rfl
theorem fx5 : spLAt [.int .i64 0, .int .i64 0, .int .i64 0] = some (.agg ⟨cE4 [] [] [] [1]⟩) := by
  unfold spLAt; simp only; rw [if_pos (by decide), iE_1, iE_0]; rfl
theorem fx6 : spLAt [.int .i64 1, .int .i64 1, .int .i64 2] = some (.agg ⟨cE4 [1] [1] [2] [1]⟩) := by
  unfold spLAt; simp only; rw [if_pos (by decide), iE_1, iE_2]; rfl
theorem fx7 : spLAt [.int .i64 2, .int .i64 3, .int .i64 4] = some (.agg ⟨cE4 [2] [3] [4] [1]⟩) := by
  unfold spLAt; simp only; rw [if_pos (by decide), iE_1, iE_2, iE_3, iE_4]; rfl
theorem fx8 : spIFrom [.int .i64 1] = some (.agg ⟨[.bool false, .string ⟨⟨[1]⟩⟩]⟩) := by
  unfold spIFrom; simp only; rw [if_pos (by decide), iE_1]
theorem fx9 : spIFrom [.int .i64 2] = some (.agg ⟨[.bool false, .string ⟨⟨[2]⟩⟩]⟩) := by
  unfold spIFrom; simp only; rw [if_pos (by decide), iE_2]
theorem pE_2341 : pE 2 3 4 1 = cE4 [2] [3] [4] [1] := by
  unfold pE
  rw [show pQ 2 3 4 1 2 = 2 by decide, show pQ 2 3 4 1 3 = 3 by decide, show pQ 2 3 4 1 4 = 4 by decide, show pQ 2 3 4 1 (pW 1) = 1 by decide, iE_1, iE_2, iE_3, iE_4]; rfl
theorem pE_1122 : pE 1 1 2 2 = cE4 [1] [1] [2] [2] := by
  unfold pE
  rw [show pQ 1 1 2 2 1 = 1 by decide, show pQ 1 1 2 2 2 = 2 by decide, show pQ 1 1 2 2 (pW 2) = 2 by decide, iE_1, iE_2]; rfl
theorem fxA : spXThree [.agg ⟨cE4 [1] [] [] [2]⟩, .agg ⟨cE4 [] [1] [] [3]⟩, .agg ⟨cE4 [] [] [1] [4]⟩] = some (.tuple ⟨[.agg ⟨cE4 [2] [3] [4] [1]⟩, .bool true]⟩) := by
  unfold spXThree cE4
  simp only
  rw [if_pos (by decide), if_neg (by decide)]
  have h : ∀ X Y Z W : Int, X = 2 → Y = 3 → Z = 4 → W = 1 → some (Value.tuple ⟨[.agg ⟨pE X Y Z W⟩, .bool true]⟩) = some (.tuple ⟨[.agg ⟨cE4 [2] [3] [4] [1]⟩, .bool true]⟩) := by
    intro X Y Z W h1 h2 h3 h4
    rw [h1, h2, h3, h4, pE_2341]
  exact h _ _ _ _ (by decide) (by decide) (by decide) (by decide)
theorem fxB : spXLine [.agg ⟨cE4 [] [] [1] [1]⟩, .agg ⟨cE4 [] [] [] [1]⟩, .agg ⟨cE4 [1] [1] [2] [1]⟩] = some (.tuple ⟨[.agg ⟨cE4 [1] [1] [2] [2]⟩, .bool true]⟩) := by
  unfold spXLine cE4
  simp only
  rw [if_pos (by decide), if_neg (by decide), if_neg (by decide)]
  have h : ∀ X Y Z W : Int, X = 1 → Y = 1 → Z = 2 → W = 2 → some (Value.tuple ⟨[.agg ⟨pE X Y Z W⟩, .bool true]⟩) = some (.tuple ⟨[.agg ⟨cE4 [1] [1] [2] [2]⟩, .bool true]⟩) := by
    intro X Y Z W h1 h2 h3 h4
    rw [h1, h2, h3, h4, pE_1122]
  exact h _ _ _ _ (by decide) (by decide) (by decide) (by decide)
def spLFixed : List Value → Option Value
  | [] => some (.bool true)
  | _ => none
def c7 : ICode :=
  (.seq (.reg [⟨(some 0), none, (.mv (.c (.bool false)))⟩])
  (.seq (.reg [⟨(some 6), none, (.call 17 [(.c (.int .i64 1)), (.c (.int .i64 0)), (.c (.int .i64 0)), (.c (.int .i64 2))])⟩, ⟨(some 7), none, (.call 17 [(.c (.int .i64 0)), (.c (.int .i64 1)), (.c (.int .i64 0)), (.c (.int .i64 3))])⟩, ⟨(some 8), none, (.call 17 [(.c (.int .i64 0)), (.c (.int .i64 0)), (.c (.int .i64 1)), (.c (.int .i64 4))])⟩, ⟨(some 9), none, (.call 10 [(.t 6), (.t 7), (.t 8)])⟩, ⟨(some 5), none, (.mv (.t 9))⟩, ⟨(some 10), none, (.ext (.t 5) 0)⟩, ⟨(some 11), none, (.ext (.t 5) 1)⟩, ⟨(some 1), none, (.alloc 28 8 [(.bool false), (.string ⟨⟨[]⟩⟩), (.bool false), (.string ⟨⟨[]⟩⟩), (.bool false), (.string ⟨⟨[]⟩⟩), (.bool false), (.string ⟨⟨[]⟩⟩)])⟩, ⟨none, none, (.store 8 (.t 1) (.t 10))⟩, ⟨(some 2), none, (.mv (.t 11))⟩])
  (.seq (.reg [⟨(some 13), none, (.call 17 [(.c (.int .i64 0)), (.c (.int .i64 0)), (.c (.int .i64 1)), (.c (.int .i64 1))])⟩, ⟨(some 14), none, (.call 18 [(.c (.int .i64 0)), (.c (.int .i64 0)), (.c (.int .i64 0))])⟩, ⟨(some 15), none, (.call 18 [(.c (.int .i64 1)), (.c (.int .i64 1)), (.c (.int .i64 2))])⟩, ⟨(some 16), none, (.call 12 [(.t 13), (.t 14), (.t 15)])⟩, ⟨(some 12), none, (.mv (.t 16))⟩, ⟨(some 17), none, (.ext (.t 12) 0)⟩, ⟨(some 18), none, (.ext (.t 12) 1)⟩, ⟨(some 3), none, (.alloc 28 8 [(.bool false), (.string ⟨⟨[]⟩⟩), (.bool false), (.string ⟨⟨[]⟩⟩), (.bool false), (.string ⟨⟨[]⟩⟩), (.bool false), (.string ⟨⟨[]⟩⟩)])⟩, ⟨none, none, (.store 8 (.t 3) (.t 17))⟩, ⟨(some 4), none, (.mv (.t 18))⟩])
  (.seq (.dreg [⟨(some 19), none, [], (.mv (.t 2))⟩, ⟨(some 20), none, [], (.mv (.t 19))⟩, ⟨(some 21), (some (20, true)), [], (.mv (.t 4))⟩, ⟨(some 22), none, [], (.pick (.t 20) (.t 21) (.c (.bool false)))⟩, ⟨(some 23), none, [], (.mv (.t 22))⟩, ⟨(some 24), (some (23, true)), [], (.load true 8 (.t 1))⟩, ⟨(some 25), (some (23, true)), [], (.call 18 [(.c (.int .i64 2)), (.c (.int .i64 3)), (.c (.int .i64 4))])⟩, ⟨(some 26), (some (23, true)), [], (.eqa false [.b, .s, .b, .s, .b, .s, .b, .s] (.t 24) (.t 25))⟩, ⟨(some 27), none, [], (.pick (.t 23) (.t 26) (.c (.bool false)))⟩, ⟨(some 28), none, [], (.mv (.t 27))⟩, ⟨(some 29), (some (28, true)), [], (.load true 8 (.t 3))⟩, ⟨(some 30), (some (28, true)), [], (.call 19 [(.c (.int .i64 1))])⟩, ⟨(some 31), (some (28, true)), [], (.call 19 [(.c (.int .i64 1))])⟩, ⟨(some 32), (some (28, true)), [], (.call 19 [(.c (.int .i64 2))])⟩, ⟨(some 33), (some (28, true)), [], (.call 19 [(.c (.int .i64 2))])⟩, ⟨(some 34), (some (28, true)), [], (.build [(.bool false), (.string ⟨⟨[]⟩⟩), (.bool false), (.string ⟨⟨[]⟩⟩), (.bool false), (.string ⟨⟨[]⟩⟩), (.bool false), (.string ⟨⟨[]⟩⟩)] [(0, 2, (.t 30)), (2, 2, (.t 31)), (4, 2, (.t 32)), (6, 2, (.t 33))])⟩, ⟨(some 35), (some (28, true)), [], (.eqa false [.b, .s, .b, .s, .b, .s, .b, .s] (.t 29) (.t 34))⟩, ⟨(some 36), none, [], (.pick (.t 28) (.t 35) (.c (.bool false)))⟩, ⟨(some 0), none, [], (.mv (.t 36))⟩])
  .ret))))
theorem tr7 : trFun Tryd.prog 7 = some ⟨37, [.t 0], c7⟩ := by kernel_rfl
set_option maxHeartbeats 4000000 in
theorem ok_lFixed : SpecOK Tryd.prog 7 (flat spLFixed) := by
  refine flat_run (env_cons ok_lFlat (env_cons ok_lAt (env_cons ok_iFrom (env_cons ok_xThree (env_cons ok_xLine (env_nil _)))))) mixed tr7 ?_
  intro args v h N hG
  unfold spLFixed at hG
  split at hG
  case h_2 => cases hG
  cases hG
  refine ⟨rfl, by simp, ?_⟩
  have fA := fxA
  have fB := fxB
  have g1 := fx1
  have g2 := fx2
  have g3 := fx3
  have g4 := fx4
  have g5 := fx5
  have g6 := fx6
  have g7 := fx7
  unfold cE4 at fA fB g1 g2 g3 g4 g5 g6 g7
  simp only [c7, initT, List.zipIdx_cons, List.zipIdx_nil, List.map_cons, List.map_nil, Nat.reduceAdd]
  simp only [↓R0, R1, rdL, rdH, isCall, istep, ibin, vcells, fillI, setR, flat, okCell, isBase, List.set, List.drop, List.take, List.append, bnds, bhi, blo, srcOf, ↓reduceIte, Nat.reduceEqDiff, Nat.reduceAdd, Nat.reduceLeDiff, reduceCtorEq, Nat.reduceSub, Int.reduceEq, Int.reduceLT, Int.reduceLE, Int.reduceGT, Int.reduceGE, Int.reduceSub, Int.reduceAdd, Int.reduceMul, Int.reduceNe, Int.reduceNeg, Int.reduceToNat, Nat.reduceMul, g1, g2, g3, g4, g5, g6, g7, fx8, fx9, fA, fB, ceq, Fin, isEnd, resL, res1, iE, rE]
  exact ⟨_, rfl, rfl, fun k hk => by simp only [ne_nb hk, if_false]⟩
def spLWide : List Value → Option Value
  | [.agg ⟨[.bool s1, .string ⟨⟨l1⟩⟩, .bool s2, .string ⟨⟨l2⟩⟩, .bool s3, .string ⟨⟨l3⟩⟩, .bool s4, .string ⟨⟨l4⟩⟩]⟩] =>
    some (.int .i64 (if (l1.length ≤ 6 ∧ l2.length ≤ 6 ∧ l3.length ≤ 6 ∧ l4.length ≤ 6) ∧ ¬ (sv s1 l1 = 0 ∧ sv s2 l2 = 0 ∧ sv s3 l3 = 0) then 0 else 1))
  | _ => none
def c5 : ICode :=
  (.seq (.reg [⟨(some 1), none, (.box 25 8 (.t 0))⟩, ⟨(some 2), none, (.mv (.c (.int .i64 0)))⟩])
  (.seq (.seq (.reg [⟨(some 5), none, (.faddr 0 (.t 1))⟩, ⟨(some 6), none, (.faddr 1 (.t 5))⟩, ⟨(some 7), none, (.load false 1 (.t 6))⟩, ⟨(some 8), none, (.lens (.t 7))⟩, ⟨(some 9), none, (.bin .gtr (.t 8) (.c (.int .i64 6)))⟩, ⟨(some 10), none, (.mv (.t 9))⟩, ⟨(some 11), (some (10, false)), (.faddr 2 (.t 1))⟩, ⟨(some 12), (some (10, false)), (.faddr 1 (.t 11))⟩, ⟨(some 13), (some (10, false)), (.load false 1 (.t 12))⟩, ⟨(some 14), (some (10, false)), (.lens (.t 13))⟩, ⟨(some 15), (some (10, false)), (.bin .gtr (.t 14) (.c (.int .i64 6)))⟩, ⟨(some 16), none, (.pick (.t 10) (.c (.bool true)) (.t 15))⟩, ⟨(some 17), none, (.mv (.t 16))⟩, ⟨(some 18), (some (17, false)), (.faddr 4 (.t 1))⟩, ⟨(some 19), (some (17, false)), (.faddr 1 (.t 18))⟩, ⟨(some 20), (some (17, false)), (.load false 1 (.t 19))⟩, ⟨(some 21), (some (17, false)), (.lens (.t 20))⟩, ⟨(some 22), (some (17, false)), (.bin .gtr (.t 21) (.c (.int .i64 6)))⟩, ⟨(some 23), none, (.pick (.t 17) (.c (.bool true)) (.t 22))⟩, ⟨(some 24), none, (.mv (.t 23))⟩, ⟨(some 25), (some (24, false)), (.faddr 6 (.t 1))⟩, ⟨(some 26), (some (24, false)), (.faddr 1 (.t 25))⟩, ⟨(some 27), (some (24, false)), (.load false 1 (.t 26))⟩, ⟨(some 28), (some (24, false)), (.lens (.t 27))⟩, ⟨(some 29), (some (24, false)), (.bin .gtr (.t 28) (.c (.int .i64 6)))⟩, ⟨(some 30), none, (.pick (.t 24) (.c (.bool true)) (.t 29))⟩])
  (.cond (.t 30)
  (.seq (.reg [⟨(some 2), none, (.mv (.c (.int .i64 1)))⟩])
  .ret)
  .skip))
  (.seq (.seq (.reg [⟨(some 32), none, (.load true 8 (.t 1))⟩, ⟨(some 33), none, (.call 16 [(.t 32)])⟩, ⟨(some 31), none, (.mv (.t 33))⟩, ⟨(some 34), none, (.ext (.t 31) 0)⟩, ⟨(some 35), none, (.ext (.t 31) 1)⟩, ⟨(some 3), none, (.alloc 25 8 [(.bool false), (.string ⟨⟨[]⟩⟩), (.bool false), (.string ⟨⟨[]⟩⟩), (.bool false), (.string ⟨⟨[]⟩⟩), (.bool false), (.string ⟨⟨[]⟩⟩)])⟩, ⟨none, none, (.store 8 (.t 3) (.t 34))⟩, ⟨(some 4), none, (.mv (.t 35))⟩])
  (.seq (.reg [⟨(some 36), none, (.mv (.t 4))⟩, ⟨(some 37), none, (.un .not (.t 36))⟩])
  (.cond (.t 37)
  (.seq (.reg [⟨(some 2), none, (.mv (.c (.int .i64 1)))⟩])
  .ret)
  .skip)))
  (.seq (.reg [⟨(some 2), none, (.mv (.c (.int .i64 0)))⟩])
  .ret))))
theorem tr5 : trFun Tryd.prog 5 = some ⟨38, [.t 2], c5⟩ := by kernel_rfl
theorem ok_lWide : SpecOK Tryd.prog 5 (flat spLWide) := by
  refine flat_run (env_cons ok_r5Norm (env_nil _)) mixed tr5 ?_
  intro args v h N hG
  unfold spLWide at hG
  split at hG
  case h_2 => cases hG
  rename_i s1 l1 s2 l2 s3 l3 s4 l4
  cases hG
  refine ⟨rfl, by simp, ?_⟩
  have tr : ∀ l : List UInt8, ¬ l.length ≤ 6 → ((l.length : Int) > 6) = True := fun l h => eq_true (by omega)
  have fl : ∀ l : List UInt8, l.length ≤ 6 → ((l.length : Int) > 6) = False := fun l h => eq_false (by omega)
  simp only [c5, initT, List.zipIdx_cons, List.zipIdx_nil, List.map_cons, List.map_nil, Nat.reduceAdd]
  by_cases c1 : l1.length ≤ 6
  · by_cases c2 : l2.length ≤ 6
    · by_cases c3 : l3.length ≤ 6
      · by_cases c4 : l4.length ≤ 6
        · have a1 : l1.length ≤ 68719476736 := by omega
          have a2 : l2.length ≤ 68719476736 := by omega
          have a3 : l3.length ≤ 68719476736 := by omega
          have a4 : l4.length ≤ 68719476736 := by omega
          have d1 := fl l1 c1
          have d2 := fl l2 c2
          have d3 := fl l3 c3
          have d4 := fl l4 c4
          by_cases z : sv s1 l1 = 0 ∧ sv s2 l2 = 0 ∧ sv s3 l3 = 0
          · rw [if_neg (fun e => e.2 z)]
            have z' := z
            obtain ⟨z1, z2, z3⟩ := z
            simp only [↓R0, R1, rdL, rdH, isCall, istep, ibin, vcells, fillI, setR, flat, okCell, isBase, List.set, List.drop, List.take, List.append, bnds, bhi, blo, srcOf, ↓reduceIte, Nat.reduceEqDiff, Nat.reduceAdd, Nat.reduceLeDiff, reduceCtorEq, Nat.reduceSub, Int.reduceEq, Int.reduceLT, Int.reduceLE, Int.reduceGT, Int.reduceGE, Int.reduceSub, Int.reduceAdd, Int.reduceMul, Int.reduceNe, Int.reduceNeg, Int.reduceToNat, Nat.reduceMul, d1, d2, d3, d4, a1, a2, a3, a4, z1, z2, z3, spR5Norm, Bool.not_false, Fin, isEnd, resL, res1, iE, rE]
            exact ⟨_, rfl, rfl, fun k hk => by simp only [ne_nb hk, if_false]⟩
          · rw [if_pos ⟨⟨c1, c2, c3, c4⟩, z⟩]
            simp only [↓R0, R1, rdL, rdH, isCall, istep, ibin, vcells, fillI, setR, flat, okCell, isBase, List.set, List.drop, List.take, List.append, bnds, bhi, blo, srcOf, ↓reduceIte, Nat.reduceEqDiff, Nat.reduceAdd, Nat.reduceLeDiff, reduceCtorEq, Nat.reduceSub, Int.reduceEq, Int.reduceLT, Int.reduceLE, Int.reduceGT, Int.reduceGE, Int.reduceSub, Int.reduceAdd, Int.reduceMul, Int.reduceNe, Int.reduceNeg, Int.reduceToNat, Nat.reduceMul, d1, d2, d3, d4, a1, a2, a3, a4, z, spR5Norm, lE, Bool.not_true, Fin, isEnd, resL, res1, iE, rE]
            exact ⟨_, rfl, rfl, fun k hk => by simp only [ne_nb hk, if_false]⟩
        · rw [if_neg (fun e => c4 e.1.2.2.2)]
          have d1 := fl l1 c1
          have d2 := fl l2 c2
          have d3 := fl l3 c3
          have d4 := tr l4 c4
          simp only [↓R0, R1, rdL, rdH, isCall, istep, ibin, vcells, fillI, setR, flat, okCell, isBase, List.set, List.drop, List.take, List.append, bnds, bhi, blo, srcOf, ↓reduceIte, Nat.reduceEqDiff, Nat.reduceAdd, Nat.reduceLeDiff, reduceCtorEq, Nat.reduceSub, Int.reduceEq, Int.reduceLT, Int.reduceLE, Int.reduceGT, Int.reduceGE, Int.reduceSub, Int.reduceAdd, Int.reduceMul, Int.reduceNe, Int.reduceNeg, Int.reduceToNat, Nat.reduceMul, d1, d2, d3, d4, Fin, isEnd, resL, res1, iE, rE]
          exact ⟨_, rfl, rfl, fun k hk => by simp only [ne_nb hk, if_false]⟩
      · rw [if_neg (fun e => c3 e.1.2.2.1)]
        have d1 := fl l1 c1
        have d2 := fl l2 c2
        have d3 := tr l3 c3
        simp only [↓R0, R1, rdL, rdH, isCall, istep, ibin, vcells, fillI, setR, flat, okCell, isBase, List.set, List.drop, List.take, List.append, bnds, bhi, blo, srcOf, ↓reduceIte, Nat.reduceEqDiff, Nat.reduceAdd, Nat.reduceLeDiff, reduceCtorEq, Nat.reduceSub, Int.reduceEq, Int.reduceLT, Int.reduceLE, Int.reduceGT, Int.reduceGE, Int.reduceSub, Int.reduceAdd, Int.reduceMul, Int.reduceNe, Int.reduceNeg, Int.reduceToNat, Nat.reduceMul, d1, d2, d3, Fin, isEnd, resL, res1, iE, rE]
        exact ⟨_, rfl, rfl, fun k hk => by simp only [ne_nb hk, if_false]⟩
    · rw [if_neg (fun e => c2 e.1.2.1)]
      have d1 := fl l1 c1
      have d2 := tr l2 c2
      simp only [↓R0, R1, rdL, rdH, isCall, istep, ibin, vcells, fillI, setR, flat, okCell, isBase, List.set, List.drop, List.take, List.append, bnds, bhi, blo, srcOf, ↓reduceIte, Nat.reduceEqDiff, Nat.reduceAdd, Nat.reduceLeDiff, reduceCtorEq, Nat.reduceSub, Int.reduceEq, Int.reduceLT, Int.reduceLE, Int.reduceGT, Int.reduceGE, Int.reduceSub, Int.reduceAdd, Int.reduceMul, Int.reduceNe, Int.reduceNeg, Int.reduceToNat, Nat.reduceMul, d1, d2, Fin, isEnd, resL, res1, iE, rE]
      exact ⟨_, rfl, rfl, fun k hk => by simp only [ne_nb hk, if_false]⟩
  · rw [if_neg (fun e => c1 e.1.1)]
    have d1 := tr l1 c1
    simp only [↓R0, R1, rdL, rdH, isCall, istep, ibin, vcells, fillI, setR, flat, okCell, isBase, List.set, List.drop, List.take, List.append, bnds, bhi, blo, srcOf, ↓reduceIte, Nat.reduceEqDiff, Nat.reduceAdd, Nat.reduceLeDiff, reduceCtorEq, Nat.reduceSub, Int.reduceEq, Int.reduceLT, Int.reduceLE, Int.reduceGT, Int.reduceGE, Int.reduceSub, Int.reduceAdd, Int.reduceMul, Int.reduceNe, Int.reduceNeg, Int.reduceToNat, Nat.reduceMul, d1, Fin, isEnd, resL, res1, iE, rE]
    exact ⟨_, rfl, rfl, fun k hk => by simp only [ne_nb hk, if_false]⟩
def spLForm : List Value → Option Value
  | [.agg ⟨[.bool s1, .string ⟨⟨l1⟩⟩, .bool s2, .string ⟨⟨l2⟩⟩, .bool s3, .string ⟨⟨l3⟩⟩, .bool s4, .string ⟨⟨l4⟩⟩]⟩] =>
    if l1.length ≤ 6 ∧ l2.length ≤ 6 ∧ l3.length ≤ 6 ∧ l4.length ≤ 6 ∧ ¬ (sv s1 l1 = 0 ∧ sv s2 l2 = 0 ∧ sv s3 l3 = 0) then some (.agg ⟨lE (sv s1 l1) (sv s2 l2) (sv s3 l3) (sv s4 l4)⟩) else none
  | _ => none
def c8 : ICode :=
  (.seq (.reg [⟨(some 1), none, (.box 25 8 (.t 0))⟩, ⟨(some 2), none, (.alloc 25 8 [(.bool false), (.string ⟨⟨[]⟩⟩), (.bool false), (.string ⟨⟨[]⟩⟩), (.bool false), (.string ⟨⟨[]⟩⟩), (.bool false), (.string ⟨⟨[]⟩⟩)])⟩])
  (.seq (.reg [⟨(some 6), none, (.load true 8 (.t 1))⟩, ⟨(some 7), none, (.call 16 [(.t 6)])⟩, ⟨(some 5), none, (.mv (.t 7))⟩, ⟨(some 8), none, (.ext (.t 5) 0)⟩, ⟨(some 9), none, (.ext (.t 5) 1)⟩, ⟨(some 3), none, (.alloc 25 8 [(.bool false), (.string ⟨⟨[]⟩⟩), (.bool false), (.string ⟨⟨[]⟩⟩), (.bool false), (.string ⟨⟨[]⟩⟩), (.bool false), (.string ⟨⟨[]⟩⟩)])⟩, ⟨none, none, (.store 8 (.t 3) (.t 8))⟩, ⟨(some 4), none, (.mv (.t 9))⟩])
  (.seq (.reg [⟨(some 10), none, (.load true 8 (.t 3))⟩, ⟨none, none, (.store 8 (.t 2) (.t 10))⟩])
  .ret)))
theorem tr8 : trFun Tryd.prog 8 = some ⟨11, [.cell 2 true 8], c8⟩ := by kernel_rfl
theorem ok_lForm : SpecOK Tryd.prog 8 (flat spLForm) := by
  refine flat_run (env_cons ok_r5Norm (env_nil _)) mixed tr8 ?_
  intro args v h N hG
  unfold spLForm at hG
  split at hG
  case h_2 => cases hG
  rename_i s1 l1 s2 l2 s3 l3 s4 l4
  split at hG
  case isFalse => cases hG
  rename_i hl
  obtain ⟨c1, c2, c3, c4, z⟩ := hl
  cases hG
  refine ⟨rfl, by simp, ?_⟩
  have a1 : l1.length ≤ 68719476736 := by omega
  have a2 : l2.length ≤ 68719476736 := by omega
  have a3 : l3.length ≤ 68719476736 := by omega
  have a4 : l4.length ≤ 68719476736 := by omega
  simp only [c8, initT, List.zipIdx_cons, List.zipIdx_nil, List.map_cons, List.map_nil, Nat.reduceAdd]
  simp only [↓R0, R1, rdL, rdH, isCall, istep, ibin, vcells, fillI, setR, flat, okCell, isBase, List.set, List.drop, List.take, List.append, bnds, bhi, blo, srcOf, ↓reduceIte, Nat.reduceEqDiff, Nat.reduceAdd, Nat.reduceLeDiff, reduceCtorEq, Nat.reduceSub, Int.reduceEq, Int.reduceLT, Int.reduceLE, Int.reduceGT, Int.reduceGE, Int.reduceSub, Int.reduceAdd, Int.reduceMul, Int.reduceNe, Int.reduceNeg, Int.reduceToNat, Nat.reduceMul, a1, a2, a3, a4, z, spR5Norm, lE, Fin, isEnd, resL, res1, iE, rE]
  exact ⟨_, rfl, rfl, fun k hk => by simp only [ne_nb hk, if_false]⟩
end Go.Eng
end
section
set_option linter.unusedVariables false
set_option linter.unusedSimpArgs false
set_option linter.unusedSectionVars false
set_option maxRecDepth 20000
namespace Go.Eng
open Go Go.Proofs Go.IntWalk
theorem ints_cons {cells : List Value} {z : Bool × List UInt8} {zs : List (Bool × List UInt8)} (h : ints cells = some (z :: zs)) : ∃ r, cells = .bool z.1 :: .string ⟨⟨z.2⟩⟩ :: r ∧ ints r = some zs := by
  unfold ints at h
  split at h
  · cases h
  · rename_i s l r
    rw [Option.map_eq_some_iff] at h
    obtain ⟨ys, h1, h2⟩ := h
    cases h2
    exact ⟨r, rfl, h1⟩
  · cases h
theorem ints_drop : ∀ (j : Nat) {cells : List Value} {zs : List (Bool × List UInt8)}, ints cells = some zs → j ≤ zs.length → ints (cells.drop (2 * j)) = some (zs.drop j)
  | 0, cells, zs, h, _ => h
  | j + 1, cells, zs, h, hj => by
    match zs, hj with
    | z :: zs, hj =>
      obtain ⟨r, rfl, hr⟩ := ints_cons h
      have := ints_drop j hr (by simpa using hj)
      rw [show 2 * (j + 1) = 2 * j + 2 by omega]
      simpa using this
theorem ints_four {cells : List Value} {zs : List (Bool × List UInt8)} (h : ints cells = some zs) {i : Nat} (hi : 4 * i + 4 ≤ zs.length) :
    ∃ s1 l1 s2 l2 s3 l3 s4 l4, zs.drop (4 * i) = (s1, l1) :: (s2, l2) :: (s3, l3) :: (s4, l4) :: zs.drop (4 * i + 4) ∧ i * 8 + 8 ≤ cells.length ∧
      (cells.drop (i * 8)).take 8 = [.bool s1, .string ⟨⟨l1⟩⟩, .bool s2, .string ⟨⟨l2⟩⟩, .bool s3, .string ⟨⟨l3⟩⟩, .bool s4, .string ⟨⟨l4⟩⟩] := by
  have hd := ints_drop (4 * i) h (by omega)
  have e : 2 * (4 * i) = i * 8 := by omega
  rw [e] at hd
  obtain ⟨⟨s1, l1⟩, h1⟩ : ∃ z, zs[4 * i]? = some z := ⟨_, List.getElem?_eq_getElem (by omega)⟩
  obtain ⟨⟨s2, l2⟩, h2⟩ : ∃ z, zs[4 * i + 1]? = some z := ⟨_, List.getElem?_eq_getElem (by omega)⟩
  obtain ⟨⟨s3, l3⟩, h3⟩ : ∃ z, zs[4 * i + 2]? = some z := ⟨_, List.getElem?_eq_getElem (by omega)⟩
  obtain ⟨⟨s4, l4⟩, h4⟩ : ∃ z, zs[4 * i + 3]? = some z := ⟨_, List.getElem?_eq_getElem (by omega)⟩
  have dr : ∀ (k : Nat) z, zs[k]? = some z → zs.drop k = z :: zs.drop (k + 1) := fun k z hk => by
    have := List.getElem?_eq_some_iff.1 hk
    obtain ⟨h5, h6⟩ := this
    rw [List.drop_eq_getElem_cons h5, h6]
  have hz : zs.drop (4 * i) = (s1, l1) :: (s2, l2) :: (s3, l3) :: (s4, l4) :: zs.drop (4 * i + 4) := by
    rw [dr _ _ h1, dr _ _ h2, dr _ _ h3, dr _ _ h4]
  rw [hz] at hd
  obtain ⟨r1, c1, d1⟩ := ints_cons hd
  obtain ⟨r2, c2, d2⟩ := ints_cons d1
  obtain ⟨r3, c3, d3⟩ := ints_cons d2
  obtain ⟨r4, c4, d4⟩ := ints_cons d3
  subst c2 c3 c4
  refine ⟨s1, l1, s2, l2, s3, l3, s4, l4, hz, ?_, by rw [c1]; rfl⟩
  have := congrArg List.length c1
  simp at this
  omega
def spLGreat : List Value → Heap → Option Value
  | [.slice (some ⟨k, 0, none⟩) len _], h => match hget h k with
    | some blk => match ints blk.cells with
      | some zs => if 4 * len ≤ zs.length ∧ len ≤ 1000 then some (.int .i64 (if (zs.take (4 * len)).all (fun z => decide (z.2.length ≤ 6)) = true then 0 else 1)) else none
      | none => none
    | none => none
  | _, _ => none
def c6 : ICode :=
  (.seq (.reg [⟨(some 2), none, (.mv (.c (.int .i64 0)))⟩])
  (.seq (.seq (.reg [⟨(some 5), none, (.mv (.t 0))⟩, ⟨(some 6), none, (.lensl (.t 5))⟩, ⟨(some 7), none, (.mv (.c (.int .i64 0)))⟩])
  (.block 0 (.loop (.seq (.reg [⟨(some 8), none, (.bin .lss (.t 7) (.t 6))⟩])
  (.seq (.cond (.t 8)
  .skip
  (.exit 0))
  (.seq (.block 1 (.seq (.reg [⟨(some 9), none, (.ixsl 8 (.t 5) (.t 7))⟩, ⟨(some 10), none, (.load true 8 (.t 9))⟩, ⟨(some 4), none, (.alloc 28 8 [(.bool false), (.string ⟨⟨[]⟩⟩), (.bool false), (.string ⟨⟨[]⟩⟩), (.bool false), (.string ⟨⟨[]⟩⟩), (.bool false), (.string ⟨⟨[]⟩⟩)])⟩, ⟨none, none, (.store 8 (.t 4) (.t 10))⟩])
  (.seq (.reg [⟨(some 11), none, (.faddr 0 (.t 4))⟩, ⟨(some 12), none, (.faddr 1 (.t 11))⟩, ⟨(some 13), none, (.load false 1 (.t 12))⟩, ⟨(some 14), none, (.lens (.t 13))⟩, ⟨(some 15), none, (.bin .gtr (.t 14) (.c (.int .i64 6)))⟩, ⟨(some 16), none, (.mv (.t 15))⟩, ⟨(some 17), (some (16, false)), (.faddr 2 (.t 4))⟩, ⟨(some 18), (some (16, false)), (.faddr 1 (.t 17))⟩, ⟨(some 19), (some (16, false)), (.load false 1 (.t 18))⟩, ⟨(some 20), (some (16, false)), (.lens (.t 19))⟩, ⟨(some 21), (some (16, false)), (.bin .gtr (.t 20) (.c (.int .i64 6)))⟩, ⟨(some 22), none, (.pick (.t 16) (.c (.bool true)) (.t 21))⟩, ⟨(some 23), none, (.mv (.t 22))⟩, ⟨(some 24), (some (23, false)), (.faddr 4 (.t 4))⟩, ⟨(some 25), (some (23, false)), (.faddr 1 (.t 24))⟩, ⟨(some 26), (some (23, false)), (.load false 1 (.t 25))⟩, ⟨(some 27), (some (23, false)), (.lens (.t 26))⟩, ⟨(some 28), (some (23, false)), (.bin .gtr (.t 27) (.c (.int .i64 6)))⟩, ⟨(some 29), none, (.pick (.t 23) (.c (.bool true)) (.t 28))⟩, ⟨(some 30), none, (.mv (.t 29))⟩, ⟨(some 31), (some (30, false)), (.faddr 6 (.t 4))⟩, ⟨(some 32), (some (30, false)), (.faddr 1 (.t 31))⟩, ⟨(some 33), (some (30, false)), (.load false 1 (.t 32))⟩, ⟨(some 34), (some (30, false)), (.lens (.t 33))⟩, ⟨(some 35), (some (30, false)), (.bin .gtr (.t 34) (.c (.int .i64 6)))⟩, ⟨(some 36), none, (.pick (.t 30) (.c (.bool true)) (.t 35))⟩])
  (.cond (.t 36)
  (.seq (.reg [⟨(some 2), none, (.mv (.c (.int .i64 1)))⟩])
  .ret)
  .skip))))
  (.reg [⟨(some 37), none, (.bin .add (.t 7) (.c (.int .i64 1)))⟩, ⟨(some 7), none, (.mv (.t 37))⟩])))))))
  (.seq (.reg [⟨(some 2), none, (.mv (.c (.int .i64 0)))⟩])
  .ret)))
theorem tr6 : trFun Tryd.prog 6 = some ⟨38, [.t 2], c6⟩ := by kernel_rfl
set_option maxHeartbeats 1000000 in
theorem ok_lGreat : SpecOK Tryd.prog 6 (rdS spLGreat) := by
  refine rd_run (env_nil _) mixed tr6 ?_ ?_
  · intro args h h' v hle e
    unfold spLGreat at e ⊢
    split at e
    · rename_i k len c
      split at e
      · rename_i blk hb
        simp only [hle _ _ hb]; exact e
      · cases e
    · cases e
  intro args v h N hG hN
  unfold spLGreat at hG
  split at hG
  case h_2 => cases hG
  rename_i k len c
  split at hG
  case h_2 => cases hG
  rename_i blk hb
  split at hG
  case h_2 => cases hG
  rename_i zs hz
  split at hG
  case isFalse => cases hG
  rename_i hl
  obtain ⟨hl1, hl2⟩ := hl
  cases hG
  have hk := hN _ _ hb
  refine ⟨by rfl, by simp, ?_⟩
  have tr : ∀ l : List UInt8, ¬ l.length ≤ 6 → ((l.length : Int) > 6) = True := fun l h => eq_true (by omega)
  have fl : ∀ l : List UInt8, l.length ≤ 6 → ((l.length : Int) > 6) = False := fun l h => eq_false (by omega)
  simp only [c6, initT, List.zipIdx_cons, List.zipIdx_nil, List.map_cons, List.map_nil, Nat.reduceAdd]
  simp only [↓R0, R1, rdL, rdH, isCall, istep, ibin, vcells, fillI, setR, flat, okCell, isBase, List.set, List.drop, List.take, List.append, bnds, bhi, blo, srcOf, ↓reduceIte, Nat.reduceEqDiff, Nat.reduceAdd, Nat.reduceLeDiff, reduceCtorEq, Nat.reduceSub, Int.reduceEq, Int.reduceLT, Int.reduceLE, Int.reduceGT, Int.reduceGE, Int.reduceSub, Int.reduceAdd, Int.reduceMul, Int.reduceNe, Int.reduceNeg, Int.reduceToNat, Nat.reduceMul]
  refine lp_parts (fun n tm hp nx => ∃ (i : Nat), n + i = len ∧ tmget tm 5 = .slice (some ⟨k, 0, none⟩) len c ∧ tmget tm 6 = .int .i64 len ∧ tmget tm 7 = .int .i64 i ∧
      (zs.take (4 * i)).all (fun z => decide (z.2.length ≤ 6)) = true ∧ (∀ q, q < N → hget hp q = hget h q) ∧ nx = N + i) ?_ len
    ⟨0, by omega, ?_, ?_, ?_, rfl, fun q _ => rfl, rfl⟩
  · intro n tm hp nx ⟨i, hn, t5, t6, t7, hall, hh, hnx⟩
    rw [hnx]
    clear hnx nx
    by_cases c1 : i < len
    · obtain ⟨s1, l1, s2, l2, s3, l3, s4, l4, e1, e2, e3⟩ := ints_four hz (i := i) (by omega)
      have hbb : hget hp k = some blk := by rw [hh k hk]; exact hb
      have ei : IntKind.i64.wrap ((i : Int) + 1) = ((i + 1 : Nat) : Int) := by rw [i64_in _ (by omega)]; omega
      have hne : ¬ (N + i = k) := by omega
      have hlen : ∀ m, i < m → 4 * m ≤ zs.length → zs.take (4 * m) = zs.take (4 * i) ++ ((s1, l1) :: (s2, l2) :: (s3, l3) :: (s4, l4) :: (zs.drop (4 * i + 4)).take (4 * m - (4 * i + 4))) := by
        intro m hm hm2
        have : zs.take (4 * m) = zs.take (4 * i) ++ (zs.drop (4 * i)).take (4 * m - 4 * i) := by
          rw [← List.take_add, show 4 * i + (4 * m - 4 * i) = 4 * m by omega]
        rw [this, e1]
        obtain ⟨d, hd⟩ : ∃ d, 4 * m - 4 * i = d + 4 := ⟨4 * m - 4 * i - 4, by omega⟩
        rw [hd, show 4 * m - (4 * i + 4) = d by omega]
        rfl
      have htot := hlen len c1 hl1
      by_cases c2 : l1.length ≤ 6 ∧ l2.length ≤ 6 ∧ l3.length ≤ 6 ∧ l4.length ≤ 6
      · obtain ⟨q1, q2, q3, q4⟩ := c2
        have d1 := fl l1 q1
        have d2 := fl l2 q2
        have d3 := fl l3 q3
        have d4 := fl l4 q4
        simp only [↓R0, R1, rdL, rdH, isCall, istep, ibin, vcells, fillI, setR, flat, okCell, isBase, List.set, List.drop, List.take, List.append, bnds, bhi, blo, srcOf, ↓reduceIte, Nat.reduceEqDiff, Nat.reduceAdd, Nat.reduceLeDiff, reduceCtorEq, Nat.reduceSub, Int.reduceEq, Int.reduceLT, Int.reduceLE, Int.reduceGT, Int.reduceGE, Int.reduceSub, Int.reduceAdd, Int.reduceMul, Int.reduceNe, Int.reduceNeg, Int.reduceToNat, Nat.reduceMul, t5, t6, t7, c1, hne, hbb, e2, e3, d1, d2, d3, d4, ei]
        refine ⟨n - 1, by omega, i + 1, by omega, rfl, ?_, ?_, rfl⟩
        · have := hlen (i + 1) (by omega) (by omega)
          rw [this]
          simp [hall, q1, q2, q3, q4, show 4 * (i + 1) - (4 * i + 4) = 0 by omega]
        · intro q hq
          simp only [if_neg (show ¬ N + i = q by omega)]
          exact hh q hq
      · have hbad : ¬ ((zs.take (4 * len)).all (fun z => decide (z.2.length ≤ 6)) = true) := by
          intro e
          rw [htot] at e
          simp only [List.all_append, List.all_cons, Bool.and_eq_true, decide_eq_true_eq] at e
          exact c2 ⟨e.2.1, e.2.2.1, e.2.2.2.1, e.2.2.2.2.1⟩
        rw [if_neg hbad]
        by_cases q1 : l1.length ≤ 6
        · have d1 := fl l1 q1
          by_cases q2 : l2.length ≤ 6
          · have d2 := fl l2 q2
            by_cases q3 : l3.length ≤ 6
            · have d3 := fl l3 q3
              have d4 := tr l4 (fun q4 => c2 ⟨q1, q2, q3, q4⟩)
              simp only [↓R0, R1, rdL, rdH, isCall, istep, ibin, vcells, fillI, setR, flat, okCell, isBase, List.set, List.drop, List.take, List.append, bnds, bhi, blo, srcOf, ↓reduceIte, Nat.reduceEqDiff, Nat.reduceAdd, Nat.reduceLeDiff, reduceCtorEq, Nat.reduceSub, Int.reduceEq, Int.reduceLT, Int.reduceLE, Int.reduceGT, Int.reduceGE, Int.reduceSub, Int.reduceAdd, Int.reduceMul, Int.reduceNe, Int.reduceNeg, Int.reduceToNat, Nat.reduceMul, t5, t6, t7, c1, hne, hbb, e2, e3, d1, d2, d3, d4, Fin, isEnd, resL, res1, iE, rE]
              first | exact ⟨_, rfl, rfl, hh⟩ | exact ⟨_, rfl, rfl, fun k hk => by simp only [ne_nb hk, if_false]; exact hh k hk⟩
            · have d3 := tr l3 q3
              simp only [↓R0, R1, rdL, rdH, isCall, istep, ibin, vcells, fillI, setR, flat, okCell, isBase, List.set, List.drop, List.take, List.append, bnds, bhi, blo, srcOf, ↓reduceIte, Nat.reduceEqDiff, Nat.reduceAdd, Nat.reduceLeDiff, reduceCtorEq, Nat.reduceSub, Int.reduceEq, Int.reduceLT, Int.reduceLE, Int.reduceGT, Int.reduceGE, Int.reduceSub, Int.reduceAdd, Int.reduceMul, Int.reduceNe, Int.reduceNeg, Int.reduceToNat, Nat.reduceMul, t5, t6, t7, c1, hne, hbb, e2, e3, d1, d2, d3, Fin, isEnd, resL, res1, iE, rE]
              first | exact ⟨_, rfl, rfl, hh⟩ | exact ⟨_, rfl, rfl, fun k hk => by simp only [ne_nb hk, if_false]; exact hh k hk⟩
          · have d2 := tr l2 q2
            simp only [↓R0, R1, rdL, rdH, isCall, istep, ibin, vcells, fillI, setR, flat, okCell, isBase, List.set, List.drop, List.take, List.append, bnds, bhi, blo, srcOf, ↓reduceIte, Nat.reduceEqDiff, Nat.reduceAdd, Nat.reduceLeDiff, reduceCtorEq, Nat.reduceSub, Int.reduceEq, Int.reduceLT, Int.reduceLE, Int.reduceGT, Int.reduceGE, Int.reduceSub, Int.reduceAdd, Int.reduceMul, Int.reduceNe, Int.reduceNeg, Int.reduceToNat, Nat.reduceMul, t5, t6, t7, c1, hne, hbb, e2, e3, d1, d2, Fin, isEnd, resL, res1, iE, rE]
            first | exact ⟨_, rfl, rfl, hh⟩ | exact ⟨_, rfl, rfl, fun k hk => by simp only [ne_nb hk, if_false]; exact hh k hk⟩
        · have d1 := tr l1 q1
          simp only [↓R0, R1, rdL, rdH, isCall, istep, ibin, vcells, fillI, setR, flat, okCell, isBase, List.set, List.drop, List.take, List.append, bnds, bhi, blo, srcOf, ↓reduceIte, Nat.reduceEqDiff, Nat.reduceAdd, Nat.reduceLeDiff, reduceCtorEq, Nat.reduceSub, Int.reduceEq, Int.reduceLT, Int.reduceLE, Int.reduceGT, Int.reduceGE, Int.reduceSub, Int.reduceAdd, Int.reduceMul, Int.reduceNe, Int.reduceNeg, Int.reduceToNat, Nat.reduceMul, t5, t6, t7, c1, hne, hbb, e2, e3, d1, Fin, isEnd, resL, res1, iE, rE]
          first | exact ⟨_, rfl, rfl, hh⟩ | exact ⟨_, rfl, rfl, fun k hk => by simp only [ne_nb hk, if_false]; exact hh k hk⟩
    · have ei : i = len := by omega
      subst ei
      rw [if_pos hall]
      simp only [↓R0, R1, rdL, rdH, isCall, istep, ibin, vcells, fillI, setR, flat, okCell, isBase, List.set, List.drop, List.take, List.append, bnds, bhi, blo, srcOf, ↓reduceIte, Nat.reduceEqDiff, Nat.reduceAdd, Nat.reduceLeDiff, reduceCtorEq, Nat.reduceSub, Int.reduceEq, Int.reduceLT, Int.reduceLE, Int.reduceGT, Int.reduceGE, Int.reduceSub, Int.reduceAdd, Int.reduceMul, Int.reduceNe, Int.reduceNeg, Int.reduceToNat, Nat.reduceMul, t5, t6, t7, c1, Fin, isEnd, resL, res1, iE, rE]
      first | exact ⟨_, rfl, rfl, hh⟩ | exact ⟨_, rfl, rfl, fun k hk => by simp only [ne_nb hk, if_false]; exact hh k hk⟩
  · (first | (simp only [↓R0, R1, rdL, rdH, isCall, istep, ibin, vcells, fillI, setR, flat, okCell, isBase, List.set, List.drop, List.take, List.append, bnds, bhi, blo, srcOf, ↓reduceIte, Nat.reduceEqDiff, Nat.reduceAdd, Nat.reduceLeDiff, reduceCtorEq, Nat.reduceSub, Int.reduceEq, Int.reduceLT, Int.reduceLE, Int.reduceGT, Int.reduceGE, Int.reduceSub, Int.reduceAdd, Int.reduceMul, Int.reduceNe, Int.reduceNeg, Int.reduceToNat, Nat.reduceMul]; done) | (simp only [↓R0, R1, rdL, rdH, isCall, istep, ibin, vcells, fillI, setR, flat, okCell, isBase, List.set, List.drop, List.take, List.append, bnds, bhi, blo, srcOf, ↓reduceIte, Nat.reduceEqDiff, Nat.reduceAdd, Nat.reduceLeDiff, reduceCtorEq, Nat.reduceSub, Int.reduceEq, Int.reduceLT, Int.reduceLE, Int.reduceGT, Int.reduceGE, Int.reduceSub, Int.reduceAdd, Int.reduceMul, Int.reduceNe, Int.reduceNeg, Int.reduceToNat, Nat.reduceMul]; rfl) | rfl)
  · (first | (simp only [↓R0, R1, rdL, rdH, isCall, istep, ibin, vcells, fillI, setR, flat, okCell, isBase, List.set, List.drop, List.take, List.append, bnds, bhi, blo, srcOf, ↓reduceIte, Nat.reduceEqDiff, Nat.reduceAdd, Nat.reduceLeDiff, reduceCtorEq, Nat.reduceSub, Int.reduceEq, Int.reduceLT, Int.reduceLE, Int.reduceGT, Int.reduceGE, Int.reduceSub, Int.reduceAdd, Int.reduceMul, Int.reduceNe, Int.reduceNeg, Int.reduceToNat, Nat.reduceMul]; done) | (simp only [↓R0, R1, rdL, rdH, isCall, istep, ibin, vcells, fillI, setR, flat, okCell, isBase, List.set, List.drop, List.take, List.append, bnds, bhi, blo, srcOf, ↓reduceIte, Nat.reduceEqDiff, Nat.reduceAdd, Nat.reduceLeDiff, reduceCtorEq, Nat.reduceSub, Int.reduceEq, Int.reduceLT, Int.reduceLE, Int.reduceGT, Int.reduceGE, Int.reduceSub, Int.reduceAdd, Int.reduceMul, Int.reduceNe, Int.reduceNeg, Int.reduceToNat, Nat.reduceMul]; rfl) | rfl)
  · (first | (simp only [↓R0, R1, rdL, rdH, isCall, istep, ibin, vcells, fillI, setR, flat, okCell, isBase, List.set, List.drop, List.take, List.append, bnds, bhi, blo, srcOf, ↓reduceIte, Nat.reduceEqDiff, Nat.reduceAdd, Nat.reduceLeDiff, reduceCtorEq, Nat.reduceSub, Int.reduceEq, Int.reduceLT, Int.reduceLE, Int.reduceGT, Int.reduceGE, Int.reduceSub, Int.reduceAdd, Int.reduceMul, Int.reduceNe, Int.reduceNeg, Int.reduceToNat, Nat.reduceMul]; done) | (simp only [↓R0, R1, rdL, rdH, isCall, istep, ibin, vcells, fillI, setR, flat, okCell, isBase, List.set, List.drop, List.take, List.append, bnds, bhi, blo, srcOf, ↓reduceIte, Nat.reduceEqDiff, Nat.reduceAdd, Nat.reduceLeDiff, reduceCtorEq, Nat.reduceSub, Int.reduceEq, Int.reduceLT, Int.reduceLE, Int.reduceGT, Int.reduceGE, Int.reduceSub, Int.reduceAdd, Int.reduceMul, Int.reduceNe, Int.reduceNeg, Int.reduceToNat, Nat.reduceMul]; rfl) | rfl)
end Go.Eng
end
section
set_option linter.unusedVariables false
set_option linter.unusedSimpArgs false
set_option linter.unusedSectionVars false
set_option maxRecDepth 20000
namespace Go.Eng
open Go Go.Proofs Go.IntWalk
def cP (a b c d : Int) : List Value := [.bool (decide (a < 0)), .string ⟨⟨bl a.natAbs⟩⟩, .bool (decide (b < 0)), .string ⟨⟨bl b.natAbs⟩⟩, .bool (decide (c < 0)), .string ⟨⟨bl c.natAbs⟩⟩, .bool (decide (d < 0)), .string ⟨⟨bl d.natAbs⟩⟩]
structure PtOK (a b c d : Int) (k : Nat) : Prop where
  l1 : (bl a.natAbs).length ≤ k
  l2 : (bl b.natAbs).length ≤ k
  l3 : (bl c.natAbs).length ≤ k
  l4 : (bl d.natAbs).length ≤ k
  pos : 0 < d
theorem pE_can {x y z w : Int} {k : Nat} (h1 : (bl x.natAbs).length ≤ k) (h2 : (bl y.natAbs).length ≤ k) (h3 : (bl z.natAbs).length ≤ k) (h4 : (bl w.natAbs).length ≤ k) (hk : 1 ≤ k) :
    ∃ a b c d, pE x y z w = cP a b c d ∧ PtOK a b c d k :=
  ⟨_, _, _, _, rfl, pQ_len h1, pQ_len h2, pQ_len h3, pQ_len (pW_len h4 hk), pQ_pos ..⟩
theorem r4Norm_can {s1 l1 s2 l2 s3 l3 s4 l4} (h1 : List.length l1 ≤ 6) (h2 : List.length l2 ≤ 6) (h3 : List.length l3 ≤ 6) (h4 : List.length l4 ≤ 6) :
    ∃ a b c d, spR4Norm [.agg ⟨[.bool s1, .string ⟨⟨l1⟩⟩, .bool s2, .string ⟨⟨l2⟩⟩, .bool s3, .string ⟨⟨l3⟩⟩, .bool s4, .string ⟨⟨l4⟩⟩]⟩] = some (.agg ⟨cP a b c d⟩) ∧ PtOK a b c d 6 := by
  obtain ⟨a, b, c, d, e, h⟩ := pE_can (len_sv (s := s1) h1) (len_sv (s := s2) h2) (len_sv (s := s3) h3) (len_sv (s := s4) h4) (by omega)
  refine ⟨a, b, c, d, ?_, h⟩
  unfold spR4Norm
  simp only
  rw [if_pos ⟨by omega, by omega, by omega, by omega⟩, e]
theorem orient_at {a1 a2 a3 a4 b1 b2 b3 b4 c1 c2 c3 c4 d1 d2 d3 d4 : Int} {k : Nat} (ha : PtOK a1 a2 a3 a4 k) (hb : PtOK b1 b2 b3 b4 k) (hc : PtOK c1 c2 c3 c4 k) (hd : PtOK d1 d2 d3 d4 k) (hk : k ≤ 67108864) :
    spXOrient [.agg ⟨cP a1 a2 a3 a4⟩, .agg ⟨cP b1 b2 b3 b4⟩, .agg ⟨cP c1 c2 c3 c4⟩, .agg ⟨cP d1 d2 d3 d4⟩] = some (.int .i64 (dt4 a1 a2 a3 a4 b1 b2 b3 b4 c1 c2 c3 c4 d1 d2 d3 d4).sign) := by
  unfold spXOrient cP
  simp only [sv_can]
  have hn : a4 ≠ 0 := by have := ha.pos; omega
  have t := fun {n : Nat} (h : n ≤ k) => Nat.le_trans h hk
  rw [if_pos ⟨⟨t ha.l1, t ha.l2, t ha.l3, t ha.l4, t hb.l1, t hb.l2, t hb.l3, t hb.l4, t hc.l1, t hc.l2, t hc.l3, t hc.l4, t hd.l1, t hd.l2, t hd.l3, t hd.l4⟩, hn⟩]
theorem collin_at {a1 a2 a3 a4 b1 b2 b3 b4 c1 c2 c3 c4 : Int} {k : Nat} (ha : PtOK a1 a2 a3 a4 k) (hb : PtOK b1 b2 b3 b4 k) (hc : PtOK c1 c2 c3 c4 k) (hk : k ≤ 67108864) :
    spXCollin [.agg ⟨cP a1 a2 a3 a4⟩, .agg ⟨cP b1 b2 b3 b4⟩, .agg ⟨cP c1 c2 c3 c4⟩] = some (.bool (decide (flt a1 a2 a3 a4 b1 b2 b3 b4 c1 c2 c3 c4))) := by
  unfold spXCollin cP
  simp only [sv_can]
  have hn : a4 ≠ 0 := by have := ha.pos; omega
  have t := fun {n : Nat} (h : n ≤ k) => Nat.le_trans h hk
  rw [if_pos ⟨⟨t ha.l1, t ha.l2, t ha.l3, t ha.l4, t hb.l1, t hb.l2, t hb.l3, t hb.l4, t hc.l1, t hc.l2, t hc.l3, t hc.l4⟩, hn⟩]
theorem sign_lo (z : Int) : ¬ (z.sign < -1) ∧ ¬ (1 < z.sign) ∧ -1 ≤ z.sign ∧ z.sign ≤ 1 := by
  rcases Int.lt_trichotomy z 0 with h | h | h
  · rw [Int.sign_eq_neg_one_of_neg h]; decide
  · rw [h]; decide
  · rw [Int.sign_eq_one_of_pos h]; decide
end Go.Eng
end
