/-
  A part of the proof: the machine, the contracts of the functions and the plain laws, merged from smaller texts.
-/
import Derived.Test.YtcmhlhgddifpeaaDoorIn5
import Derived.RowKit3
import Derived.ChangeSame
section
set_option linter.unusedVariables false
set_option linter.unusedSimpArgs false
set_option linter.unusedSectionVars false
set_option maxRecDepth 20000
namespace Go.Eng
open Go Go.Proofs Go.IntWalk
def spLnFlip : List Value → Option Value
  | [.agg ⟨[.bool s1, .string ⟨⟨l1⟩⟩, .bool s2, .string ⟨⟨l2⟩⟩, .bool s3, .string ⟨⟨l3⟩⟩, .bool s4, .string ⟨⟨l4⟩⟩]⟩] =>
    if l1.length ≤ 1099511627776 ∧ l2.length ≤ 1099511627776 ∧ l3.length ≤ 1099511627776 ∧ l4.length ≤ 1099511627776 then some (.agg ⟨cP (-sv s1 l1) (-sv s2 l2) (-sv s3 l3) (-sv s4 l4)⟩) else none
  | _ => none
def c13 : ICode :=
  (.seq (.reg [⟨(some 1), none, (.box 25 8 (.t 0))⟩, ⟨(some 2), none, (.alloc 25 8 [(.bool false), (.string ⟨⟨[]⟩⟩), (.bool false), (.string ⟨⟨[]⟩⟩), (.bool false), (.string ⟨⟨[]⟩⟩), (.bool false), (.string ⟨⟨[]⟩⟩)])⟩])
  (.seq (.reg [⟨(some 5), none, (.load true 8 (.t 1))⟩, ⟨(some 6), none, (.call 36 [(.t 5)])⟩, ⟨(some 3), none, (.alloc 64 8 [(.bool false), (.string ⟨⟨[]⟩⟩), (.bool false), (.string ⟨⟨[]⟩⟩), (.bool false), (.string ⟨⟨[]⟩⟩), (.bool false), (.string ⟨⟨[]⟩⟩)])⟩, ⟨none, none, (.store 8 (.t 3) (.t 6))⟩])
  (.seq (.seq (.reg [⟨(some 7), none, (.mv (.c (.int .i64 0)))⟩])
  (.block 0 (.loop (.seq (.reg [⟨(some 8), none, (.bin .lss (.t 7) (.c (.int .i64 4)))⟩])
  (.seq (.cond (.t 8)
  .skip
  (.exit 0))
  (.seq (.block 1 (.seq (.reg [⟨(some 9), none, (.mv (.t 7))⟩, ⟨(some 4), none, (.mv (.t 9))⟩])
  (.reg [⟨(some 10), none, (.mv (.t 4))⟩, ⟨(some 11), none, (.mv (.t 4))⟩, ⟨(some 12), none, (.ixarr 4 2 (.t 3) (.t 11))⟩, ⟨(some 13), none, (.load true 2 (.t 12))⟩, ⟨(some 14), none, (.call 37 [(.t 13)])⟩, ⟨(some 15), none, (.ixarr 4 2 (.t 3) (.t 10))⟩, ⟨none, none, (.store 2 (.t 15) (.t 14))⟩])))
  (.reg [⟨(some 16), none, (.bin .add (.t 7) (.c (.int .i64 1)))⟩, ⟨(some 7), none, (.mv (.t 16))⟩])))))))
  (.seq (.reg [⟨(some 17), none, (.load true 8 (.t 3))⟩, ⟨(some 18), none, (.call 38 [(.t 17)])⟩, ⟨none, none, (.store 8 (.t 2) (.t 18))⟩])
  .ret))))
theorem tr13 : trFun Tryd.prog 13 = some ⟨19, [.cell 2 true 8], c13⟩ := by kernel_rfl
theorem ok_lnFlip : SpecOK Tryd.prog 13 (flat spLnFlip) := by
  refine flat_run (env_cons ok_lnFour (env_cons ok_lnOf (env_cons ok_iNeg (env_nil _)))) mixed tr13 ?_
  intro args v h N hG
  unfold spLnFlip at hG
  split at hG
  case h_2 => cases hG
  rename_i s1 l1 s2 l2 s3 l3 s4 l4
  split at hG
  case isFalse => cases hG
  rename_i hl
  obtain ⟨h1, h2, h3, h4⟩ := hl
  cases hG
  refine ⟨rfl, by simp, ?_⟩
  have w1 : IntKind.i64.wrap 1 = 1 := i64_in _ (by omega)
  have w2 : IntKind.i64.wrap 2 = 2 := i64_in _ (by omega)
  have w3 : IntKind.i64.wrap 3 = 3 := i64_in _ (by omega)
  have w4 : IntKind.i64.wrap 4 = 4 := i64_in _ (by omega)
  simp only [c13, initT, List.zipIdx_cons, List.zipIdx_nil, List.map_cons, List.map_nil, Nat.reduceAdd]
  simp only [↓R0, R1, rdL, rdH, isCall, istep, ibin, vcells, fillI, setR, flat, okCell, isBase, List.set, List.drop, List.take, List.append, bnds, bhi, blo, srcOf, ↓reduceIte, Nat.reduceEqDiff, Nat.reduceAdd, Nat.reduceLeDiff, reduceCtorEq, Nat.reduceSub, Int.reduceEq, Int.reduceLT, Int.reduceLE, Int.reduceGT, Int.reduceGE, Int.reduceSub, Int.reduceAdd, Int.reduceMul, Int.reduceNe, Int.reduceNeg, Int.reduceToNat, Nat.reduceMul, spId8]
  refine lp_step ?_
  simp only [↓R0, R1, rdL, rdH, isCall, istep, ibin, vcells, fillI, setR, flat, okCell, isBase, List.set, List.drop, List.take, List.append, bnds, bhi, blo, srcOf, ↓reduceIte, Nat.reduceEqDiff, Nat.reduceAdd, Nat.reduceLeDiff, reduceCtorEq, Nat.reduceSub, Int.reduceEq, Int.reduceLT, Int.reduceLE, Int.reduceGT, Int.reduceGE, Int.reduceSub, Int.reduceAdd, Int.reduceMul, Int.reduceNe, Int.reduceNeg, Int.reduceToNat, Nat.reduceMul, spINeg, h1, h2, h3, h4, w1, w2, w3, w4, iE]
  refine lp_step ?_
  simp only [↓R0, R1, rdL, rdH, isCall, istep, ibin, vcells, fillI, setR, flat, okCell, isBase, List.set, List.drop, List.take, List.append, bnds, bhi, blo, srcOf, ↓reduceIte, Nat.reduceEqDiff, Nat.reduceAdd, Nat.reduceLeDiff, reduceCtorEq, Nat.reduceSub, Int.reduceEq, Int.reduceLT, Int.reduceLE, Int.reduceGT, Int.reduceGE, Int.reduceSub, Int.reduceAdd, Int.reduceMul, Int.reduceNe, Int.reduceNeg, Int.reduceToNat, Nat.reduceMul, spINeg, h1, h2, h3, h4, w1, w2, w3, w4, iE]
  refine lp_step ?_
  simp only [↓R0, R1, rdL, rdH, isCall, istep, ibin, vcells, fillI, setR, flat, okCell, isBase, List.set, List.drop, List.take, List.append, bnds, bhi, blo, srcOf, ↓reduceIte, Nat.reduceEqDiff, Nat.reduceAdd, Nat.reduceLeDiff, reduceCtorEq, Nat.reduceSub, Int.reduceEq, Int.reduceLT, Int.reduceLE, Int.reduceGT, Int.reduceGE, Int.reduceSub, Int.reduceAdd, Int.reduceMul, Int.reduceNe, Int.reduceNeg, Int.reduceToNat, Nat.reduceMul, spINeg, h1, h2, h3, h4, w1, w2, w3, w4, iE]
  refine lp_step ?_
  simp only [↓R0, R1, rdL, rdH, isCall, istep, ibin, vcells, fillI, setR, flat, okCell, isBase, List.set, List.drop, List.take, List.append, bnds, bhi, blo, srcOf, ↓reduceIte, Nat.reduceEqDiff, Nat.reduceAdd, Nat.reduceLeDiff, reduceCtorEq, Nat.reduceSub, Int.reduceEq, Int.reduceLT, Int.reduceLE, Int.reduceGT, Int.reduceGE, Int.reduceSub, Int.reduceAdd, Int.reduceMul, Int.reduceNe, Int.reduceNeg, Int.reduceToNat, Nat.reduceMul, spINeg, h1, h2, h3, h4, w1, w2, w3, w4, iE]
  refine lp_step ?_
  simp only [↓R0, R1, rdL, rdH, isCall, istep, ibin, vcells, fillI, setR, flat, okCell, isBase, List.set, List.drop, List.take, List.append, bnds, bhi, blo, srcOf, ↓reduceIte, Nat.reduceEqDiff, Nat.reduceAdd, Nat.reduceLeDiff, reduceCtorEq, Nat.reduceSub, Int.reduceEq, Int.reduceLT, Int.reduceLE, Int.reduceGT, Int.reduceGE, Int.reduceSub, Int.reduceAdd, Int.reduceMul, Int.reduceNe, Int.reduceNeg, Int.reduceToNat, Nat.reduceMul, spId8, cP, Fin, isEnd, resL, res1, iE, rE]
  exact ⟨_, rfl, rfl, fun k hk => by simp only [ne_nb hk, if_false]⟩
structure LnOK (a b c d : Int) (k : Nat) : Prop where
  l1 : (bl a.natAbs).length ≤ k
  l2 : (bl b.natAbs).length ≤ k
  l3 : (bl c.natAbs).length ≤ k
  l4 : (bl d.natAbs).length ≤ k
theorem lForm_can {s1 l1 s2 l2 s3 l3 s4 l4} (h1 : List.length l1 ≤ 6) (h2 : List.length l2 ≤ 6) (h3 : List.length l3 ≤ 6) (h4 : List.length l4 ≤ 6) (h : ¬ (sv s1 l1 = 0 ∧ sv s2 l2 = 0 ∧ sv s3 l3 = 0)) :
    ∃ a b c d, spLForm [.agg ⟨[.bool s1, .string ⟨⟨l1⟩⟩, .bool s2, .string ⟨⟨l2⟩⟩, .bool s3, .string ⟨⟨l3⟩⟩, .bool s4, .string ⟨⟨l4⟩⟩]⟩] = some (.agg ⟨cP a b c d⟩) ∧ LnOK a b c d 6 := by
  have q : ∀ {s : Bool} {l : List UInt8} (g : Int), l.length ≤ 6 → (bl (sv s l / g).natAbs).length ≤ 6 := fun g h =>
    Nat.le_trans (bl_length_mono (Int.natAbs_ediv_le_natAbs _ _)) (len_sv h)
  refine ⟨sv s1 l1 / (lG (sv s1 l1) (sv s2 l2) (sv s3 l3) (sv s4 l4) : Int), sv s2 l2 / (lG (sv s1 l1) (sv s2 l2) (sv s3 l3) (sv s4 l4) : Int), sv s3 l3 / (lG (sv s1 l1) (sv s2 l2) (sv s3 l3) (sv s4 l4) : Int), sv s4 l4 / (lG (sv s1 l1) (sv s2 l2) (sv s3 l3) (sv s4 l4) : Int), ?_, ⟨q _ h1, q _ h2, q _ h3, q _ h4⟩⟩
  unfold spLForm
  simp only
  rw [if_pos ⟨h1, h2, h3, h4, h⟩]
  rfl
theorem pE_lin {X Y Z W A B C D : Int} (hW : W ≠ 0) (h : A * X + B * Y + C * Z = D * W) :
    A * pQ X Y Z W X + B * pQ X Y Z W Y + C * pQ X Y Z W Z - D * pQ X Y Z W (pW W) = 0 := by
  have h1 := pQ_mul (pG_dvd_x X Y Z W)
  have h2 := pQ_mul (pG_dvd_y X Y Z W)
  have h3 := pQ_mul (pG_dvd_z X Y Z W)
  have h4 := pQ_mul (pG_dvd_w X Y Z W)
  have hg := pG_pos X Y Z W
  have hg' : (pG X Y Z W : Int) ≠ 0 := by omega
  have e : pW W = W := pW_of hW
  rw [e] at h1 h2 h3 h4 ⊢
  generalize (pG X Y Z W : Int) = g at *
  generalize pQ X Y Z W X = x at *
  generalize pQ X Y Z W Y = y at *
  generalize pQ X Y Z W Z = z at *
  generalize pQ X Y Z W W = w at *
  apply Int.eq_of_mul_eq_mul_right hg'
  by_cases c : W < 0
  · simp only [c, if_true] at h1 h2 h3 h4
    grind
  · simp only [c, if_false] at h1 h2 h3 h4
    grind
theorem three_at {A1 A2 A3 A4 B1 B2 B3 B4 C1 C2 C3 C4 : Int} (ha : LnOK A1 A2 A3 A4 6) (hb : LnOK B1 B2 B3 B4 6) (hc : LnOK C1 C2 C3 C4 6) :
    spXThree [.agg ⟨cP A1 A2 A3 A4⟩, .agg ⟨cP B1 B2 B3 B4⟩, .agg ⟨cP C1 C2 C3 C4⟩] =
      (if A1 * (B2 * C3 - B3 * C2) + A2 * (B3 * C1 - B1 * C3) + A3 * (B1 * C2 - B2 * C1) = 0 then some (.tuple ⟨[.agg ⟨pZ⟩, .bool false]⟩) else
        some (.tuple ⟨[.agg ⟨pE (A4 * (B2 * C3 - B3 * C2) + B4 * (C2 * A3 - C3 * A2) + C4 * (A2 * B3 - A3 * B2)) (A4 * (B3 * C1 - B1 * C3) + B4 * (C3 * A1 - C1 * A3) + C4 * (A3 * B1 - A1 * B3)) (A4 * (B1 * C2 - B2 * C1) + B4 * (C1 * A2 - C2 * A1) + C4 * (A1 * B2 - A2 * B1)) (A1 * (B2 * C3 - B3 * C2) + A2 * (B3 * C1 - B1 * C3) + A3 * (B1 * C2 - B2 * C1))⟩, .bool true]⟩)) := by
  unfold spXThree cP
  simp only [sv_can]
  have t := fun {n : Nat} (h : n ≤ 6) => (Nat.le_trans h (by omega) : n ≤ 2147483648)
  rw [if_pos ⟨t ha.l1, t ha.l2, t ha.l3, t ha.l4, t hb.l1, t hb.l2, t hb.l3, t hb.l4, t hc.l1, t hc.l2, t hc.l3, t hc.l4⟩]
theorem len2 {x y z w : Int} {i j : Nat} (hx : (bl x.natAbs).length ≤ i) (hy : (bl y.natAbs).length ≤ i) (hz : (bl z.natAbs).length ≤ i) (hw : (bl w.natAbs).length ≤ i) (h : 2 * i + 1 ≤ j) : (bl (x * y - z * w).natAbs).length ≤ j :=
  lsub (lmul (k := 2 * i) hx hy (by omega)) (lmul (k := 2 * i) hz hw (by omega)) (by omega)
theorem len3 {a b c x y z : Int} {i j k : Nat} (ha : (bl a.natAbs).length ≤ i) (hb : (bl b.natAbs).length ≤ i) (hc : (bl c.natAbs).length ≤ i) (hx : (bl x.natAbs).length ≤ j) (hy : (bl y.natAbs).length ≤ j) (hz : (bl z.natAbs).length ≤ j) (h : i + j + 2 ≤ k) :
    (bl (a * x + b * y + c * z).natAbs).length ≤ k :=
  ladd (ladd (k := i + j + 1) (lmul (k := i + j) ha hx (by omega)) (lmul (k := i + j) hb hy (by omega)) (by omega)) (lmul (k := i + j) hc hz (by omega)) (by omega)
theorem three_cases {A1 A2 A3 A4 B1 B2 B3 B4 C1 C2 C3 C4 : Int} (ha : LnOK A1 A2 A3 A4 6) (hb : LnOK B1 B2 B3 B4 6) (hc : LnOK C1 C2 C3 C4 6) :
    (spXThree [.agg ⟨cP A1 A2 A3 A4⟩, .agg ⟨cP B1 B2 B3 B4⟩, .agg ⟨cP C1 C2 C3 C4⟩] = some (.tuple ⟨[.agg ⟨pZ⟩, .bool false]⟩) ∧ spXThree [.agg ⟨cP C1 C2 C3 C4⟩, .agg ⟨cP A1 A2 A3 A4⟩, .agg ⟨cP B1 B2 B3 B4⟩] = some (.tuple ⟨[.agg ⟨pZ⟩, .bool false]⟩)) ∨
    ∃ x y z w, spXThree [.agg ⟨cP A1 A2 A3 A4⟩, .agg ⟨cP B1 B2 B3 B4⟩, .agg ⟨cP C1 C2 C3 C4⟩] = some (.tuple ⟨[.agg ⟨cP x y z w⟩, .bool true]⟩) ∧ spXThree [.agg ⟨cP C1 C2 C3 C4⟩, .agg ⟨cP A1 A2 A3 A4⟩, .agg ⟨cP B1 B2 B3 B4⟩] = some (.tuple ⟨[.agg ⟨cP x y z w⟩, .bool true]⟩) ∧ PtOK x y z w 64 ∧
      A1 * x + A2 * y + A3 * z - A4 * w = 0 ∧ B1 * x + B2 * y + B3 * z - B4 * w = 0 ∧ C1 * x + C2 * y + C3 * z - C4 * w = 0 := by
  rw [three_at ha hb hc, three_at hc ha hb]
  have e1 : C1 * (A2 * B3 - A3 * B2) + C2 * (A3 * B1 - A1 * B3) + C3 * (A1 * B2 - A2 * B1) = A1 * (B2 * C3 - B3 * C2) + A2 * (B3 * C1 - B1 * C3) + A3 * (B1 * C2 - B2 * C1) := by grind
  have e2 : C4 * (A2 * B3 - A3 * B2) + A4 * (B2 * C3 - B3 * C2) + B4 * (C2 * A3 - C3 * A2) = A4 * (B2 * C3 - B3 * C2) + B4 * (C2 * A3 - C3 * A2) + C4 * (A2 * B3 - A3 * B2) := by grind
  have e3 : C4 * (A3 * B1 - A1 * B3) + A4 * (B3 * C1 - B1 * C3) + B4 * (C3 * A1 - C1 * A3) = A4 * (B3 * C1 - B1 * C3) + B4 * (C3 * A1 - C1 * A3) + C4 * (A3 * B1 - A1 * B3) := by grind
  have e4 : C4 * (A1 * B2 - A2 * B1) + A4 * (B1 * C2 - B2 * C1) + B4 * (C1 * A2 - C2 * A1) = A4 * (B1 * C2 - B2 * C1) + B4 * (C1 * A2 - C2 * A1) + C4 * (A1 * B2 - A2 * B1) := by grind
  rw [e1, e2, e3, e4]
  clear e1 e2 e3 e4
  have hd : (bl (A1 * (B2 * C3 - B3 * C2) + A2 * (B3 * C1 - B1 * C3) + A3 * (B1 * C2 - B2 * C1)).natAbs).length ≤ 64 :=
    len3 (j := 13) ha.l1 ha.l2 ha.l3 (len2 hb.l2 hc.l3 hb.l3 hc.l2 (by omega)) (len2 hb.l3 hc.l1 hb.l1 hc.l3 (by omega)) (len2 hb.l1 hc.l2 hb.l2 hc.l1 (by omega)) (by omega)
  have hx : (bl (A4 * (B2 * C3 - B3 * C2) + B4 * (C2 * A3 - C3 * A2) + C4 * (A2 * B3 - A3 * B2)).natAbs).length ≤ 64 :=
    len3 (j := 13) ha.l4 hb.l4 hc.l4 (len2 hb.l2 hc.l3 hb.l3 hc.l2 (by omega)) (len2 hc.l2 ha.l3 hc.l3 ha.l2 (by omega)) (len2 ha.l2 hb.l3 ha.l3 hb.l2 (by omega)) (by omega)
  have hy : (bl (A4 * (B3 * C1 - B1 * C3) + B4 * (C3 * A1 - C1 * A3) + C4 * (A3 * B1 - A1 * B3)).natAbs).length ≤ 64 :=
    len3 (j := 13) ha.l4 hb.l4 hc.l4 (len2 hb.l3 hc.l1 hb.l1 hc.l3 (by omega)) (len2 hc.l3 ha.l1 hc.l1 ha.l3 (by omega)) (len2 ha.l3 hb.l1 ha.l1 hb.l3 (by omega)) (by omega)
  have hz : (bl (A4 * (B1 * C2 - B2 * C1) + B4 * (C1 * A2 - C2 * A1) + C4 * (A1 * B2 - A2 * B1)).natAbs).length ≤ 64 :=
    len3 (j := 13) ha.l4 hb.l4 hc.l4 (len2 hb.l1 hc.l2 hb.l2 hc.l1 (by omega)) (len2 hc.l1 ha.l2 hc.l2 ha.l1 (by omega)) (len2 ha.l1 hb.l2 ha.l2 hb.l1 (by omega)) (by omega)
  have i1 : A1 * (A4 * (B2 * C3 - B3 * C2) + B4 * (C2 * A3 - C3 * A2) + C4 * (A2 * B3 - A3 * B2)) + A2 * (A4 * (B3 * C1 - B1 * C3) + B4 * (C3 * A1 - C1 * A3) + C4 * (A3 * B1 - A1 * B3)) + A3 * (A4 * (B1 * C2 - B2 * C1) + B4 * (C1 * A2 - C2 * A1) + C4 * (A1 * B2 - A2 * B1)) = A4 * (A1 * (B2 * C3 - B3 * C2) + A2 * (B3 * C1 - B1 * C3) + A3 * (B1 * C2 - B2 * C1)) := by grind
  have i2 : B1 * (A4 * (B2 * C3 - B3 * C2) + B4 * (C2 * A3 - C3 * A2) + C4 * (A2 * B3 - A3 * B2)) + B2 * (A4 * (B3 * C1 - B1 * C3) + B4 * (C3 * A1 - C1 * A3) + C4 * (A3 * B1 - A1 * B3)) + B3 * (A4 * (B1 * C2 - B2 * C1) + B4 * (C1 * A2 - C2 * A1) + C4 * (A1 * B2 - A2 * B1)) = B4 * (A1 * (B2 * C3 - B3 * C2) + A2 * (B3 * C1 - B1 * C3) + A3 * (B1 * C2 - B2 * C1)) := by grind
  have i3 : C1 * (A4 * (B2 * C3 - B3 * C2) + B4 * (C2 * A3 - C3 * A2) + C4 * (A2 * B3 - A3 * B2)) + C2 * (A4 * (B3 * C1 - B1 * C3) + B4 * (C3 * A1 - C1 * A3) + C4 * (A3 * B1 - A1 * B3)) + C3 * (A4 * (B1 * C2 - B2 * C1) + B4 * (C1 * A2 - C2 * A1) + C4 * (A1 * B2 - A2 * B1)) = C4 * (A1 * (B2 * C3 - B3 * C2) + A2 * (B3 * C1 - B1 * C3) + A3 * (B1 * C2 - B2 * C1)) := by grind
  generalize A1 * (B2 * C3 - B3 * C2) + A2 * (B3 * C1 - B1 * C3) + A3 * (B1 * C2 - B2 * C1) = W at *
  generalize A4 * (B2 * C3 - B3 * C2) + B4 * (C2 * A3 - C3 * A2) + C4 * (A2 * B3 - A3 * B2) = X at *
  generalize A4 * (B3 * C1 - B1 * C3) + B4 * (C3 * A1 - C1 * A3) + C4 * (A3 * B1 - A1 * B3) = Y at *
  generalize A4 * (B1 * C2 - B2 * C1) + B4 * (C1 * A2 - C2 * A1) + C4 * (A1 * B2 - A2 * B1) = Z at *
  by_cases h0 : W = 0
  · left; simp only [h0, if_true]; exact ⟨trivial, trivial⟩
  · right
    refine ⟨pQ X Y Z W X, pQ X Y Z W Y, pQ X Y Z W Z, pQ X Y Z W (pW W), ?_, ?_, ⟨pQ_len hx, pQ_len hy, pQ_len hz, pQ_len (pW_len hd (by omega)), pQ_pos ..⟩, pE_lin h0 i1, pE_lin h0 i2, pE_lin h0 i3⟩
    · rw [if_neg h0]; rfl
    · rw [if_neg h0]; rfl
theorem side_at {A B C D x y z w : Int} (h : LnOK A B C D 64) (hp : PtOK x y z w 64) :
    spLnSide [.agg ⟨cP A B C D⟩, .agg ⟨cP x y z w⟩] = some (.int .i64 (A * x + B * y + C * z - D * w).sign) := by
  unfold spLnSide cP
  simp only [sv_can]
  have t := fun {n : Nat} (h : n ≤ 64) => (Nat.le_trans h (by omega) : n ≤ 4294967296)
  rw [if_pos ⟨t h.l1, t h.l2, t h.l3, t h.l4, t hp.l1, t hp.l2, t hp.l3, t hp.l4⟩]
theorem flip_at {A B C D : Int} (h : LnOK A B C D 6) : spLnFlip [.agg ⟨cP A B C D⟩] = some (.agg ⟨cP (-A) (-B) (-C) (-D)⟩) := by
  unfold spLnFlip
  rw [show cP A B C D = [.bool (decide (A < 0)), .string ⟨⟨bl A.natAbs⟩⟩, .bool (decide (B < 0)), .string ⟨⟨bl B.natAbs⟩⟩, .bool (decide (C < 0)), .string ⟨⟨bl C.natAbs⟩⟩, .bool (decide (D < 0)), .string ⟨⟨bl D.natAbs⟩⟩] from rfl]
  simp only [sv_can]
  have t := fun {n : Nat} (h : n ≤ 6) => (Nat.le_trans h (by omega) : n ≤ 1099511627776)
  rw [if_pos ⟨t h.l1, t h.l2, t h.l3, t h.l4⟩]
theorem LnOK.neg {A B C D : Int} {k : Nat} (h : LnOK A B C D k) : LnOK (-A) (-B) (-C) (-D) k :=
  ⟨by rw [Int.natAbs_neg]; exact h.l1, by rw [Int.natAbs_neg]; exact h.l2, by rw [Int.natAbs_neg]; exact h.l3, by rw [Int.natAbs_neg]; exact h.l4⟩
theorem LnOK.le {A B C D : Int} {i k : Nat} (h : LnOK A B C D i) (hk : i ≤ k) : LnOK A B C D k :=
  ⟨Nat.le_trans h.l1 hk, Nat.le_trans h.l2 hk, Nat.le_trans h.l3 hk, Nat.le_trans h.l4 hk⟩
theorem PtOK.le {A B C D : Int} {i k : Nat} (h : PtOK A B C D i) (hk : i ≤ k) : PtOK A B C D k :=
  ⟨Nat.le_trans h.l1 hk, Nat.le_trans h.l2 hk, Nat.le_trans h.l3 hk, Nat.le_trans h.l4 hk, h.pos⟩
theorem cP_inj {a b c d a' b' c' d' : Int} (h : cP a b c d = cP a' b' c' d') : a = a' ∧ b = b' ∧ c = c' ∧ d = d' := by
  unfold cP at h
  simp only [List.cons.injEq, Value.bool.injEq, Value.string.injEq, and_true] at h
  obtain ⟨s1, l1, s2, l2, s3, l3, s4, l4⟩ := h
  injection l1 with l1; injection l1 with l1
  injection l2 with l2; injection l2 with l2
  injection l3 with l3; injection l3 with l3
  injection l4 with l4; injection l4 with l4
  refine ⟨?_, ?_, ?_, ?_⟩
  · rw [← sv_can a, ← sv_can a', s1, l1]
  · rw [← sv_can b, ← sv_can b', s2, l2]
  · rw [← sv_can c, ← sv_can c', s3, l3]
  · rw [← sv_can d, ← sv_can d', s4, l4]
theorem line_at' {A1 A2 A3 A4 a1 a2 a3 a4 b1 b2 b3 b4 : Int} (hA : LnOK A1 A2 A3 A4 6) (ha : PtOK a1 a2 a3 a4 6) (hb : PtOK b1 b2 b3 b4 6) :
    spXLine [.agg ⟨cP A1 A2 A3 A4⟩, .agg ⟨cP a1 a2 a3 a4⟩, .agg ⟨cP b1 b2 b3 b4⟩] =
      (if a4 * (A1 * b1 + A2 * b2 + A3 * b3 - A4 * b4) - b4 * (A1 * a1 + A2 * a2 + A3 * a3 - A4 * a4) = 0 then some (.tuple ⟨[.agg ⟨pZ⟩, .bool false]⟩) else
      some (.tuple ⟨[.agg ⟨pE (a1 * (A1 * b1 + A2 * b2 + A3 * b3 - A4 * b4) - b1 * (A1 * a1 + A2 * a2 + A3 * a3 - A4 * a4)) (a2 * (A1 * b1 + A2 * b2 + A3 * b3 - A4 * b4) - b2 * (A1 * a1 + A2 * a2 + A3 * a3 - A4 * a4)) (a3 * (A1 * b1 + A2 * b2 + A3 * b3 - A4 * b4) - b3 * (A1 * a1 + A2 * a2 + A3 * a3 - A4 * a4)) (a4 * (A1 * b1 + A2 * b2 + A3 * b3 - A4 * b4) - b4 * (A1 * a1 + A2 * a2 + A3 * a3 - A4 * a4))⟩, .bool true]⟩)) := by
  unfold spXLine cP
  simp only [sv_can]
  have t := fun {n : Nat} (h : n ≤ 6) => (Nat.le_trans h (by omega) : n ≤ 2147483648)
  rw [if_pos ⟨t hA.l1, t hA.l2, t hA.l3, t hA.l4, t ha.l1, t ha.l2, t ha.l3, t ha.l4, t hb.l1, t hb.l2, t hb.l3, t hb.l4⟩]
  by_cases c : decide (a1 < 0) = decide (b1 < 0) ∧ bl a1.natAbs = bl b1.natAbs ∧ decide (a2 < 0) = decide (b2 < 0) ∧ bl a2.natAbs = bl b2.natAbs ∧ decide (a3 < 0) = decide (b3 < 0) ∧ bl a3.natAbs = bl b3.natAbs ∧ decide (a4 < 0) = decide (b4 < 0) ∧ bl a4.natAbs = bl b4.natAbs
  · rw [if_pos c]
    obtain ⟨d1, e1, d2, e2, d3, e3, d4, e4⟩ := c
    have h1 : a1 = b1 := by rw [← sv_can a1, ← sv_can b1, d1, e1]
    have h2 : a2 = b2 := by rw [← sv_can a2, ← sv_can b2, d2, e2]
    have h3 : a3 = b3 := by rw [← sv_can a3, ← sv_can b3, d3, e3]
    have h4 : a4 = b4 := by rw [← sv_can a4, ← sv_can b4, d4, e4]
    rw [if_pos (by rw [h1, h2, h3, h4]; omega)]
  · rw [if_neg c]
theorem line_cases {A1 A2 A3 A4 a1 a2 a3 a4 b1 b2 b3 b4 : Int} (hA : LnOK A1 A2 A3 A4 6) (ha : PtOK a1 a2 a3 a4 6) (hb : PtOK b1 b2 b3 b4 6) :
    (spXLine [.agg ⟨cP A1 A2 A3 A4⟩, .agg ⟨cP a1 a2 a3 a4⟩, .agg ⟨cP b1 b2 b3 b4⟩] = some (.tuple ⟨[.agg ⟨pZ⟩, .bool false]⟩) ∧ (A1 * a1 + A2 * a2 + A3 * a3 - A4 * a4).sign = (A1 * b1 + A2 * b2 + A3 * b3 - A4 * b4).sign) ∨
    ∃ x y z w, spXLine [.agg ⟨cP A1 A2 A3 A4⟩, .agg ⟨cP a1 a2 a3 a4⟩, .agg ⟨cP b1 b2 b3 b4⟩] = some (.tuple ⟨[.agg ⟨cP x y z w⟩, .bool true]⟩) ∧ spXLine [.agg ⟨cP (-A1) (-A2) (-A3) (-A4)⟩, .agg ⟨cP b1 b2 b3 b4⟩, .agg ⟨cP a1 a2 a3 a4⟩] = some (.tuple ⟨[.agg ⟨cP x y z w⟩, .bool true]⟩) ∧ PtOK x y z w 64 ∧
      A1 * x + A2 * y + A3 * z - A4 * w = 0 ∧ flt a1 a2 a3 a4 b1 b2 b3 b4 x y z w := by
  rw [line_at' hA ha hb, line_at' hA.neg hb ha]
  have eS : -A1 * a1 + -A2 * a2 + -A3 * a3 - -A4 * a4 = -(A1 * a1 + A2 * a2 + A3 * a3 - A4 * a4) := by grind
  have eT : -A1 * b1 + -A2 * b2 + -A3 * b3 - -A4 * b4 = -(A1 * b1 + A2 * b2 + A3 * b3 - A4 * b4) := by grind
  rw [eS, eT]
  clear eS eT
  have lS : (bl (A1 * a1 + A2 * a2 + A3 * a3 - A4 * a4).natAbs).length ≤ 15 :=
    lsub (len3 (k := 14) hA.l1 hA.l2 hA.l3 ha.l1 ha.l2 ha.l3 (by omega)) (lmul (k := 12) hA.l4 ha.l4 (by omega)) (by omega)
  have lT : (bl (A1 * b1 + A2 * b2 + A3 * b3 - A4 * b4).natAbs).length ≤ 15 :=
    lsub (len3 (k := 14) hA.l1 hA.l2 hA.l3 hb.l1 hb.l2 hb.l3 (by omega)) (lmul (k := 12) hA.l4 hb.l4 (by omega)) (by omega)
  obtain ⟨S, hS⟩ : ∃ S, A1 * a1 + A2 * a2 + A3 * a3 - A4 * a4 = S := ⟨_, rfl⟩
  obtain ⟨T, hT⟩ : ∃ T, A1 * b1 + A2 * b2 + A3 * b3 - A4 * b4 = T := ⟨_, rfl⟩
  rw [hS, hT]
  rw [hS] at lS; rw [hT] at lT
  have sw : ∀ u v : Int, v * -S - u * -T = u * T - v * S := fun u v => by grind
  rw [sw, sw, sw, sw]
  clear sw
  have pa := ha.pos
  have pb := hb.pos
  by_cases h0 : a4 * T - b4 * S = 0
  · left
    rw [if_pos h0]
    refine ⟨rfl, ?_⟩
    have e : a4 * T = b4 * S := by omega
    have e2 : (a4 * T).sign = (b4 * S).sign := by rw [e]
    rw [Int.sign_mul, Int.sign_mul, Int.sign_eq_one_of_pos pa, Int.sign_eq_one_of_pos pb, Int.one_mul, Int.one_mul] at e2
    exact e2.symm
  · right
    rw [if_neg h0]
    have lx : ∀ {u v : Int}, (bl u.natAbs).length ≤ 6 → (bl v.natAbs).length ≤ 6 → (bl (u * T - v * S).natAbs).length ≤ 64 := fun hu hv =>
      lsub (lmul (k := 21) hu lT (by omega)) (lmul (k := 21) hv lS (by omega)) (by omega)
    have m1 := lx ha.l1 hb.l1
    have m2 := lx ha.l2 hb.l2
    have m3 := lx ha.l3 hb.l3
    have m4 := lx ha.l4 hb.l4
    clear lx
    have i0 : A1 * (a1 * T - b1 * S) + A2 * (a2 * T - b2 * S) + A3 * (a3 * T - b3 * S) = A4 * (a4 * T - b4 * S) := by grind
    have f1 : 0 * (a1 * T - b1 * S) + (a3 * b4 - a4 * b3) * (a2 * T - b2 * S) + (a4 * b2 - a2 * b4) * (a3 * T - b3 * S) = -(a2 * b3 - a3 * b2) * (a4 * T - b4 * S) := by grind
    have f2 : (a4 * b3 - a3 * b4) * (a1 * T - b1 * S) + 0 * (a2 * T - b2 * S) + (a1 * b4 - a4 * b1) * (a3 * T - b3 * S) = -(a3 * b1 - a1 * b3) * (a4 * T - b4 * S) := by grind
    have f3 : (a2 * b4 - a4 * b2) * (a1 * T - b1 * S) + (a4 * b1 - a1 * b4) * (a2 * T - b2 * S) + 0 * (a3 * T - b3 * S) = -(a1 * b2 - a2 * b1) * (a4 * T - b4 * S) := by grind
    generalize a1 * T - b1 * S = X at *
    generalize a2 * T - b2 * S = Y at *
    generalize a3 * T - b3 * S = Z at *
    generalize a4 * T - b4 * S = W at *
    have g1 := pE_lin h0 f1
    have g2 := pE_lin h0 f2
    have g3 := pE_lin h0 f3
    refine ⟨pQ X Y Z W X, pQ X Y Z W Y, pQ X Y Z W Z, pQ X Y Z W (pW W), rfl, ?_, ⟨pQ_len m1, pQ_len m2, pQ_len m3, pQ_len (pW_len m4 (by omega)), pQ_pos ..⟩, pE_lin h0 i0, ?_⟩
    · rfl
    · unfold flt dt3
      generalize pQ X Y Z W X = x at *
      generalize pQ X Y Z W Y = y at *
      generalize pQ X Y Z W Z = z at *
      generalize pQ X Y Z W (pW W) = w at *
      clear i0 f1 f2 f3 hS hT
      refine ⟨?_, ?_, ?_⟩
      · grind
      · grind
      · grind
end Go.Eng
end
section
set_option linter.unusedVariables false
set_option linter.unusedSimpArgs false
set_option linter.unusedSectionVars false
set_option maxRecDepth 20000
namespace Go.Eng
open Go Go.Proofs Go.IntWalk
def spLInc : List Value → Option Value
  | [.agg ⟨[.bool sa1, .string ⟨⟨la1⟩⟩, .bool sa2, .string ⟨⟨la2⟩⟩, .bool sa3, .string ⟨⟨la3⟩⟩, .bool sa4, .string ⟨⟨la4⟩⟩, .bool sb1, .string ⟨⟨lb1⟩⟩, .bool sb2, .string ⟨⟨lb2⟩⟩, .bool sb3, .string ⟨⟨lb3⟩⟩, .bool sb4, .string ⟨⟨lb4⟩⟩, .bool sc1, .string ⟨⟨lc1⟩⟩, .bool sc2, .string ⟨⟨lc2⟩⟩, .bool sc3, .string ⟨⟨lc3⟩⟩, .bool sc4, .string ⟨⟨lc4⟩⟩]⟩, .agg ⟨[.bool t1, .string ⟨⟨m1⟩⟩, .bool t2, .string ⟨⟨m2⟩⟩, .bool t3, .string ⟨⟨m3⟩⟩, .bool t4, .string ⟨⟨m4⟩⟩]⟩, .agg ⟨[.bool u1, .string ⟨⟨o1⟩⟩, .bool u2, .string ⟨⟨o2⟩⟩, .bool u3, .string ⟨⟨o3⟩⟩, .bool u4, .string ⟨⟨o4⟩⟩]⟩] => some (.bool true)
  | _ => none
def c3 : ICode :=
  (.seq (.reg [⟨(some 3), none, (.box 26 24 (.t 0))⟩, ⟨(some 4), none, (.box 28 8 (.t 1))⟩, ⟨(some 5), none, (.box 28 8 (.t 2))⟩, ⟨(some 6), none, (.mv (.c (.bool false)))⟩])
  (.seq (.seq (.dreg [⟨(some 18), none, [], (.ixarr 3 8 (.t 3) (.c (.int .i64 0)))⟩, ⟨(some 19), none, [], (.load true 8 (.t 18))⟩, ⟨(some 20), none, [], (.call 5 [(.t 19)])⟩, ⟨(some 21), none, [], (.ixarr 3 8 (.t 3) (.c (.int .i64 1)))⟩, ⟨(some 22), none, [2], (.load true 8 (.t 21))⟩, ⟨(some 23), none, [], (.call 5 [(.t 22)])⟩, ⟨(some 24), none, [], (.bin .add (.t 20) (.t 23))⟩, ⟨(some 25), none, [], (.ixarr 3 8 (.t 3) (.c (.int .i64 2)))⟩, ⟨(some 26), none, [2, 5], (.load true 8 (.t 25))⟩, ⟨(some 27), none, [], (.call 5 [(.t 26)])⟩, ⟨(some 28), none, [], (.bin .add (.t 24) (.t 27))⟩, ⟨(some 29), none, [], (.bin .gtr (.t 28) (.c (.int .i64 0)))⟩, ⟨(some 30), none, [], (.mv (.t 29))⟩, ⟨(some 31), (some (30, false)), [], (.load true 8 (.t 4))⟩, ⟨(some 32), (some (30, false)), [], (.load true 8 (.t 5))⟩, ⟨(some 33), (some (30, false)), [], (.bslice 28 8 2 [(.bool false), (.string ⟨⟨[]⟩⟩), (.bool false), (.string ⟨⟨[]⟩⟩), (.bool false), (.string ⟨⟨[]⟩⟩), (.bool false), (.string ⟨⟨[]⟩⟩), (.bool false), (.string ⟨⟨[]⟩⟩), (.bool false), (.string ⟨⟨[]⟩⟩), (.bool false), (.string ⟨⟨[]⟩⟩), (.bool false), (.string ⟨⟨[]⟩⟩)] [(0, 8, (.t 31)), (8, 8, (.t 32))])⟩, ⟨(some 34), (some (30, false)), [], (.call 6 [(.t 33)])⟩, ⟨(some 35), (some (30, false)), [], (.bin .gtr (.t 34) (.c (.int .i64 0)))⟩, ⟨(some 36), none, [], (.pick (.t 30) (.c (.bool true)) (.t 35))⟩])
  (.cond (.t 36)
  (.seq (.reg [⟨(some 37), none, (.call 7 [])⟩, ⟨(some 6), none, (.mv (.t 37))⟩])
  .ret)
  .skip))
  (.seq (.dreg [⟨(some 38), none, [], (.ixarr 3 8 (.t 3) (.c (.int .i64 0)))⟩, ⟨(some 39), none, [], (.load true 8 (.t 38))⟩, ⟨(some 40), none, [], (.call 8 [(.t 39)])⟩, ⟨(some 41), none, [], (.ixarr 3 8 (.t 3) (.c (.int .i64 1)))⟩, ⟨(some 42), none, [2], (.load true 8 (.t 41))⟩, ⟨(some 43), none, [], (.call 8 [(.t 42)])⟩, ⟨(some 44), none, [], (.ixarr 3 8 (.t 3) (.c (.int .i64 2)))⟩, ⟨(some 45), none, [2, 5], (.load true 8 (.t 44))⟩, ⟨(some 46), none, [], (.call 8 [(.t 45)])⟩, ⟨(some 7), none, [], (.alloc 25 8 [(.bool false), (.string ⟨⟨[]⟩⟩), (.bool false), (.string ⟨⟨[]⟩⟩), (.bool false), (.string ⟨⟨[]⟩⟩), (.bool false), (.string ⟨⟨[]⟩⟩)])⟩, ⟨(some 8), none, [], (.alloc 25 8 [(.bool false), (.string ⟨⟨[]⟩⟩), (.bool false), (.string ⟨⟨[]⟩⟩), (.bool false), (.string ⟨⟨[]⟩⟩), (.bool false), (.string ⟨⟨[]⟩⟩)])⟩, ⟨(some 9), none, [], (.alloc 25 8 [(.bool false), (.string ⟨⟨[]⟩⟩), (.bool false), (.string ⟨⟨[]⟩⟩), (.bool false), (.string ⟨⟨[]⟩⟩), (.bool false), (.string ⟨⟨[]⟩⟩)])⟩, ⟨none, none, [], (.store 8 (.t 7) (.t 40))⟩, ⟨none, none, [], (.store 8 (.t 8) (.t 43))⟩, ⟨none, none, [], (.store 8 (.t 9) (.t 46))⟩])
  (.seq (.dreg [⟨(some 47), none, [], (.load true 8 (.t 4))⟩, ⟨(some 48), none, [], (.call 9 [(.t 47)])⟩, ⟨(some 49), none, [1], (.load true 8 (.t 5))⟩, ⟨(some 50), none, [], (.call 9 [(.t 49)])⟩, ⟨none, none, [], (.store 8 (.t 4) (.t 48))⟩, ⟨none, none, [], (.store 8 (.t 5) (.t 50))⟩])
  (.seq (.reg [⟨(some 52), none, (.load true 8 (.t 7))⟩, ⟨(some 53), none, (.load true 8 (.t 8))⟩, ⟨(some 54), none, (.load true 8 (.t 9))⟩, ⟨(some 55), none, (.call 10 [(.t 52), (.t 53), (.t 54)])⟩, ⟨(some 51), none, (.mv (.t 55))⟩, ⟨(some 56), none, (.ext (.t 51) 0)⟩, ⟨(some 57), none, (.ext (.t 51) 1)⟩, ⟨(some 10), none, (.alloc 28 8 [(.bool false), (.string ⟨⟨[]⟩⟩), (.bool false), (.string ⟨⟨[]⟩⟩), (.bool false), (.string ⟨⟨[]⟩⟩), (.bool false), (.string ⟨⟨[]⟩⟩)])⟩, ⟨none, none, (.store 8 (.t 10) (.t 56))⟩, ⟨(some 11), none, (.mv (.t 57))⟩])
  (.seq (.reg [⟨(some 59), none, (.load true 8 (.t 9))⟩, ⟨(some 60), none, (.load true 8 (.t 7))⟩, ⟨(some 61), none, (.load true 8 (.t 8))⟩, ⟨(some 62), none, (.call 10 [(.t 59), (.t 60), (.t 61)])⟩, ⟨(some 58), none, (.mv (.t 62))⟩, ⟨(some 63), none, (.ext (.t 58) 0)⟩, ⟨(some 64), none, (.ext (.t 58) 1)⟩, ⟨(some 12), none, (.alloc 28 8 [(.bool false), (.string ⟨⟨[]⟩⟩), (.bool false), (.string ⟨⟨[]⟩⟩), (.bool false), (.string ⟨⟨[]⟩⟩), (.bool false), (.string ⟨⟨[]⟩⟩)])⟩, ⟨none, none, (.store 8 (.t 12) (.t 63))⟩, ⟨(some 13), none, (.mv (.t 64))⟩])
  (.seq (.seq (.reg [⟨(some 65), none, (.mv (.t 11))⟩, ⟨(some 66), none, (.mv (.t 13))⟩, ⟨(some 67), none, (.eqb true (.t 65) (.t 66))⟩, ⟨(some 68), none, (.mv (.t 67))⟩, ⟨(some 69), (some (68, false)), (.load true 8 (.t 10))⟩, ⟨(some 70), (some (68, false)), (.load true 8 (.t 12))⟩, ⟨(some 71), (some (68, false)), (.eqa true [.b, .s, .b, .s, .b, .s, .b, .s] (.t 69) (.t 70))⟩, ⟨(some 72), none, (.pick (.t 68) (.c (.bool true)) (.t 71))⟩, ⟨(some 73), none, (.mv (.t 72))⟩, ⟨(some 74), (some (73, false)), (.mv (.t 11))⟩, ⟨(some 75), (some (73, false)), (.mv (.t 74))⟩, ⟨(some 76), (some (75, true)), (.load true 8 (.t 7))⟩, ⟨(some 77), (some (75, true)), (.load true 8 (.t 10))⟩, ⟨(some 78), (some (75, true)), (.call 11 [(.t 76), (.t 77)])⟩, ⟨(some 79), (some (75, true)), (.bin .neq (.t 78) (.c (.int .i64 0)))⟩, ⟨(some 80), (some (75, true)), (.mv (.t 79))⟩, ⟨(some 81), (some (80, false)), (.load true 8 (.t 8))⟩, ⟨(some 82), (some (80, false)), (.load true 8 (.t 10))⟩, ⟨(some 83), (some (80, false)), (.call 11 [(.t 81), (.t 82)])⟩, ⟨(some 84), (some (80, false)), (.bin .neq (.t 83) (.c (.int .i64 0)))⟩, ⟨(some 85), (some (75, true)), (.pick (.t 80) (.c (.bool true)) (.t 84))⟩, ⟨(some 86), (some (75, true)), (.mv (.t 85))⟩, ⟨(some 87), (some (86, false)), (.load true 8 (.t 9))⟩, ⟨(some 88), (some (86, false)), (.load true 8 (.t 10))⟩, ⟨(some 89), (some (86, false)), (.call 11 [(.t 87), (.t 88)])⟩, ⟨(some 90), (some (86, false)), (.bin .neq (.t 89) (.c (.int .i64 0)))⟩, ⟨(some 91), (some (75, true)), (.pick (.t 86) (.c (.bool true)) (.t 90))⟩, ⟨(some 92), (some (73, false)), (.pick (.t 75) (.t 91) (.c (.bool false)))⟩, ⟨(some 93), none, (.pick (.t 73) (.c (.bool true)) (.t 92))⟩])
  (.cond (.t 93)
  (.seq (.reg [⟨(some 6), none, (.mv (.c (.bool false)))⟩])
  .ret)
  .skip))
  (.seq (.reg [⟨(some 95), none, (.load true 8 (.t 7))⟩, ⟨(some 96), none, (.load true 8 (.t 4))⟩, ⟨(some 97), none, (.load true 8 (.t 5))⟩, ⟨(some 98), none, (.call 12 [(.t 95), (.t 96), (.t 97)])⟩, ⟨(some 94), none, (.mv (.t 98))⟩, ⟨(some 99), none, (.ext (.t 94) 0)⟩, ⟨(some 100), none, (.ext (.t 94) 1)⟩, ⟨(some 14), none, (.alloc 28 8 [(.bool false), (.string ⟨⟨[]⟩⟩), (.bool false), (.string ⟨⟨[]⟩⟩), (.bool false), (.string ⟨⟨[]⟩⟩), (.bool false), (.string ⟨⟨[]⟩⟩)])⟩, ⟨none, none, (.store 8 (.t 14) (.t 99))⟩, ⟨(some 15), none, (.mv (.t 100))⟩])
  (.seq (.seq (.reg [⟨(some 101), none, (.mv (.t 15))⟩, ⟨(some 102), none, (.un .not (.t 101))⟩])
  (.cond (.t 102)
  (.seq (.dreg [⟨(some 103), none, [], (.call 7 [])⟩, ⟨(some 104), none, [], (.mv (.t 103))⟩, ⟨(some 105), (some (104, true)), [], (.load true 8 (.t 7))⟩, ⟨(some 106), (some (104, true)), [], (.load true 8 (.t 4))⟩, ⟨(some 107), (some (104, true)), [], (.call 11 [(.t 105), (.t 106)])⟩, ⟨(some 108), (some (104, true)), [4], (.load true 8 (.t 7))⟩, ⟨(some 109), (some (104, true)), [4], (.load true 8 (.t 5))⟩, ⟨(some 110), (some (104, true)), [], (.call 11 [(.t 108), (.t 109)])⟩, ⟨(some 111), (some (104, true)), [], (.bin .eql (.t 107) (.t 110))⟩, ⟨(some 112), none, [], (.pick (.t 104) (.t 111) (.c (.bool false)))⟩, ⟨(some 6), none, [], (.mv (.t 112))⟩])
  .ret)
  .skip))
  (.seq (.dreg [⟨(some 114), none, [], (.load true 8 (.t 7))⟩, ⟨(some 115), none, [], (.call 13 [(.t 114)])⟩, ⟨(some 116), none, [1], (.load true 8 (.t 5))⟩, ⟨(some 117), none, [1], (.load true 8 (.t 4))⟩, ⟨(some 118), none, [], (.call 12 [(.t 115), (.t 116), (.t 117)])⟩, ⟨(some 113), none, [], (.mv (.t 118))⟩, ⟨(some 119), none, [], (.ext (.t 113) 0)⟩, ⟨(some 120), none, [], (.ext (.t 113) 1)⟩, ⟨(some 16), none, [], (.alloc 28 8 [(.bool false), (.string ⟨⟨[]⟩⟩), (.bool false), (.string ⟨⟨[]⟩⟩), (.bool false), (.string ⟨⟨[]⟩⟩), (.bool false), (.string ⟨⟨[]⟩⟩)])⟩, ⟨none, none, [], (.store 8 (.t 16) (.t 119))⟩, ⟨(some 17), none, [], (.mv (.t 120))⟩])
  (.seq (.reg [⟨(some 121), none, (.call 7 [])⟩, ⟨(some 122), none, (.mv (.t 121))⟩, ⟨(some 123), (some (122, true)), (.load true 8 (.t 7))⟩, ⟨(some 124), (some (122, true)), (.load true 8 (.t 14))⟩, ⟨(some 125), (some (122, true)), (.call 11 [(.t 123), (.t 124)])⟩, ⟨(some 126), (some (122, true)), (.bin .eql (.t 125) (.c (.int .i64 0)))⟩, ⟨(some 127), none, (.pick (.t 122) (.t 126) (.c (.bool false)))⟩, ⟨(some 128), none, (.mv (.t 127))⟩, ⟨(some 129), (some (128, true)), (.load true 8 (.t 4))⟩, ⟨(some 130), (some (128, true)), (.load true 8 (.t 5))⟩, ⟨(some 131), (some (128, true)), (.load true 8 (.t 14))⟩, ⟨(some 132), (some (128, true)), (.call 14 [(.t 129), (.t 130), (.t 131)])⟩, ⟨(some 133), none, (.pick (.t 128) (.t 132) (.c (.bool false)))⟩, ⟨(some 134), none, (.mv (.t 133))⟩, ⟨(some 135), (some (134, true)), (.mv (.t 17))⟩, ⟨(some 136), none, (.pick (.t 134) (.t 135) (.c (.bool false)))⟩, ⟨(some 137), none, (.mv (.t 136))⟩, ⟨(some 138), (some (137, true)), (.load true 8 (.t 16))⟩, ⟨(some 139), (some (137, true)), (.load true 8 (.t 14))⟩, ⟨(some 140), (some (137, true)), (.eqa false [.b, .s, .b, .s, .b, .s, .b, .s] (.t 138) (.t 139))⟩, ⟨(some 141), none, (.pick (.t 137) (.t 140) (.c (.bool false)))⟩, ⟨(some 6), none, (.mv (.t 141))⟩])
  .ret)))))))))))
theorem tr3 : trFun Tryd.prog 3 = some ⟨142, [.t 6], c3⟩ := by kernel_rfl
theorem wide_at {s1 l1 s2 l2 s3 l3 s4 l4} (h : (List.length l1 ≤ 6 ∧ List.length l2 ≤ 6 ∧ List.length l3 ≤ 6 ∧ List.length l4 ≤ 6) ∧ ¬ (sv s1 l1 = 0 ∧ sv s2 l2 = 0 ∧ sv s3 l3 = 0)) :
    spLWide [.agg ⟨[.bool s1, .string ⟨⟨l1⟩⟩, .bool s2, .string ⟨⟨l2⟩⟩, .bool s3, .string ⟨⟨l3⟩⟩, .bool s4, .string ⟨⟨l4⟩⟩]⟩] = some (.int .i64 0) := by
  unfold spLWide; simp only; rw [if_pos h]
theorem wide_no {s1 l1 s2 l2 s3 l3 s4 l4} (h : ¬ ((List.length l1 ≤ 6 ∧ List.length l2 ≤ 6 ∧ List.length l3 ≤ 6 ∧ List.length l4 ≤ 6) ∧ ¬ (sv s1 l1 = 0 ∧ sv s2 l2 = 0 ∧ sv s3 l3 = 0))) :
    spLWide [.agg ⟨[.bool s1, .string ⟨⟨l1⟩⟩, .bool s2, .string ⟨⟨l2⟩⟩, .bool s3, .string ⟨⟨l3⟩⟩, .bool s4, .string ⟨⟨l4⟩⟩]⟩] = some (.int .i64 1) := by
  unfold spLWide; simp only; rw [if_neg h]
theorem wide_some {s1 l1 s2 l2 s3 l3 s4 l4} :
    ∃ n : Int, spLWide [.agg ⟨[.bool s1, .string ⟨⟨l1⟩⟩, .bool s2, .string ⟨⟨l2⟩⟩, .bool s3, .string ⟨⟨l3⟩⟩, .bool s4, .string ⟨⟨l4⟩⟩]⟩] = some (.int .i64 n) ∧ 0 ≤ n ∧ n ≤ 1 ∧ (n = 0 → (List.length l1 ≤ 6 ∧ List.length l2 ≤ 6 ∧ List.length l3 ≤ 6 ∧ List.length l4 ≤ 6) ∧ ¬ (sv s1 l1 = 0 ∧ sv s2 l2 = 0 ∧ sv s3 l3 = 0)) := by
  by_cases h : (List.length l1 ≤ 6 ∧ List.length l2 ≤ 6 ∧ List.length l3 ≤ 6 ∧ List.length l4 ≤ 6) ∧ ¬ (sv s1 l1 = 0 ∧ sv s2 l2 = 0 ∧ sv s3 l3 = 0)
  · exact ⟨0, wide_at h, by omega, by omega, fun _ => h⟩
  · exact ⟨1, wide_no h, by omega, by omega, fun e => by omega⟩
set_option maxHeartbeats 8000000 in
theorem ok_lInc : SpecOK Tryd.prog 3 (flat spLInc) := by
  refine flat_run (env_cons ok_lWide (env_cons ok_lGreat (env_cons ok_lFixed (env_cons ok_lForm (env_cons ok_r4Norm (env_cons ok_xThree (env_cons ok_xLine (env_cons ok_lnSide (env_cons ok_lnFlip (env_cons ok_xCollin (env_nil _))))))))))) mixed tr3 ?_
  intro args v h N hG
  unfold spLInc at hG
  split at hG
  case h_2 => cases hG
  rename_i sa1 la1 sa2 la2 sa3 la3 sa4 la4 sb1 lb1 sb2 lb2 sb3 lb3 sb4 lb4 sc1 lc1 sc2 lc2 sc3 lc3 sc4 lc4 t1 m1 t2 m2 t3 m3 t4 m4 u1 o1 u2 o2 u3 o3 u4 o4
  cases hG
  refine ⟨rfl, by simp, ?_⟩
  simp only [c3, initT, List.zipIdx_cons, List.zipIdx_nil, List.map_cons, List.map_nil, Nat.reduceAdd]
  obtain ⟨na, Wa, za, ya, ga⟩ := wide_some (s1 := sa1) (l1 := la1) (s2 := sa2) (l2 := la2) (s3 := sa3) (l3 := la3) (s4 := sa4) (l4 := la4)
  obtain ⟨nb, Wb, zb, yb, gb⟩ := wide_some (s1 := sb1) (l1 := lb1) (s2 := sb2) (l2 := lb2) (s3 := sb3) (l3 := lb3) (s4 := sb4) (l4 := lb4)
  obtain ⟨nc, Wc, zc, yc, gc⟩ := wide_some (s1 := sc1) (l1 := lc1) (s2 := sc2) (l2 := lc2) (s3 := sc3) (l3 := lc3) (s4 := sc4) (l4 := lc4)
  have e1 : IntKind.i64.wrap (na + nb) = na + nb := i64_in _ (by omega)
  have e2 : IntKind.i64.wrap (na + nb + nc) = na + nb + nc := i64_in _ (by omega)
  by_cases hp : 0 < na + nb + nc
  · simp only [↓R0, R1, rdL, rdH, isCall, istep, ibin, vcells, fillI, setR, flat, okCell, isBase, List.set, List.drop, List.take, List.append, bnds, bhi, blo, srcOf, ↓reduceIte, Nat.reduceEqDiff, Nat.reduceAdd, Nat.reduceLeDiff, reduceCtorEq, Nat.reduceSub, Int.reduceEq, Int.reduceLT, Int.reduceLE, Int.reduceGT, Int.reduceGE, Int.reduceSub, Int.reduceAdd, Int.reduceMul, Int.reduceNe, Int.reduceNeg, Int.reduceToNat, Nat.reduceMul, Wa, Wb, Wc, e1, e2, hp, gt_iff_lt, spLFixed, Fin, isEnd, resL, res1, iE, rE]
    exact ⟨_, rfl, rfl, fun k hk => by simp only [ne_nb hk, if_false]⟩
  have na0 : na = 0 := by omega
  have nb0 : nb = 0 := by omega
  have nc0 : nc = 0 := by omega
  have ga := ga na0
  have gb := gb nb0
  have gc := gc nc0
  rw [na0] at Wa; rw [nb0] at Wb; rw [nc0] at Wc
  have e3 : IntKind.i64.wrap 0 = 0 := i64_in _ (by omega)
  clear e1 e2 hp na0 nb0 nc0 za zb zc ya yb yc
  obtain ⟨Gq, eGq⟩ : ∃ g : Prop, g = ((List.all [(t1, m1), (t2, m2), (t3, m3), (t4, m4), (u1, o1), (u2, o2), (u3, o3), (u4, o4)] fun z => decide (z.2.length ≤ 6)) = true) := ⟨_, rfl⟩
  by_cases gq : Gq
  case neg =>
    have gq' : ¬ ((List.all [(t1, m1), (t2, m2), (t3, m3), (t4, m4), (u1, o1), (u2, o2), (u3, o3), (u4, o4)] fun z => decide (z.2.length ≤ 6)) = true) := eGq ▸ gq
    have gl : ∀ e h' b N', b = [.bool t1, .string ⟨⟨m1⟩⟩, .bool t2, .string ⟨⟨m2⟩⟩, .bool t3, .string ⟨⟨m3⟩⟩, .bool t4, .string ⟨⟨m4⟩⟩, .bool u1, .string ⟨⟨o1⟩⟩, .bool u2, .string ⟨⟨o2⟩⟩, .bool u3, .string ⟨⟨o3⟩⟩, .bool u4, .string ⟨⟨o4⟩⟩] → spLGreat [.slice (some ⟨N', 0, none⟩) 2 2] ((N', some ⟨e, 8, true, b⟩) :: h') = some (.int .i64 1) := by
      intro e h' b N' eb
      subst eb
      unfold spLGreat
      simp only [hget, if_true, ints, Option.map_some, Nat.reduceMul, List.length_cons, List.length_nil, List.take_succ_cons, List.take_zero]
      rw [if_pos (by decide)]
      simp only [gq', Bool.false_eq_true, if_false, if_true]
    have gl' := fun e h' N' => gl e h' _ N' rfl
    simp only [↓R0, R1, rdL, rdH, isCall, istep, ibin, vcells, fillI, setR, flat, okCell, isBase, List.set, List.drop, List.take, List.append, bnds, bhi, blo, srcOf, ↓reduceIte, Nat.reduceEqDiff, Nat.reduceAdd, Nat.reduceLeDiff, reduceCtorEq, Nat.reduceSub, Int.reduceEq, Int.reduceLT, Int.reduceLE, Int.reduceGT, Int.reduceGE, Int.reduceSub, Int.reduceAdd, Int.reduceMul, Int.reduceNe, Int.reduceNeg, Int.reduceToNat, Nat.reduceMul, Wa, Wb, Wc, e3, rdS, gl', spLFixed, Fin, isEnd, resL, res1, iE, rE]
    exact ⟨_, rfl, rfl, fun k hk => by simp only [ne_nb hk, if_false]⟩
  have gq' : (List.all [(t1, m1), (t2, m2), (t3, m3), (t4, m4), (u1, o1), (u2, o2), (u3, o3), (u4, o4)] fun z => decide (z.2.length ≤ 6)) = true := eGq ▸ gq
  have gl' : ∀ e h' N', spLGreat [.slice (some ⟨N', 0, none⟩) 2 2] ((N', some ⟨e, 8, true, [.bool t1, .string ⟨⟨m1⟩⟩, .bool t2, .string ⟨⟨m2⟩⟩, .bool t3, .string ⟨⟨m3⟩⟩, .bool t4, .string ⟨⟨m4⟩⟩, .bool u1, .string ⟨⟨o1⟩⟩, .bool u2, .string ⟨⟨o2⟩⟩, .bool u3, .string ⟨⟨o3⟩⟩, .bool u4, .string ⟨⟨o4⟩⟩]⟩) :: h') = some (.int .i64 0) := by
    have gl : ∀ e h' b N', b = [.bool t1, .string ⟨⟨m1⟩⟩, .bool t2, .string ⟨⟨m2⟩⟩, .bool t3, .string ⟨⟨m3⟩⟩, .bool t4, .string ⟨⟨m4⟩⟩, .bool u1, .string ⟨⟨o1⟩⟩, .bool u2, .string ⟨⟨o2⟩⟩, .bool u3, .string ⟨⟨o3⟩⟩, .bool u4, .string ⟨⟨o4⟩⟩] → spLGreat [.slice (some ⟨N', 0, none⟩) 2 2] ((N', some ⟨e, 8, true, b⟩) :: h') = some (.int .i64 0) := by
      intro e h' b N' eb
      subst eb
      unfold spLGreat
      simp only [hget, if_true, ints, Option.map_some, Nat.reduceMul, List.length_cons, List.length_nil, List.take_succ_cons, List.take_zero]
      rw [if_pos (by decide)]
      simp only [gq', Bool.false_eq_true, if_false, if_true]
    have gl' := fun e h' N' => gl e h' _ N' rfl
    exact gl'
  simp only [List.all_cons, List.all_nil, Bool.and_true, Bool.and_eq_true, decide_eq_true_eq] at gq'
  obtain ⟨hx1, hx2, hx3, hx4, hy1, hy2, hy3, hy4⟩ := gq'
  obtain ⟨⟨i1, i2, i3, i4⟩, i5⟩ := ga
  obtain ⟨A1, A2, A3, A4, fA, kA⟩ := lForm_can (s4 := sa4) i1 i2 i3 i4 i5
  obtain ⟨⟨i1, i2, i3, i4⟩, i5⟩ := gb
  obtain ⟨B1, B2, B3, B4, fB, kB⟩ := lForm_can (s4 := sb4) i1 i2 i3 i4 i5
  obtain ⟨⟨i1, i2, i3, i4⟩, i5⟩ := gc
  obtain ⟨C1, C2, C3, C4, fC, kC⟩ := lForm_can (s4 := sc4) i1 i2 i3 i4 i5
  obtain ⟨x1, x2, x3, x4, fx, kx⟩ := r4Norm_can (s1 := t1) (s2 := t2) (s3 := t3) (s4 := t4) hx1 hx2 hx3 hx4
  obtain ⟨y1, y2, y3, y4, fy, ky⟩ := r4Norm_can (s1 := u1) (s2 := u2) (s3 := u3) (s4 := u4) hy1 hy2 hy3 hy4
  have hFl := flip_at kA
  have hT := three_cases kA kB kC
  have hL := line_cases kA kx ky
  have sx := side_at (kA.le (k := 64) (by omega)) (kx.le (k := 64) (by omega))
  have sy := side_at (kA.le (k := 64) (by omega)) (ky.le (k := 64) (by omega))
  rcases hT with ⟨t1, t2⟩ | ⟨w1, w2, w3, w4, t1, t2, kw, t3, t4, t5⟩
  · skip
    rcases hL with ⟨l1, l2⟩ | ⟨z1, z2, z3, z4, l1, l2, kz, l3, l4⟩
    · rw [l2] at sx
      unfold cP at *
      try unfold pZ at *
      simp only [↓R0, R1, rdL, rdH, isCall, istep, ibin, vcells, fillI, setR, flat, okCell, isBase, List.set, List.drop, List.take, List.append, bnds, bhi, blo, srcOf, ↓reduceIte, Nat.reduceEqDiff, Nat.reduceAdd, Nat.reduceLeDiff, reduceCtorEq, Nat.reduceSub, Int.reduceEq, Int.reduceLT, Int.reduceLE, Int.reduceGT, Int.reduceGE, Int.reduceSub, Int.reduceAdd, Int.reduceMul, Int.reduceNe, Int.reduceNeg, Int.reduceToNat, Nat.reduceMul, Wa, Wb, Wc, e3, rdS, gl', fA, fB, fC, fx, fy, t1, t2, l1, sx, sy, spLFixed, ceq, Bool.not_false, Bool.not_true, Fin, isEnd, resL, res1, iE, rE]
      exact ⟨_, rfl, rfl, fun k hk => by simp only [ne_nb hk, if_false]⟩
    · have sz := side_at (kA.le (k := 64) (by omega)) kz
      rw [l3, Int.sign_zero] at sz
      have cz := collin_at (kx.le (k := 64) (by omega)) (ky.le (k := 64) (by omega)) kz (by omega)
      simp only [l4, decide_true] at cz
      unfold cP at *
      try unfold pZ at *
      simp only [↓R0, R1, rdL, rdH, isCall, istep, ibin, vcells, fillI, setR, flat, okCell, isBase, List.set, List.drop, List.take, List.append, bnds, bhi, blo, srcOf, ↓reduceIte, Nat.reduceEqDiff, Nat.reduceAdd, Nat.reduceLeDiff, reduceCtorEq, Nat.reduceSub, Int.reduceEq, Int.reduceLT, Int.reduceLE, Int.reduceGT, Int.reduceGE, Int.reduceSub, Int.reduceAdd, Int.reduceMul, Int.reduceNe, Int.reduceNeg, Int.reduceToNat, Nat.reduceMul, Wa, Wb, Wc, e3, rdS, gl', fA, fB, fC, fx, fy, t1, t2, l1, l2, hFl, sz, cz, spLFixed, ceq, Bool.not_false, Bool.not_true, Fin, isEnd, resL, res1, iE, rE]
      exact ⟨_, rfl, rfl, fun k hk => by simp only [ne_nb hk, if_false]⟩
  · have sA := side_at (kA.le (k := 64) (by omega)) kw
    have sB := side_at (kB.le (k := 64) (by omega)) kw
    have sC := side_at (kC.le (k := 64) (by omega)) kw
    rw [t3, Int.sign_zero] at sA
    rw [t4, Int.sign_zero] at sB
    rw [t5, Int.sign_zero] at sC
    rcases hL with ⟨l1, l2⟩ | ⟨z1, z2, z3, z4, l1, l2, kz, l3, l4⟩
    · rw [l2] at sx
      unfold cP at *
      try unfold pZ at *
      simp only [↓R0, R1, rdL, rdH, isCall, istep, ibin, vcells, fillI, setR, flat, okCell, isBase, List.set, List.drop, List.take, List.append, bnds, bhi, blo, srcOf, ↓reduceIte, Nat.reduceEqDiff, Nat.reduceAdd, Nat.reduceLeDiff, reduceCtorEq, Nat.reduceSub, Int.reduceEq, Int.reduceLT, Int.reduceLE, Int.reduceGT, Int.reduceGE, Int.reduceSub, Int.reduceAdd, Int.reduceMul, Int.reduceNe, Int.reduceNeg, Int.reduceToNat, Nat.reduceMul, Wa, Wb, Wc, e3, rdS, gl', fA, fB, fC, fx, fy, t1, t2, sA, sB, sC, l1, sx, sy, spLFixed, ceq, Bool.not_false, Bool.not_true, Fin, isEnd, resL, res1, iE, rE]
      exact ⟨_, rfl, rfl, fun k hk => by simp only [ne_nb hk, if_false]⟩
    · have sz := side_at (kA.le (k := 64) (by omega)) kz
      rw [l3, Int.sign_zero] at sz
      have cz := collin_at (kx.le (k := 64) (by omega)) (ky.le (k := 64) (by omega)) kz (by omega)
      simp only [l4, decide_true] at cz
      unfold cP at *
      try unfold pZ at *
      simp only [↓R0, R1, rdL, rdH, isCall, istep, ibin, vcells, fillI, setR, flat, okCell, isBase, List.set, List.drop, List.take, List.append, bnds, bhi, blo, srcOf, ↓reduceIte, Nat.reduceEqDiff, Nat.reduceAdd, Nat.reduceLeDiff, reduceCtorEq, Nat.reduceSub, Int.reduceEq, Int.reduceLT, Int.reduceLE, Int.reduceGT, Int.reduceGE, Int.reduceSub, Int.reduceAdd, Int.reduceMul, Int.reduceNe, Int.reduceNeg, Int.reduceToNat, Nat.reduceMul, Wa, Wb, Wc, e3, rdS, gl', fA, fB, fC, fx, fy, t1, t2, sA, sB, sC, l1, l2, hFl, sz, cz, spLFixed, ceq, Bool.not_false, Bool.not_true, Fin, isEnd, resL, res1, iE, rE]
      exact ⟨_, rfl, rfl, fun k hk => by simp only [ne_nb hk, if_false]⟩
end Go.Eng
end
section
set_option linter.unusedVariables false
set_option linter.unusedSimpArgs false
set_option linter.unusedSectionVars false
namespace Go.Eng
def kmatch : List Kd → List Value → Prop
  | [], [] => True
  | .b :: ks, .bool _ :: r => kmatch ks r
  | .i :: ks, .int _ _ :: r => kmatch ks r
  | .s :: ks, .string _ :: r => kmatch ks r
  | _, _ => False
theorem kmatch_append : ∀ {ks ks' : List Kd} {cs cs' : List Value}, kmatch ks cs → kmatch ks' cs' → kmatch (ks ++ ks') (cs ++ cs')
  | [], _, [], _, _, h => h
  | [], _, _ :: _, _, h, _ => h.elim
  | .b :: ks, ks', cs, cs', h, h' => by
    match cs, h with
    | .bool _ :: r, h => exact kmatch_append (ks := ks) h h'
  | .i :: ks, ks', cs, cs', h, h' => by
    match cs, h with
    | .int _ _ :: r, h => exact kmatch_append (ks := ks) h h'
  | .s :: ks, ks', cs, cs', h, h' => by
    match cs, h with
    | .string _ :: r, h => exact kmatch_append (ks := ks) h h'
section
variable {H : Type} {enc : TypeId × Value → H} {P : Program}
theorem cellsOf_sz {t : TypeId} {n : Nat} (h : szOf P t = some n) : P.cellsOf t = n := by
  unfold Program.cellsOf; unfold szOf at h; rw [h]; rfl
def Plain (P : Program) (enc : TypeId × Value → H) (fuel : Nat) (t : TypeId) (ks : List Kd) : Prop :=
  ∀ (w : World) (base : Nat) (spare : Nat → Bool) (held : Bool) (cs : List Value) (x : DataW H × List MemPlace), DataW.trod enc P w base spare held fuel t cs = some x →
    kmatch ks cs ∧ x.2 = [] ∧ ∀ w' base' spare' held', DataW.trod enc P w' base' spare' held' fuel t cs = some x
theorem plain_fields {fuel : Nat} {ty : TypeId → Option (List Kd)} (hty : ∀ t ks n, ty t = some ks → szOf P t = some n → ks.length = n → Plain P enc fuel t ks) :
    ∀ (fs : List Field) (off : Nat) (ks : List Kd), flatFs ty P fs off = some ks → ∀ (w : World) (base : Nat) (spare : Nat → Bool) (held : Bool) (cs : List Value) (xs : List (DataW H × List MemPlace)),
      (fs.mapM fun f => DataW.trod enc P w base spare held fuel f.type ((cs.drop f.offset).take (P.cellsOf f.type))) = some xs → cs.length = off + ks.length →
      kmatch ks (cs.drop off) ∧ xs.flatMap (·.2) = [] ∧ ∀ w' base' spare' held', (fs.mapM fun f => DataW.trod enc P w' base' spare' held' fuel f.type ((cs.drop f.offset).take (P.cellsOf f.type))) = some xs
  | [], off, ks, h, w, base, spare, held, cs, xs, hm, hl => by
    simp only [flatFs, Option.some.injEq] at h
    subst h
    simp only [List.mapM_nil, Option.pure_def, Option.some.injEq] at hm
    subst hm
    simp only [List.length_nil, Nat.add_zero] at hl
    rw [List.drop_eq_nil_of_le (by omega)]
    exact ⟨trivial, rfl, fun _ _ _ _ => rfl⟩
  | f :: r, off, ks, h, w, base, spare, held, cs, xs, hm, hl => by
    simp only [flatFs] at h
    split at h
    case isFalse => cases h
    rename_i hc
    obtain ⟨_, hoff⟩ := hc
    split at h
    case h_2 => cases h
    rename_i ks0 n hk hn
    split at h
    case isFalse => cases h
    rename_i hlen
    rw [Option.map_eq_some_iff] at h
    obtain ⟨ks1, h1, rfl⟩ := h
    have hsz := cellsOf_sz hn
    simp only [List.mapM_cons, Option.bind_eq_bind, Option.bind_eq_some_iff, Option.pure_def, Option.some.injEq] at hm
    obtain ⟨y, hy, ys, hys, rfl⟩ := hm
    have hp := hty f.type ks0 n hk hn hlen w base spare held _ y hy
    obtain ⟨p1, p2, p3⟩ := hp
    simp only [List.length_append] at hl
    obtain ⟨q1, q2, q3⟩ := plain_fields hty r (off + n) ks1 h1 w base spare held cs ys hys (by omega)
    rw [hoff, hsz] at p1
    refine ⟨?_, ?_, ?_⟩
    · have e : cs.drop off = (cs.drop off).take n ++ cs.drop (off + n) := by
        rw [← List.drop_drop, List.take_append_drop]
      rw [e]
      exact kmatch_append p1 q1
    · simp only [List.flatMap_cons, p2, q2, List.nil_append]
    · intro w' base' spare' held'
      simp only [List.mapM_cons, Option.bind_eq_bind, Option.bind_eq_some_iff, Option.pure_def, Option.some.injEq]
      exact ⟨y, p3 w' base' spare' held', ys, q3 w' base' spare' held', rfl⟩
theorem plain_elems {fuel : Nat} {e : TypeId} {ks : List Kd} {n : Nat} (hn : szOf P e = some n) (hl : ks.length = n) (he : Plain P enc fuel e ks) :
    ∀ (m i0 : Nat) (w : World) (base : Nat) (spare : Nat → Bool) (held : Bool) (cs : List Value) (xs : List (DataW H × List MemPlace)),
      ((List.range' i0 m).mapM fun i => DataW.trod enc P w base spare held fuel e ((cs.drop (i * P.cellsOf e)).take (P.cellsOf e))) = some xs → cs.length = (i0 + m) * n →
      kmatch (List.replicate m ks).flatten (cs.drop (i0 * n)) ∧ xs.flatMap (·.2) = [] ∧ ∀ w' base' spare' held', ((List.range' i0 m).mapM fun i => DataW.trod enc P w' base' spare' held' fuel e ((cs.drop (i * P.cellsOf e)).take (P.cellsOf e))) = some xs
  | 0, i0, w, base, spare, held, cs, xs, hm, hlen => by
    simp only [List.range'_zero, List.mapM_nil, Option.pure_def, Option.some.injEq] at hm
    subst hm
    simp only [Nat.add_zero] at hlen
    rw [List.drop_eq_nil_of_le (by omega)]
    exact ⟨trivial, rfl, fun _ _ _ _ => by simp⟩
  | m + 1, i0, w, base, spare, held, cs, xs, hm, hlen => by
    have hsz := cellsOf_sz hn
    simp only [List.range'_succ, List.mapM_cons, Option.bind_eq_bind, Option.bind_eq_some_iff, Option.pure_def, Option.some.injEq] at hm
    obtain ⟨y, hy, ys, hys, rfl⟩ := hm
    obtain ⟨p1, p2, p3⟩ := he w base spare held _ y hy
    obtain ⟨q1, q2, q3⟩ := plain_elems hn hl he m (i0 + 1) w base spare held cs ys hys (by rw [hlen]; congr 1; omega)
    rw [hsz] at p1
    refine ⟨?_, ?_, ?_⟩
    · rw [List.replicate_succ, List.flatten_cons]
      have e : cs.drop (i0 * n) = (cs.drop (i0 * n)).take n ++ cs.drop ((i0 + 1) * n) := by
        rw [Nat.succ_mul, ← List.drop_drop, List.take_append_drop]
      rw [e]
      exact kmatch_append p1 q1
    · simp only [List.flatMap_cons, p2, q2, List.nil_append]
    · intro w' base' spare' held'
      simp only [List.range'_succ, List.mapM_cons, Option.bind_eq_bind, Option.bind_eq_some_iff, Option.pure_def, Option.some.injEq]
      exact ⟨y, p3 w' base' spare' held', ys, q3 w' base' spare' held', rfl⟩
theorem plain_ty : ∀ (fuel d : Nat) (t : TypeId) (ks : List Kd) (n : Nat), flatTy P d t = some ks → szOf P t = some n → ks.length = n → Plain P enc fuel t ks
  | 0, d, t, ks, n, h, hn, hl => by intro w base spare held cs x hx; simp [DataW.trod] at hx
  | fuel + 1, 0, t, ks, n, h, hn, hl => by simp [flatTy] at h
  | fuel + 1, d + 1, t, ks, n, h, hn, hl => by
    intro w base spare held cs x hx
    unfold flatTy at h
    unfold DataW.trod at hx ⊢
    split at h
    · rename_i hu
      cases h
      rw [hu] at hx ⊢
      match cs, hx with
      | [.bool b], hx => simp only [Option.some.injEq] at hx; subst hx; exact ⟨trivial, rfl, fun _ _ _ _ => rfl⟩
    · rename_i k hu
      cases h
      rw [hu] at hx ⊢
      match cs, hx with
      | [.int k' m], hx =>
        simp only at hx
        split at hx
        · rename_i hc
          simp only [Option.some.injEq] at hx; subst hx
          exact ⟨trivial, rfl, fun _ _ _ _ => by simp only; rw [if_pos hc]⟩
        · cases hx
    · rename_i hu
      cases h
      rw [hu] at hx ⊢
      match cs, hx with
      | [.string s], hx =>
        simp only at hx
        split at hx
        · rename_i hc
          simp only [Option.some.injEq] at hx; subst hx
          exact ⟨trivial, rfl, fun _ _ _ _ => by simp only; rw [if_pos hc]⟩
        · cases hx
    · rename_i fs hu
      split at h
      · cases h
      rw [hu] at hx ⊢
      simp only at hx ⊢
      split at hx
      case isFalse => cases hx
      rename_i hlen
      rw [Option.map_eq_some_iff] at hx
      obtain ⟨xs, hxs, rfl⟩ := hx
      rw [cellsOf_sz hn, ← hl] at hlen
      obtain ⟨p1, p2, p3⟩ := plain_fields (fuel := fuel) (fun t ks n h1 h2 h3 => plain_ty fuel d t ks n h1 h2 h3) fs.toList 0 ks h w base spare held cs xs hxs (by omega)
      refine ⟨by simpa using p1, p2, fun w' base' spare' held' => ?_⟩
      rw [if_pos (by rw [cellsOf_sz hn, ← hl, hlen]), p3]; rfl
    · rename_i len e hu
      split at h
      case h_2 => cases h
      rename_i ks0 m hk hm
      split at h
      case isFalse => cases h
      rename_i hlm
      simp only [Option.some.injEq] at h
      subst h
      rw [hu] at hx ⊢
      simp only at hx ⊢
      split at hx
      case isFalse => cases hx
      rename_i hlen
      rw [Option.map_eq_some_iff] at hx
      obtain ⟨xs, hxs, rfl⟩ := hx
      rw [cellsOf_sz hn, ← hl] at hlen
      rw [List.range_eq_range'] at hxs
      have hfl : ((List.replicate len ks0).flatten).length = len * m := by rw [List.length_flatten]; simp [hlm]
      obtain ⟨p1, p2, p3⟩ := plain_elems hm hlm (plain_ty fuel d e ks0 m hk hm hlm) len 0 w base spare held cs xs hxs (by rw [hlen, hfl, Nat.zero_add])
      refine ⟨by simpa using p1, p2, fun w' base' spare' held' => ?_⟩
      rw [if_pos (by rw [cellsOf_sz hn, ← hl, hlen]), List.range_eq_range', p3]; rfl
    · cases h
theorem trod_plain {w : World} {t : TypeId} {v : Value} {d : DataW H} {ps : List MemPlace} {ks : List Kd} {n : Nat} {base : Nat} {spare : Nat → Bool} {held : Bool}
    (hf : flatTy P 20 t = some ks) (hs : szOf P t = some n) (hl : ks.length = n) (h : DataW.Trod enc P w base spare held t v d ps) :
    kmatch ks v.cells.toList ∧ ps = [] ∧ ∀ w' base' spare' held', DataW.Trod enc P w' base' spare' held' t v d ps := by
  obtain ⟨fuel, h⟩ := h
  obtain ⟨p1, p2, p3⟩ := plain_ty fuel 20 t ks n hf hs hl w base spare held _ _ h
  exact ⟨p1, p2, fun w' base' spare' held' => ⟨fuel, p3 w' base' spare' held'⟩⟩
end
theorem agg_of {v : Value} {cs : List Value} (h : v.cells.toList = cs) (h2 : 2 ≤ cs.length) : v = .agg ⟨cs⟩ := by
  rw [vcells_eq] at h
  cases v <;> simp [vcells] at h <;> subst h <;> first | rfl | simp at h2
theorem flat_calls {P : Program} {f : Nat} {G : List Value → Option Value} (hS : SpecOK P f (flat G)) {args : List Value} {v : Value} (hG : G args = some v) (ha : ∀ β, VRs β args args) (hv : isBase v = true) (w : World) :
    Calls P f ⟨args⟩ w fun e w' => e = .returned v ∧ w.keptBut w' (fun _ => False) := by
  have h := hS.ok args [] 0 (v, [], 0) (by simp [flat, hG]) (fun _ => none) w args (ha _)
    ⟨fun k b e => by simp [hget] at e, fun k k' L L' e => by simp [hget] at e, fun k L e => by cases e⟩ (fun _ _ _ => rfl) ⟨0, fun k e => absurd rfl e⟩
  refine h.mono ?_
  rintro e w' ⟨β', v', he, hvr, hrel, hfr, _⟩
  refine ⟨?_, hfr.os, hfr.out, fun i hi => ?_⟩
  · rw [he, hvr.base_left hv]
  · rw [hfr.keep i hi (fun k L hk => by simp [hget] at hk)]
    cases w.heap[i]? with
    | none => rfl
    | some o =>
      cases o with
      | cells c t fr => exact ⟨rfl, rfl, rfl, fun _ _ => rfl⟩
      | map es cl => exact .inr ⟨rfl, rfl⟩
      | _ => rfl
end Go.Eng
end
