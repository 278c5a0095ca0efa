/-
  IntersectLine: for every input the law returns true, and the arguments read as before. Nothing is asked of the input.
-/
import Derived.Test.YtcmhlhgddifpeaaGreatDoorLi6
import Derived.Test.YtcmhlhgddifpeaaGreatDoorCards
import Derived.Test.YtcmhlhgddifpeaaGreatDoorTie
import Derived.ProofKit
import Derived.OpenShut
import Derived.LaidMore
import Derived.Lay
import Derived.SevenTiedAt
section
set_option linter.unusedVariables false
set_option linter.unusedSimpArgs false
set_option linter.unusedSectionVars false
namespace Go.Proofs.YtcmhlhgddifpeaaGreatDoor
open Go.ChangeShapes Go.WideShapes Go.ChangeAt Go.RowKit Go.Eng
theorem own : ownKnob Tryz.prog.godebug = none := by kernel_rfl
theorem open8 {t : TypeId} (hf : flatTy Tryz.prog 20 t = some [.b, .s, .b, .s, .b, .s, .b, .s]) (hs : szOf Tryz.prog t = some 8) {H : Type} {enc : TypeId × Value → H} {w : World} {v : Value} {d : DataW H} {ps : List MemPlace} {base : Nat} {spare : Nat → Bool} {held : Bool}
    (h : DataW.Trod enc Tryz.prog w base spare held t v d ps) :
    ∃ s1 l1 s2 l2 s3 l3 s4 l4, v = .agg ⟨[.bool s1, .string ⟨⟨l1⟩⟩, .bool s2, .string ⟨⟨l2⟩⟩, .bool s3, .string ⟨⟨l3⟩⟩, .bool s4, .string ⟨⟨l4⟩⟩]⟩ ∧ ps = [] ∧ ∀ w' base' spare' held', DataW.Trod enc Tryz.prog w' base' spare' held' t v d ps := by
  obtain ⟨h1, h2, h3⟩ := trod_plain hf hs rfl h
  generalize hc : v.cells.toList = cs at h1
  match cs, h1 with
  | [.bool s1, .string ⟨⟨l1⟩⟩, .bool s2, .string ⟨⟨l2⟩⟩, .bool s3, .string ⟨⟨l3⟩⟩, .bool s4, .string ⟨⟨l4⟩⟩], _ =>
    exact ⟨s1, l1, s2, l2, s3, l3, s4, l4, agg_of hc (by simp), h2, h3⟩
set_option maxRecDepth 100000 in
theorem lifted (os : Os) (started : os.Started) (H : Type) (enc : TypeId × Value → H) :
    ReturnsInHanded {} Tryz.checked os 4 .any (fun w args => (Rows.intersectLineSpec.pre enc Tryz.prog Tryz.f4 [] false w args ∧ laidMetH Tryz.prog Rows.intersectLineRow.laid w) ∧ sizedMet enc Tryz.prog Tryz.f4 (OpenSpec.ofChange Rows.intersectLineSpec) false w args)
      (Rows.intersectLineSpec.post enc Tryz.prog Tryz.f4 false true false false) := by
  refine returnsInHanded_of_change_and (C := Tryz.checked) (X := fun w _ => laidMetH Tryz.prog Rows.intersectLineRow.laid w) (fun _ _ _ hh h => h.of_heap hh) own started (by kernel_rfl) Tryz.func4
    (ChangeSpec.witness_shaped (enc := enc) (C := Tryz.checked) (os := os) (X := fun w _ => laidMetH Tryz.prog Rows.intersectLineRow.laid w) false (World.laidAll Tryz.prog os Rows.intersectLineRow.laid)
      #[.agg ⟨cE4 [] [] [] []⟩, .agg ⟨cE4 [] [] [] []⟩, .agg ⟨cE4 [] [] [] []⟩] 8 (World.laidAll_os _ _ _)
      (World.shaped_of_ZipB (by kernel_rfl) (by kernel_rfl)) (by kernel_rfl) (by kernel_rfl) (by kernel_rfl)
      (by rw [MakeChecks.laidMetH_plain _ _ _ (by kernel_rfl)]; exact laidMet_laidAll _ (by kernel_rfl) (by kernel_rfl))) ?_
  intro W base args ds gs before hval0 hW _ _ _ _
  have hW' := hW
  obtain ⟨p, q, hA0, hV, rfl, _, _⟩ := hW
  have hA : DataW.TrodAll enc Tryz.prog W 0 (fun _ => true) true Tryz.f4.params.toList args.toList ds p := hA0
  rw [Tryz.params4] at hA
  obtain ⟨v0, vs0, d0, ds0, p0, q0, hargs, rfl, rfl, h0, r0⟩ := trodAll_cons hA
  obtain ⟨v1, vs1, d1, ds1, p1, q1, rfl, rfl, rfl, h1, r1⟩ := trodAll_cons r0
  obtain ⟨v2, vs2, d2, ds2, p2, q2, rfl, rfl, rfl, h2, r2⟩ := trodAll_cons r1
  obtain ⟨rfl, rfl, rfl⟩ := trodAll_nil r2
  obtain ⟨rfl, rfl⟩ := trodVars_none hV
  have f25 : flatTy Tryz.prog 20 25 = some [.b, .s, .b, .s, .b, .s, .b, .s] := by kernel_rfl
  have s25 : szOf Tryz.prog 25 = some 8 := by kernel_rfl
  obtain ⟨sa1, la1, sa2, la2, sa3, la3, sa4, la4, rfl, rfl, t0⟩ := open8 f25 s25 h0
  have f30 : flatTy Tryz.prog 20 30 = some [.b, .s, .b, .s, .b, .s, .b, .s] := by kernel_rfl
  have s30 : szOf Tryz.prog 30 = some 8 := by kernel_rfl
  obtain ⟨sb1, lb1, sb2, lb2, sb3, lb3, sb4, lb4, rfl, rfl, t1⟩ := open8 f30 s30 h1
  obtain ⟨sc1, lc1, sc2, lc2, sc3, lc3, sc4, lc4, rfl, rfl, t2⟩ := open8 f30 s30 h2
  obtain ⟨args⟩ := args
  simp only at hargs
  subst hargs
  refine (flat_calls ok_lLine (v := .bool true) rfl (fun β => ?_) rfl W).mono fun e W' ⟨he, hg⟩ => ?_
  · exact .cons _ _ _ _ (.agg _ _ (VRs.of_base rfl)) (.cons _ _ _ _ (.agg _ _ (VRs.of_base rfl)) (.cons _ _ _ _ (.agg _ _ (VRs.of_base rfl)) .nil))
  subst he
  exact ⟨_, rfl, _, _, _, [], [], [], hW', trodAll_mk1 (shut_bool Tryz.underlying4 _), trodAll_cons_mk (t0 _ _ _ _) (trodAll_cons_mk (t1 _ _ _ _) (trodAll_cons_mk (t2 _ _ _ _) rfl)), rfl, World.keptBut_mono (fun _ f => f.elim) hg, fun h => by cases h⟩
theorem line_row : Rows.IntersectLineSaid :=
  OpenClaim.holds_of_wide 4 Tryz.f4 rfl rfl rfl rfl rfl rfl rfl ⟨rfl, rfl, rfl, rfl, rfl⟩ rfl rfl rfl rfl rfl (by kernel_rfl) Tryz.func4 (by kernel_rfl)
    (of_decide_eq_true (by kernel_rfl)) (by unfold Func.isWrapper; first | (rw [if_pos (by decide +kernel)]; kernel_rfl) | (rw [if_neg (by decide +kernel)]; exact ⟨rfl, rfl⟩))
    (fun os started H enc _ => lifted os started H enc)
theorem line_card : Rows.IntersectLineCardSaid :=
  Claim7.holds_tied_plain_at .later [] [.data, .pinned] true (true, "87d1f654cc4a0e09aecc18c13eca05ef497d410c4b7a68b47c36049caa7d776b") false line_row (fun _ h => by cases h) (by kernel_rfl) (fun _ h => by cases h) intersectLine_row_tie rfl ⟨rfl, rfl⟩ (by kernel_rfl) rfl
    (fun f fn hf hfn => by
      obtain rfl : f = 4 := Option.some.inj ((show Tryz.prog.funcNamed "voussoir/voussoirlaw06.IntersectLine" = some 4 by kernel_rfl).symm.trans hf) |>.symm
      obtain rfl : fn = Tryz.f4 := (Option.some.inj (Tryz.func4.symm.trans hfn)).symm
      exact ⟨by kernel_rfl, fun j t ht => by
        rw [Tryz.params4] at ht
        have hm : t ∈ [25, 30, 30] := by simpa using Array.mem_of_getElem? ht
        have hall : ([25, 30, 30].all fun u => !Tryz.prog.wantsStandIn u) = true := by kernel_rfl
        exact (show Tryz.prog.wantsStandIn t = false by simpa using List.all_eq_true.1 hall t hm)⟩)
    (by kernel_rfl)
end Go.Proofs.YtcmhlhgddifpeaaGreatDoor
end
