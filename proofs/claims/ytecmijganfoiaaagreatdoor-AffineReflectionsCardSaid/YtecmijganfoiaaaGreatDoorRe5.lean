/-
  AffineReflections: for every input the law returns true, and the arguments read as before. Nothing is asked of the input.
-/
import Derived.Test.YtecmijganfoiaaaGreatDoorRe4
import Derived.Test.YtecmijganfoiaaaGreatDoorCards
import Derived.Test.YtecmijganfoiaaaGreatDoorTie
import Derived.ProofKit
import Derived.OpenShut
import Derived.LaidMore
import Derived.Lay
import Derived.SevenTiedAt
section
set_option linter.unusedVariables false
set_option linter.unusedSimpArgs false
set_option linter.unusedSectionVars false
namespace Go.Proofs.YtecmijganfoiaaaGreatDoor
open Go.ChangeShapes Go.WideShapes Go.ChangeAt Go.RowKit Go.Eng
theorem own : ownKnob Tryz.prog.godebug = none := by kernel_rfl
set_option maxRecDepth 20000 in
set_option maxHeartbeats 4000000 in
theorem opens0 {t : TypeId} (hf : K.kiTy Tryz.prog 20 t = some [.b, .s, .b, .s, .b, .s, .b, .s]) (hs : szOf Tryz.prog t = some 8) {H : Type} {enc : TypeId × Value → H} {w : World} {v : Value} {d : DataW H} {ps : List MemPlace} {base : Nat} {spare : Nat → Bool} {held : Bool}
    (h : DataW.Trod enc Tryz.prog w base spare held t v d ps) :
    ∃ x0 x1 x2 x3 x4 x5 x6 x7, v = .agg ⟨[.bool x0, .string ⟨⟨x1⟩⟩, .bool x2, .string ⟨⟨x3⟩⟩, .bool x4, .string ⟨⟨x5⟩⟩, .bool x6, .string ⟨⟨x7⟩⟩]⟩ ∧ K.kmatch [.b, .s, .b, .s, .b, .s, .b, .s] [.bool x0, .string ⟨⟨x1⟩⟩, .bool x2, .string ⟨⟨x3⟩⟩, .bool x4, .string ⟨⟨x5⟩⟩, .bool x6, .string ⟨⟨x7⟩⟩] ∧ ps = [] ∧ ∀ w' base' spare' held', DataW.Trod enc Tryz.prog w' base' spare' held' t v d ps := by
  obtain ⟨h1, h2, h3⟩ := K.trod_plain hf hs rfl h
  generalize hc : v.cells.toList = cs at h1
  match cs, h1 with
  | [.bool x0, .string ⟨⟨x1⟩⟩, .bool x2, .string ⟨⟨x3⟩⟩, .bool x4, .string ⟨⟨x5⟩⟩, .bool x6, .string ⟨⟨x7⟩⟩], h1 =>
    exact ⟨x0, x1, x2, x3, x4, x5, x6, x7, K.agg_of hc (by simp), h1, h2, h3⟩
set_option maxRecDepth 100000 in
theorem lifted (os : Os) (started : os.Started) (H : Type) (enc : TypeId × Value → H) :
    ReturnsInHanded {} Tryz.checked os 5 .any (fun w args => (Rows.affineReflectionsSpec.pre enc Tryz.prog Tryz.f5 [] false w args ∧ laidMetH Tryz.prog Rows.affineReflectionsRow.laid w) ∧ sizedMet enc Tryz.prog Tryz.f5 (OpenSpec.ofChange Rows.affineReflectionsSpec) false w args)
      (Rows.affineReflectionsSpec.post enc Tryz.prog Tryz.f5 false true false false) := by
  refine returnsInHanded_of_change_and (C := Tryz.checked) (X := fun w _ => laidMetH Tryz.prog Rows.affineReflectionsRow.laid w) (fun _ _ _ hh h => h.of_heap hh) own started (by kernel_rfl) Tryz.func5
    (ChangeSpec.witness_shaped (enc := enc) (C := Tryz.checked) (os := os) (X := fun w _ => laidMetH Tryz.prog Rows.affineReflectionsRow.laid w) false (World.laidAll Tryz.prog os Rows.affineReflectionsRow.laid)
      #[.agg ⟨[.bool false, .string ⟨⟨[]⟩⟩, .bool false, .string ⟨⟨[]⟩⟩, .bool false, .string ⟨⟨[]⟩⟩, .bool false, .string ⟨⟨[]⟩⟩]⟩, .agg ⟨[.bool false, .string ⟨⟨[]⟩⟩, .bool false, .string ⟨⟨[]⟩⟩, .bool false, .string ⟨⟨[]⟩⟩, .bool false, .string ⟨⟨[]⟩⟩]⟩] 8 (World.laidAll_os _ _ _)
      (World.shaped_of_ZipB (by kernel_rfl) (by kernel_rfl)) (by kernel_rfl) (by kernel_rfl) (by kernel_rfl)
      (by rw [MakeChecks.laidMetH_plain _ _ _ (by kernel_rfl)]; exact laidMet_laidAll _ (by kernel_rfl) (by kernel_rfl))) ?_
  intro W base args ds gs before hval0 hW _ _ _ _
  have hW' := hW
  obtain ⟨p, q, hA0, hV, rfl, _, _⟩ := hW
  have hA : DataW.TrodAll enc Tryz.prog W 0 (fun _ => true) true Tryz.f5.params.toList args.toList ds p := hA0
  rw [Tryz.params5] at hA
  obtain ⟨v0, vs0, d0, ds0, p0, q0, hargs, rfl, rfl, h0, r0⟩ := trodAll_cons hA
  obtain ⟨v1, vs1, d1, ds1, p1, q1, rfl, rfl, rfl, h1, r1⟩ := trodAll_cons r0
  obtain ⟨rfl, rfl, rfl⟩ := trodAll_nil r1
  obtain ⟨rfl, rfl⟩ := trodVars_none hV
  obtain ⟨ax0, ax1, ax2, ax3, ax4, ax5, ax6, ax7, rfl, m0, rfl, t0⟩ := opens0 (by kernel_rfl) (by kernel_rfl) h0
  obtain ⟨bx0, bx1, bx2, bx3, bx4, bx5, bx6, bx7, rfl, m1, rfl, t1⟩ := opens0 (by kernel_rfl) (by kernel_rfl) h1
  obtain ⟨args⟩ := args
  simp only at hargs
  subst hargs
  refine (K.flat_calls ok_LRefl (v := .bool true) rfl (fun β => ?_) rfl W).mono fun e W' ⟨he, hg⟩ => ?_
  · exact .cons _ _ _ _ (.agg _ _ (VRs.of_base rfl)) (.cons _ _ _ _ (.agg _ _ (VRs.of_base rfl)) .nil)
  subst he
  exact ⟨_, rfl, _, _, _, [], [], [], hW', trodAll_mk1 (shut_bool Tryz.underlying4 _), trodAll_cons_mk (t0 _ _ _ _) (trodAll_cons_mk (t1 _ _ _ _) rfl), rfl, World.keptBut_mono (fun _ f => f.elim) hg, fun h => by cases h⟩
theorem law_row : Rows.AffineReflectionsSaid :=
  OpenClaim.holds_of_wide 5 Tryz.f5 rfl rfl rfl rfl rfl rfl rfl ⟨rfl, rfl, rfl, rfl, rfl⟩ rfl rfl rfl rfl rfl (by kernel_rfl) Tryz.func5 (by kernel_rfl)
    (of_decide_eq_true (by kernel_rfl)) (by unfold Func.isWrapper; first | (rw [if_pos (by decide +kernel)]; kernel_rfl) | (rw [if_neg (by decide +kernel)]; exact ⟨rfl, rfl⟩))
    (fun os started H enc _ => lifted os started H enc)
theorem law_card : Rows.AffineReflectionsCardSaid :=
  Claim7.holds_tied_plain_at .later [] [.data, .pinned] true (true, "6328b5834812c0b8b4b2167a9b36b40b3727d1656a9f2706b4658581e615960e") false law_row (fun _ h => by cases h) (by kernel_rfl) (fun _ h => by cases h) affineReflections_row_tie rfl ⟨rfl, rfl⟩ (by kernel_rfl) rfl
    (fun f fn hf hfn => by
      obtain rfl : f = 5 := Option.some.inj ((show Tryz.prog.funcNamed "voussoir/voussoirlaw07.AffineReflections" = some 5 by kernel_rfl).symm.trans hf) |>.symm
      obtain rfl : fn = Tryz.f5 := (Option.some.inj (Tryz.func5.symm.trans hfn)).symm
      exact ⟨by kernel_rfl, fun j t ht => by
        rw [Tryz.params5] at ht
        have hm : t ∈ [39, 48] := by simpa using Array.mem_of_getElem? ht
        have hall : ([39, 48].all fun u => !Tryz.prog.wantsStandIn u) = true := by kernel_rfl
        exact (show Tryz.prog.wantsStandIn t = false by simpa using List.all_eq_true.1 hall t hm)⟩)
    (by kernel_rfl)
end Go.Proofs.YtecmijganfoiaaaGreatDoor
end
