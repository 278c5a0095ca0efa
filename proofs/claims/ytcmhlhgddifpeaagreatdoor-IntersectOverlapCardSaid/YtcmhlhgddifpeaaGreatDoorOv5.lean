/-
  IntersectOverlap: for every input the law returns true, and the arguments read as before. Nothing is asked of the input.
-/
import Derived.Test.YtcmhlhgddifpeaaGreatDoorOv4
import Derived.Test.YtcmhlhgddifpeaaGreatDoorCards
import Derived.Test.YtcmhlhgddifpeaaGreatDoorTie
import Derived.ProofKit
import Derived.OpenShut
import Derived.LaidMore
import Derived.Lay
import Derived.SevenTiedAt
section
set_option linter.unusedVariables false
set_option linter.unusedSimpArgs false
set_option linter.unusedSectionVars false
namespace Go.Proofs.YtcmhlhgddifpeaaGreatDoor
open Go.ChangeShapes Go.WideShapes Go.ChangeAt Go.RowKit Go.Eng
theorem own : ownKnob Tryz.prog.godebug = none := by kernel_rfl
set_option maxRecDepth 20000 in
set_option maxHeartbeats 4000000 in
theorem opens0 {t : TypeId} (hf : flatTy Tryz.prog 20 t = some [.b, .s, .b, .s, .b, .s, .b, .s, .b, .s, .b, .s, .b, .s, .b, .s, .b, .s, .b, .s, .b, .s, .b, .s, .b, .s, .b, .s, .b, .s, .b, .s]) (hs : szOf Tryz.prog t = some 32) {H : Type} {enc : TypeId × Value → H} {w : World} {v : Value} {d : DataW H} {ps : List MemPlace} {base : Nat} {spare : Nat → Bool} {held : Bool}
    (h : DataW.Trod enc Tryz.prog w base spare held t v d ps) :
    ∃ x0 x1 x2 x3 x4 x5 x6 x7 x8 x9 x10 x11 x12 x13 x14 x15 x16 x17 x18 x19 x20 x21 x22 x23 x24 x25 x26 x27 x28 x29 x30 x31, v = .agg ⟨[.bool x0, .string ⟨⟨x1⟩⟩, .bool x2, .string ⟨⟨x3⟩⟩, .bool x4, .string ⟨⟨x5⟩⟩, .bool x6, .string ⟨⟨x7⟩⟩, .bool x8, .string ⟨⟨x9⟩⟩, .bool x10, .string ⟨⟨x11⟩⟩, .bool x12, .string ⟨⟨x13⟩⟩, .bool x14, .string ⟨⟨x15⟩⟩, .bool x16, .string ⟨⟨x17⟩⟩, .bool x18, .string ⟨⟨x19⟩⟩, .bool x20, .string ⟨⟨x21⟩⟩, .bool x22, .string ⟨⟨x23⟩⟩, .bool x24, .string ⟨⟨x25⟩⟩, .bool x26, .string ⟨⟨x27⟩⟩, .bool x28, .string ⟨⟨x29⟩⟩, .bool x30, .string ⟨⟨x31⟩⟩]⟩ ∧ ps = [] ∧ ∀ w' base' spare' held', DataW.Trod enc Tryz.prog w' base' spare' held' t v d ps := by
  obtain ⟨h1, h2, h3⟩ := trod_plain hf hs rfl h
  generalize hc : v.cells.toList = cs at h1
  match cs, h1 with
  | [.bool x0, .string ⟨⟨x1⟩⟩, .bool x2, .string ⟨⟨x3⟩⟩, .bool x4, .string ⟨⟨x5⟩⟩, .bool x6, .string ⟨⟨x7⟩⟩, .bool x8, .string ⟨⟨x9⟩⟩, .bool x10, .string ⟨⟨x11⟩⟩, .bool x12, .string ⟨⟨x13⟩⟩, .bool x14, .string ⟨⟨x15⟩⟩, .bool x16, .string ⟨⟨x17⟩⟩, .bool x18, .string ⟨⟨x19⟩⟩, .bool x20, .string ⟨⟨x21⟩⟩, .bool x22, .string ⟨⟨x23⟩⟩, .bool x24, .string ⟨⟨x25⟩⟩, .bool x26, .string ⟨⟨x27⟩⟩, .bool x28, .string ⟨⟨x29⟩⟩, .bool x30, .string ⟨⟨x31⟩⟩], _ =>
    exact ⟨x0, x1, x2, x3, x4, x5, x6, x7, x8, x9, x10, x11, x12, x13, x14, x15, x16, x17, x18, x19, x20, x21, x22, x23, x24, x25, x26, x27, x28, x29, x30, x31, agg_of hc (by simp), h2, h3⟩
set_option maxRecDepth 100000 in
theorem lifted (os : Os) (started : os.Started) (H : Type) (enc : TypeId × Value → H) :
    ReturnsInHanded {} Tryz.checked os 6 .any (fun w args => (Rows.intersectOverlapSpec.pre enc Tryz.prog Tryz.f6 [] false w args ∧ laidMetH Tryz.prog Rows.intersectOverlapRow.laid w) ∧ sizedMet enc Tryz.prog Tryz.f6 (OpenSpec.ofChange Rows.intersectOverlapSpec) false w args)
      (Rows.intersectOverlapSpec.post enc Tryz.prog Tryz.f6 false true false false) := by
  refine returnsInHanded_of_change_and (C := Tryz.checked) (X := fun w _ => laidMetH Tryz.prog Rows.intersectOverlapRow.laid w) (fun _ _ _ hh h => h.of_heap hh) own started (by kernel_rfl) Tryz.func6
    (ChangeSpec.witness_shaped (enc := enc) (C := Tryz.checked) (os := os) (X := fun w _ => laidMetH Tryz.prog Rows.intersectOverlapRow.laid w) false (World.laidAll Tryz.prog os Rows.intersectOverlapRow.laid)
      #[.agg ⟨[.bool false, .string ⟨⟨[]⟩⟩, .bool false, .string ⟨⟨[]⟩⟩, .bool false, .string ⟨⟨[]⟩⟩, .bool false, .string ⟨⟨[]⟩⟩, .bool false, .string ⟨⟨[]⟩⟩, .bool false, .string ⟨⟨[]⟩⟩, .bool false, .string ⟨⟨[]⟩⟩, .bool false, .string ⟨⟨[]⟩⟩, .bool false, .string ⟨⟨[]⟩⟩, .bool false, .string ⟨⟨[]⟩⟩, .bool false, .string ⟨⟨[]⟩⟩, .bool false, .string ⟨⟨[]⟩⟩, .bool false, .string ⟨⟨[]⟩⟩, .bool false, .string ⟨⟨[]⟩⟩, .bool false, .string ⟨⟨[]⟩⟩, .bool false, .string ⟨⟨[]⟩⟩]⟩] 8 (World.laidAll_os _ _ _)
      (World.shaped_of_ZipB (by kernel_rfl) (by kernel_rfl)) (by kernel_rfl) (by kernel_rfl) (by kernel_rfl)
      (by rw [MakeChecks.laidMetH_plain _ _ _ (by kernel_rfl)]; exact laidMet_laidAll _ (by kernel_rfl) (by kernel_rfl))) ?_
  intro W base args ds gs before hval0 hW _ _ _ _
  have hW' := hW
  obtain ⟨p, q, hA0, hV, rfl, _, _⟩ := hW
  have hA : DataW.TrodAll enc Tryz.prog W 0 (fun _ => true) true Tryz.f6.params.toList args.toList ds p := hA0
  rw [Tryz.params6] at hA
  obtain ⟨v0, vs0, d0, ds0, p0, q0, hargs, rfl, rfl, h0, r0⟩ := trodAll_cons hA
  obtain ⟨rfl, rfl, rfl⟩ := trodAll_nil r0
  obtain ⟨rfl, rfl⟩ := trodVars_none hV
  obtain ⟨ax0, ax1, ax2, ax3, ax4, ax5, ax6, ax7, ax8, ax9, ax10, ax11, ax12, ax13, ax14, ax15, ax16, ax17, ax18, ax19, ax20, ax21, ax22, ax23, ax24, ax25, ax26, ax27, ax28, ax29, ax30, ax31, rfl, rfl, t0⟩ := opens0 (by kernel_rfl) (by kernel_rfl) h0
  obtain ⟨args⟩ := args
  simp only at hargs
  subst hargs
  refine (flat_calls ok_lOver (v := .bool true) rfl (fun β => ?_) rfl W).mono fun e W' ⟨he, hg⟩ => ?_
  · exact .cons _ _ _ _ (.agg _ _ (VRs.of_base rfl)) .nil
  subst he
  exact ⟨_, rfl, _, _, _, [], [], [], hW', trodAll_mk1 (shut_bool Tryz.underlying4 _), trodAll_cons_mk (t0 _ _ _ _) rfl, rfl, World.keptBut_mono (fun _ f => f.elim) hg, fun h => by cases h⟩
theorem law_row : Rows.IntersectOverlapSaid :=
  OpenClaim.holds_of_wide 6 Tryz.f6 rfl rfl rfl rfl rfl rfl rfl ⟨rfl, rfl, rfl, rfl, rfl⟩ rfl rfl rfl rfl rfl (by kernel_rfl) Tryz.func6 (by kernel_rfl)
    (of_decide_eq_true (by kernel_rfl)) (by unfold Func.isWrapper; first | (rw [if_pos (by decide +kernel)]; kernel_rfl) | (rw [if_neg (by decide +kernel)]; exact ⟨rfl, rfl⟩))
    (fun os started H enc _ => lifted os started H enc)
theorem law_card : Rows.IntersectOverlapCardSaid :=
  Claim7.holds_tied_plain_at .later [] [.data, .pinned] true (true, "87d1f654cc4a0e09aecc18c13eca05ef497d410c4b7a68b47c36049caa7d776b") false law_row (fun _ h => by cases h) (by kernel_rfl) (fun _ h => by cases h) intersectOverlap_row_tie rfl ⟨rfl, rfl⟩ (by kernel_rfl) rfl
    (fun f fn hf hfn => by
      obtain rfl : f = 6 := Option.some.inj ((show Tryz.prog.funcNamed "voussoir/voussoirlaw06.IntersectOverlap" = some 6 by kernel_rfl).symm.trans hf) |>.symm
      obtain rfl : fn = Tryz.f6 := (Option.some.inj (Tryz.func6.symm.trans hfn)).symm
      exact ⟨by kernel_rfl, fun j t ht => by
        rw [Tryz.params6] at ht
        have hm : t ∈ [38] := by simpa using Array.mem_of_getElem? ht
        have hall : ([38].all fun u => !Tryz.prog.wantsStandIn u) = true := by kernel_rfl
        exact (show Tryz.prog.wantsStandIn t = false by simpa using List.all_eq_true.1 hall t hm)⟩)
    (by kernel_rfl)
end Go.Proofs.YtcmhlhgddifpeaaGreatDoor
end
