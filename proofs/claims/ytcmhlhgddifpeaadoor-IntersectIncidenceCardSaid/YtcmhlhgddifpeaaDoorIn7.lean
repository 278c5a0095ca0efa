/-
  IntersectIncidence: for every input the law returns true, and the arguments read as before. Nothing is asked of the input.
-/
import Derived.Test.YtcmhlhgddifpeaaDoorIn6
import Derived.Test.YtcmhlhgddifpeaaDoorCards
import Derived.Test.YtcmhlhgddifpeaaDoorTie
import Derived.ProofKit
import Derived.OpenShut
import Derived.LaidMore
import Derived.Lay
import Derived.SevenTiedAt
section
set_option linter.unusedVariables false
set_option linter.unusedSimpArgs false
set_option linter.unusedSectionVars false
namespace Go.Proofs.YtcmhlhgddifpeaaDoor
open Go.ChangeShapes Go.WideShapes Go.ChangeAt Go.RowKit Go.Eng
theorem own : ownKnob Tryd.prog.godebug = none := by kernel_rfl
set_option maxRecDepth 20000 in
set_option maxHeartbeats 4000000 in
theorem opens0 {t : TypeId} (hf : flatTy Tryd.prog 20 t = some [.b, .s, .b, .s, .b, .s, .b, .s, .b, .s, .b, .s, .b, .s, .b, .s, .b, .s, .b, .s, .b, .s, .b, .s]) (hs : szOf Tryd.prog t = some 24) {H : Type} {enc : TypeId × Value → H} {w : World} {v : Value} {d : DataW H} {ps : List MemPlace} {base : Nat} {spare : Nat → Bool} {held : Bool}
    (h : DataW.Trod enc Tryd.prog w base spare held t v d ps) :
    ∃ x0 x1 x2 x3 x4 x5 x6 x7 x8 x9 x10 x11 x12 x13 x14 x15 x16 x17 x18 x19 x20 x21 x22 x23, v = .agg ⟨[.bool x0, .string ⟨⟨x1⟩⟩, .bool x2, .string ⟨⟨x3⟩⟩, .bool x4, .string ⟨⟨x5⟩⟩, .bool x6, .string ⟨⟨x7⟩⟩, .bool x8, .string ⟨⟨x9⟩⟩, .bool x10, .string ⟨⟨x11⟩⟩, .bool x12, .string ⟨⟨x13⟩⟩, .bool x14, .string ⟨⟨x15⟩⟩, .bool x16, .string ⟨⟨x17⟩⟩, .bool x18, .string ⟨⟨x19⟩⟩, .bool x20, .string ⟨⟨x21⟩⟩, .bool x22, .string ⟨⟨x23⟩⟩]⟩ ∧ ps = [] ∧ ∀ w' base' spare' held', DataW.Trod enc Tryd.prog w' base' spare' held' t v d ps := by
  obtain ⟨h1, h2, h3⟩ := trod_plain hf hs rfl h
  generalize hc : v.cells.toList = cs at h1
  match cs, h1 with
  | [.bool x0, .string ⟨⟨x1⟩⟩, .bool x2, .string ⟨⟨x3⟩⟩, .bool x4, .string ⟨⟨x5⟩⟩, .bool x6, .string ⟨⟨x7⟩⟩, .bool x8, .string ⟨⟨x9⟩⟩, .bool x10, .string ⟨⟨x11⟩⟩, .bool x12, .string ⟨⟨x13⟩⟩, .bool x14, .string ⟨⟨x15⟩⟩, .bool x16, .string ⟨⟨x17⟩⟩, .bool x18, .string ⟨⟨x19⟩⟩, .bool x20, .string ⟨⟨x21⟩⟩, .bool x22, .string ⟨⟨x23⟩⟩], _ =>
    exact ⟨x0, x1, x2, x3, x4, x5, x6, x7, x8, x9, x10, x11, x12, x13, x14, x15, x16, x17, x18, x19, x20, x21, x22, x23, agg_of hc (by simp), h2, h3⟩
set_option maxRecDepth 20000 in
set_option maxHeartbeats 4000000 in
theorem opens1 {t : TypeId} (hf : flatTy Tryd.prog 20 t = some [.b, .s, .b, .s, .b, .s, .b, .s]) (hs : szOf Tryd.prog t = some 8) {H : Type} {enc : TypeId × Value → H} {w : World} {v : Value} {d : DataW H} {ps : List MemPlace} {base : Nat} {spare : Nat → Bool} {held : Bool}
    (h : DataW.Trod enc Tryd.prog w base spare held t v d ps) :
    ∃ x0 x1 x2 x3 x4 x5 x6 x7, v = .agg ⟨[.bool x0, .string ⟨⟨x1⟩⟩, .bool x2, .string ⟨⟨x3⟩⟩, .bool x4, .string ⟨⟨x5⟩⟩, .bool x6, .string ⟨⟨x7⟩⟩]⟩ ∧ ps = [] ∧ ∀ w' base' spare' held', DataW.Trod enc Tryd.prog w' base' spare' held' t v d ps := by
  obtain ⟨h1, h2, h3⟩ := trod_plain hf hs rfl h
  generalize hc : v.cells.toList = cs at h1
  match cs, h1 with
  | [.bool x0, .string ⟨⟨x1⟩⟩, .bool x2, .string ⟨⟨x3⟩⟩, .bool x4, .string ⟨⟨x5⟩⟩, .bool x6, .string ⟨⟨x7⟩⟩], _ =>
    exact ⟨x0, x1, x2, x3, x4, x5, x6, x7, agg_of hc (by simp), h2, h3⟩
set_option maxRecDepth 100000 in
theorem lifted (os : Os) (started : os.Started) (H : Type) (enc : TypeId × Value → H) :
    ReturnsInHanded {} Tryd.checked os 3 .any (fun w args => (Rows.intersectIncidenceSpec.pre enc Tryd.prog Tryd.f3 [] false w args ∧ laidMetH Tryd.prog Rows.intersectIncidenceRow.laid w) ∧ sizedMet enc Tryd.prog Tryd.f3 (OpenSpec.ofChange Rows.intersectIncidenceSpec) false w args)
      (Rows.intersectIncidenceSpec.post enc Tryd.prog Tryd.f3 false true false false) := by
  refine returnsInHanded_of_change_and (C := Tryd.checked) (X := fun w _ => laidMetH Tryd.prog Rows.intersectIncidenceRow.laid w) (fun _ _ _ hh h => h.of_heap hh) own started (by kernel_rfl) Tryd.func3
    (ChangeSpec.witness_shaped (enc := enc) (C := Tryd.checked) (os := os) (X := fun w _ => laidMetH Tryd.prog Rows.intersectIncidenceRow.laid w) false (World.laidAll Tryd.prog os Rows.intersectIncidenceRow.laid)
      #[.agg ⟨[.bool false, .string ⟨⟨[]⟩⟩, .bool false, .string ⟨⟨[]⟩⟩, .bool false, .string ⟨⟨[]⟩⟩, .bool false, .string ⟨⟨[]⟩⟩, .bool false, .string ⟨⟨[]⟩⟩, .bool false, .string ⟨⟨[]⟩⟩, .bool false, .string ⟨⟨[]⟩⟩, .bool false, .string ⟨⟨[]⟩⟩, .bool false, .string ⟨⟨[]⟩⟩, .bool false, .string ⟨⟨[]⟩⟩, .bool false, .string ⟨⟨[]⟩⟩, .bool false, .string ⟨⟨[]⟩⟩]⟩, .agg ⟨[.bool false, .string ⟨⟨[]⟩⟩, .bool false, .string ⟨⟨[]⟩⟩, .bool false, .string ⟨⟨[]⟩⟩, .bool false, .string ⟨⟨[]⟩⟩]⟩, .agg ⟨[.bool false, .string ⟨⟨[]⟩⟩, .bool false, .string ⟨⟨[]⟩⟩, .bool false, .string ⟨⟨[]⟩⟩, .bool false, .string ⟨⟨[]⟩⟩]⟩] 8 (World.laidAll_os _ _ _)
      (World.shaped_of_ZipB (by kernel_rfl) (by kernel_rfl)) (by kernel_rfl) (by kernel_rfl) (by kernel_rfl)
      (by rw [MakeChecks.laidMetH_plain _ _ _ (by kernel_rfl)]; exact laidMet_laidAll _ (by kernel_rfl) (by kernel_rfl))) ?_
  intro W base args ds gs before hval0 hW _ _ _ _
  have hW' := hW
  obtain ⟨p, q, hA0, hV, rfl, _, _⟩ := hW
  have hA : DataW.TrodAll enc Tryd.prog W 0 (fun _ => true) true Tryd.f3.params.toList args.toList ds p := hA0
  rw [Tryd.params3] at hA
  obtain ⟨v0, vs0, d0, ds0, p0, q0, hargs, rfl, rfl, h0, r0⟩ := trodAll_cons hA
  obtain ⟨v1, vs1, d1, ds1, p1, q1, rfl, rfl, rfl, h1, r1⟩ := trodAll_cons r0
  obtain ⟨v2, vs2, d2, ds2, p2, q2, rfl, rfl, rfl, h2, r2⟩ := trodAll_cons r1
  obtain ⟨rfl, rfl, rfl⟩ := trodAll_nil r2
  obtain ⟨rfl, rfl⟩ := trodVars_none hV
  obtain ⟨ax0, ax1, ax2, ax3, ax4, ax5, ax6, ax7, ax8, ax9, ax10, ax11, ax12, ax13, ax14, ax15, ax16, ax17, ax18, ax19, ax20, ax21, ax22, ax23, rfl, rfl, t0⟩ := opens0 (by kernel_rfl) (by kernel_rfl) h0
  obtain ⟨bx0, bx1, bx2, bx3, bx4, bx5, bx6, bx7, rfl, rfl, t1⟩ := opens1 (by kernel_rfl) (by kernel_rfl) h1
  obtain ⟨cx0, cx1, cx2, cx3, cx4, cx5, cx6, cx7, rfl, rfl, t2⟩ := opens1 (by kernel_rfl) (by kernel_rfl) h2
  obtain ⟨args⟩ := args
  simp only at hargs
  subst hargs
  refine (flat_calls ok_lInc (v := .bool true) rfl (fun β => ?_) rfl W).mono fun e W' ⟨he, hg⟩ => ?_
  · exact .cons _ _ _ _ (.agg _ _ (VRs.of_base rfl)) (.cons _ _ _ _ (.agg _ _ (VRs.of_base rfl)) (.cons _ _ _ _ (.agg _ _ (VRs.of_base rfl)) .nil))
  subst he
  exact ⟨_, rfl, _, _, _, [], [], [], hW', trodAll_mk1 (shut_bool Tryd.underlying4 _), trodAll_cons_mk (t0 _ _ _ _) (trodAll_cons_mk (t1 _ _ _ _) (trodAll_cons_mk (t2 _ _ _ _) rfl)), rfl, World.keptBut_mono (fun _ f => f.elim) hg, fun h => by cases h⟩
theorem law_row : Rows.IntersectIncidenceSaid :=
  OpenClaim.holds_of_wide 3 Tryd.f3 rfl rfl rfl rfl rfl rfl rfl ⟨rfl, rfl, rfl, rfl, rfl⟩ rfl rfl rfl rfl rfl (by kernel_rfl) Tryd.func3 (by kernel_rfl)
    (of_decide_eq_true (by kernel_rfl)) (by unfold Func.isWrapper; first | (rw [if_pos (by decide +kernel)]; kernel_rfl) | (rw [if_neg (by decide +kernel)]; exact ⟨rfl, rfl⟩))
    (fun os started H enc _ => lifted os started H enc)
theorem law_card : Rows.IntersectIncidenceCardSaid :=
  Claim7.holds_tied_plain_at .later [] [.data, .pinned] true (true, "ef5ba3de423a33b44bf9c8987cf3004f11c08f64e2fbbb61a281a659456918b8") false law_row (fun _ h => by cases h) (by kernel_rfl) (fun _ h => by cases h) intersectIncidence_row_tie rfl ⟨rfl, rfl⟩ (by kernel_rfl) rfl
    (fun f fn hf hfn => by
      obtain rfl : f = 3 := Option.some.inj ((show Tryd.prog.funcNamed "voussoir/voussoirlaw06.IntersectIncidence" = some 3 by kernel_rfl).symm.trans hf) |>.symm
      obtain rfl : fn = Tryd.f3 := (Option.some.inj (Tryd.func3.symm.trans hfn)).symm
      exact ⟨by kernel_rfl, fun j t ht => by
        rw [Tryd.params3] at ht
        have hm : t ∈ [26, 28, 28] := by simpa using Array.mem_of_getElem? ht
        have hall : ([26, 28, 28].all fun u => !Tryd.prog.wantsStandIn u) = true := by kernel_rfl
        exact (show Tryd.prog.wantsStandIn t = false by simpa using List.all_eq_true.1 hall t hm)⟩)
    (by kernel_rfl)
end Go.Proofs.YtcmhlhgddifpeaaDoor
end
