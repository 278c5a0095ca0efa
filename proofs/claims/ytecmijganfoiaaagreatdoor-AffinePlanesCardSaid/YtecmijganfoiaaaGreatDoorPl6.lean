/-
  AffinePlanes: for every input the law returns true, and the arguments read as before. Nothing is asked of the input.
-/
import Derived.Test.YtecmijganfoiaaaGreatDoorPl5
import Derived.Test.YtecmijganfoiaaaGreatDoorCards
import Derived.Test.YtecmijganfoiaaaGreatDoorTie
import Derived.ProofKit
import Derived.OpenShut
import Derived.LaidMore
import Derived.Lay
import Derived.SevenTiedAt
section
set_option linter.unusedVariables false
set_option linter.unusedSimpArgs false
set_option linter.unusedSectionVars false
namespace Go.Proofs.YtecmijganfoiaaaGreatDoor
open Go.ChangeShapes Go.WideShapes Go.ChangeAt Go.RowKit Go.Eng
theorem own : ownKnob Tryz.prog.godebug = none := by kernel_rfl
theorem km_b {ks : List K.Ki} {cs : List Value} (h : K.kmatch (.b :: ks) cs) : ∃ x r, cs = .bool x :: r ∧ K.kmatch ks r := by
  match cs, h with
  | .bool x :: r, h => exact ⟨x, r, rfl, h⟩
theorem km_s {ks : List K.Ki} {cs : List Value} (h : K.kmatch (.s :: ks) cs) : ∃ x r, cs = .string ⟨⟨x⟩⟩ :: r ∧ K.kmatch ks r := by
  match cs, h with
  | .string ⟨⟨x⟩⟩ :: r, h => exact ⟨x, r, rfl, h.2⟩
theorem km_nil {cs : List Value} (h : K.kmatch [] cs) : cs = [] := by
  match cs, h with
  | [], _ => rfl
set_option maxRecDepth 20000 in
set_option maxHeartbeats 4000000 in
theorem opens0 {t : TypeId} (hf : K.kiTy Tryz.prog 20 t = some [.b, .s, .s, .b, .s, .s, .b, .s, .s, .b, .s, .s, .b, .s, .s, .b, .s, .s, .b, .s, .s, .b, .s, .s, .b, .s, .s, .b, .s, .s, .b, .s, .s, .b, .s, .s]) (hs : szOf Tryz.prog t = some 36) {H : Type} {enc : TypeId × Value → H} {w : World} {v : Value} {d : DataW H} {ps : List MemPlace} {base : Nat} {spare : Nat → Bool} {held : Bool}
    (h : DataW.Trod enc Tryz.prog w base spare held t v d ps) :
    ∃ x0 x1 x2 x3 x4 x5 x6 x7 x8 x9 x10 x11 x12 x13 x14 x15 x16 x17 x18 x19 x20 x21 x22 x23 x24 x25 x26 x27 x28 x29 x30 x31 x32 x33 x34 x35, v = .agg ⟨[.bool x0, .string ⟨⟨x1⟩⟩, .string ⟨⟨x2⟩⟩, .bool x3, .string ⟨⟨x4⟩⟩, .string ⟨⟨x5⟩⟩, .bool x6, .string ⟨⟨x7⟩⟩, .string ⟨⟨x8⟩⟩, .bool x9, .string ⟨⟨x10⟩⟩, .string ⟨⟨x11⟩⟩, .bool x12, .string ⟨⟨x13⟩⟩, .string ⟨⟨x14⟩⟩, .bool x15, .string ⟨⟨x16⟩⟩, .string ⟨⟨x17⟩⟩, .bool x18, .string ⟨⟨x19⟩⟩, .string ⟨⟨x20⟩⟩, .bool x21, .string ⟨⟨x22⟩⟩, .string ⟨⟨x23⟩⟩, .bool x24, .string ⟨⟨x25⟩⟩, .string ⟨⟨x26⟩⟩, .bool x27, .string ⟨⟨x28⟩⟩, .string ⟨⟨x29⟩⟩, .bool x30, .string ⟨⟨x31⟩⟩, .string ⟨⟨x32⟩⟩, .bool x33, .string ⟨⟨x34⟩⟩, .string ⟨⟨x35⟩⟩]⟩ ∧ K.kmatch [.b, .s, .s, .b, .s, .s, .b, .s, .s, .b, .s, .s, .b, .s, .s, .b, .s, .s, .b, .s, .s, .b, .s, .s, .b, .s, .s, .b, .s, .s, .b, .s, .s, .b, .s, .s] [.bool x0, .string ⟨⟨x1⟩⟩, .string ⟨⟨x2⟩⟩, .bool x3, .string ⟨⟨x4⟩⟩, .string ⟨⟨x5⟩⟩, .bool x6, .string ⟨⟨x7⟩⟩, .string ⟨⟨x8⟩⟩, .bool x9, .string ⟨⟨x10⟩⟩, .string ⟨⟨x11⟩⟩, .bool x12, .string ⟨⟨x13⟩⟩, .string ⟨⟨x14⟩⟩, .bool x15, .string ⟨⟨x16⟩⟩, .string ⟨⟨x17⟩⟩, .bool x18, .string ⟨⟨x19⟩⟩, .string ⟨⟨x20⟩⟩, .bool x21, .string ⟨⟨x22⟩⟩, .string ⟨⟨x23⟩⟩, .bool x24, .string ⟨⟨x25⟩⟩, .string ⟨⟨x26⟩⟩, .bool x27, .string ⟨⟨x28⟩⟩, .string ⟨⟨x29⟩⟩, .bool x30, .string ⟨⟨x31⟩⟩, .string ⟨⟨x32⟩⟩, .bool x33, .string ⟨⟨x34⟩⟩, .string ⟨⟨x35⟩⟩] ∧ ps = [] ∧ ∀ w' base' spare' held', DataW.Trod enc Tryz.prog w' base' spare' held' t v d ps := by
  obtain ⟨h1, h2, h3⟩ := K.trod_plain hf hs rfl h
  generalize hc : v.cells.toList = cs at h1
  have k0 := h1
  obtain ⟨x0, r0, rfl, k1⟩ := km_b k0
  obtain ⟨x1, r1, rfl, k2⟩ := km_s k1
  obtain ⟨x2, r2, rfl, k3⟩ := km_s k2
  obtain ⟨x3, r3, rfl, k4⟩ := km_b k3
  obtain ⟨x4, r4, rfl, k5⟩ := km_s k4
  obtain ⟨x5, r5, rfl, k6⟩ := km_s k5
  obtain ⟨x6, r6, rfl, k7⟩ := km_b k6
  obtain ⟨x7, r7, rfl, k8⟩ := km_s k7
  obtain ⟨x8, r8, rfl, k9⟩ := km_s k8
  obtain ⟨x9, r9, rfl, k10⟩ := km_b k9
  obtain ⟨x10, r10, rfl, k11⟩ := km_s k10
  obtain ⟨x11, r11, rfl, k12⟩ := km_s k11
  obtain ⟨x12, r12, rfl, k13⟩ := km_b k12
  obtain ⟨x13, r13, rfl, k14⟩ := km_s k13
  obtain ⟨x14, r14, rfl, k15⟩ := km_s k14
  obtain ⟨x15, r15, rfl, k16⟩ := km_b k15
  obtain ⟨x16, r16, rfl, k17⟩ := km_s k16
  obtain ⟨x17, r17, rfl, k18⟩ := km_s k17
  obtain ⟨x18, r18, rfl, k19⟩ := km_b k18
  obtain ⟨x19, r19, rfl, k20⟩ := km_s k19
  obtain ⟨x20, r20, rfl, k21⟩ := km_s k20
  obtain ⟨x21, r21, rfl, k22⟩ := km_b k21
  obtain ⟨x22, r22, rfl, k23⟩ := km_s k22
  obtain ⟨x23, r23, rfl, k24⟩ := km_s k23
  obtain ⟨x24, r24, rfl, k25⟩ := km_b k24
  obtain ⟨x25, r25, rfl, k26⟩ := km_s k25
  obtain ⟨x26, r26, rfl, k27⟩ := km_s k26
  obtain ⟨x27, r27, rfl, k28⟩ := km_b k27
  obtain ⟨x28, r28, rfl, k29⟩ := km_s k28
  obtain ⟨x29, r29, rfl, k30⟩ := km_s k29
  obtain ⟨x30, r30, rfl, k31⟩ := km_b k30
  obtain ⟨x31, r31, rfl, k32⟩ := km_s k31
  obtain ⟨x32, r32, rfl, k33⟩ := km_s k32
  obtain ⟨x33, r33, rfl, k34⟩ := km_b k33
  obtain ⟨x34, r34, rfl, k35⟩ := km_s k34
  obtain ⟨x35, r35, rfl, k36⟩ := km_s k35
  obtain rfl := km_nil k36
  exact ⟨x0, x1, x2, x3, x4, x5, x6, x7, x8, x9, x10, x11, x12, x13, x14, x15, x16, x17, x18, x19, x20, x21, x22, x23, x24, x25, x26, x27, x28, x29, x30, x31, x32, x33, x34, x35, K.agg_of hc (by simp), h1, h2, h3⟩
set_option maxRecDepth 20000 in
set_option maxHeartbeats 4000000 in
theorem opens1 {t : TypeId} (hf : K.kiTy Tryz.prog 20 t = some [.b, .s, .b, .s, .b, .s, .b, .s]) (hs : szOf Tryz.prog t = some 8) {H : Type} {enc : TypeId × Value → H} {w : World} {v : Value} {d : DataW H} {ps : List MemPlace} {base : Nat} {spare : Nat → Bool} {held : Bool}
    (h : DataW.Trod enc Tryz.prog w base spare held t v d ps) :
    ∃ x0 x1 x2 x3 x4 x5 x6 x7, v = .agg ⟨[.bool x0, .string ⟨⟨x1⟩⟩, .bool x2, .string ⟨⟨x3⟩⟩, .bool x4, .string ⟨⟨x5⟩⟩, .bool x6, .string ⟨⟨x7⟩⟩]⟩ ∧ K.kmatch [.b, .s, .b, .s, .b, .s, .b, .s] [.bool x0, .string ⟨⟨x1⟩⟩, .bool x2, .string ⟨⟨x3⟩⟩, .bool x4, .string ⟨⟨x5⟩⟩, .bool x6, .string ⟨⟨x7⟩⟩] ∧ ps = [] ∧ ∀ w' base' spare' held', DataW.Trod enc Tryz.prog w' base' spare' held' t v d ps := by
  obtain ⟨h1, h2, h3⟩ := K.trod_plain hf hs rfl h
  generalize hc : v.cells.toList = cs at h1
  match cs, h1 with
  | [.bool x0, .string ⟨⟨x1⟩⟩, .bool x2, .string ⟨⟨x3⟩⟩, .bool x4, .string ⟨⟨x5⟩⟩, .bool x6, .string ⟨⟨x7⟩⟩], h1 =>
    exact ⟨x0, x1, x2, x3, x4, x5, x6, x7, K.agg_of hc (by simp), h1, h2, h3⟩
set_option maxRecDepth 100000 in
theorem lifted (os : Os) (started : os.Started) (H : Type) (enc : TypeId × Value → H) :
    ReturnsInHanded {} Tryz.checked os 7 .any (fun w args => (Rows.affinePlanesSpec.pre enc Tryz.prog Tryz.f7 [] false w args ∧ laidMetH Tryz.prog Rows.affinePlanesRow.laid w) ∧ sizedMet enc Tryz.prog Tryz.f7 (OpenSpec.ofChange Rows.affinePlanesSpec) false w args)
      (Rows.affinePlanesSpec.post enc Tryz.prog Tryz.f7 false true false false) := by
  refine returnsInHanded_of_change_and (C := Tryz.checked) (X := fun w _ => laidMetH Tryz.prog Rows.affinePlanesRow.laid w) (fun _ _ _ hh h => h.of_heap hh) own started (by kernel_rfl) Tryz.func7
    (ChangeSpec.witness_shaped (enc := enc) (C := Tryz.checked) (os := os) (X := fun w _ => laidMetH Tryz.prog Rows.affinePlanesRow.laid w) false (World.laidAll Tryz.prog os Rows.affinePlanesRow.laid)
      #[.agg ⟨[.bool false, .string ⟨⟨[]⟩⟩, .string ⟨⟨[]⟩⟩, .bool false, .string ⟨⟨[]⟩⟩, .string ⟨⟨[]⟩⟩, .bool false, .string ⟨⟨[]⟩⟩, .string ⟨⟨[]⟩⟩, .bool false, .string ⟨⟨[]⟩⟩, .string ⟨⟨[]⟩⟩, .bool false, .string ⟨⟨[]⟩⟩, .string ⟨⟨[]⟩⟩, .bool false, .string ⟨⟨[]⟩⟩, .string ⟨⟨[]⟩⟩, .bool false, .string ⟨⟨[]⟩⟩, .string ⟨⟨[]⟩⟩, .bool false, .string ⟨⟨[]⟩⟩, .string ⟨⟨[]⟩⟩, .bool false, .string ⟨⟨[]⟩⟩, .string ⟨⟨[]⟩⟩, .bool false, .string ⟨⟨[]⟩⟩, .string ⟨⟨[]⟩⟩, .bool false, .string ⟨⟨[]⟩⟩, .string ⟨⟨[]⟩⟩, .bool false, .string ⟨⟨[]⟩⟩, .string ⟨⟨[]⟩⟩]⟩, .agg ⟨[.bool false, .string ⟨⟨[]⟩⟩, .bool false, .string ⟨⟨[]⟩⟩, .bool false, .string ⟨⟨[]⟩⟩, .bool false, .string ⟨⟨[]⟩⟩]⟩] 8 (World.laidAll_os _ _ _)
      (World.shaped_of_ZipB (by kernel_rfl) (by kernel_rfl)) (by kernel_rfl) (by kernel_rfl) (by kernel_rfl)
      (by rw [MakeChecks.laidMetH_plain _ _ _ (by kernel_rfl)]; exact laidMet_laidAll _ (by kernel_rfl) (by kernel_rfl))) ?_
  intro W base args ds gs before hval0 hW _ _ _ _
  have hW' := hW
  have hval : ∀ (j : Nat) t v, Tryz.f7.params[j]? = some t → args.toList[j]? = some v → Value.okWide Tryz.prog W .any base t v := fun j t v h h' => hval0 j t v h (by simpa using h')
  obtain ⟨p, q, hA0, hV, rfl, _, _⟩ := hW
  have hA : DataW.TrodAll enc Tryz.prog W 0 (fun _ => true) true Tryz.f7.params.toList args.toList ds p := hA0
  rw [Tryz.params7] at hA
  obtain ⟨v0, vs0, d0, ds0, p0, q0, hargs, rfl, rfl, h0, r0⟩ := trodAll_cons hA
  obtain ⟨v1, vs1, d1, ds1, p1, q1, rfl, rfl, rfl, h1, r1⟩ := trodAll_cons r0
  obtain ⟨rfl, rfl, rfl⟩ := trodAll_nil r1
  obtain ⟨rfl, rfl⟩ := trodVars_none hV
  obtain ⟨ax0, ax1, ax2, ax3, ax4, ax5, ax6, ax7, ax8, ax9, ax10, ax11, ax12, ax13, ax14, ax15, ax16, ax17, ax18, ax19, ax20, ax21, ax22, ax23, ax24, ax25, ax26, ax27, ax28, ax29, ax30, ax31, ax32, ax33, ax34, ax35, rfl, m0, rfl, t0⟩ := opens0 (by kernel_rfl) (by kernel_rfl) h0
  obtain ⟨bx0, bx1, bx2, bx3, bx4, bx5, bx6, bx7, rfl, m1, rfl, t1⟩ := opens1 (by kernel_rfl) (by kernel_rfl) h1
  obtain ⟨args⟩ := args
  simp only at hargs
  subst hargs
  refine (K.flat_calls ok_LPls (v := .bool true) rfl (fun β => ?_) rfl W).mono fun e W' ⟨he, hg⟩ => ?_
  · exact .cons _ _ _ _ (.agg _ _ (VRs.of_base rfl)) (.cons _ _ _ _ (.agg _ _ (VRs.of_base rfl)) .nil)
  subst he
  exact ⟨_, rfl, _, _, _, [], [], [], hW', trodAll_mk1 (shut_bool Tryz.underlying4 _), trodAll_cons_mk (t0 _ _ _ _) (trodAll_cons_mk (t1 _ _ _ _) rfl), rfl, World.keptBut_mono (fun _ f => f.elim) hg, fun h => by cases h⟩
theorem law_row : Rows.AffinePlanesSaid :=
  OpenClaim.holds_of_wide 7 Tryz.f7 rfl rfl rfl rfl rfl rfl rfl ⟨rfl, rfl, rfl, rfl, rfl⟩ rfl rfl rfl rfl rfl (by kernel_rfl) Tryz.func7 (by kernel_rfl)
    (of_decide_eq_true (by kernel_rfl)) (by unfold Func.isWrapper; first | (rw [if_pos (by decide +kernel)]; kernel_rfl) | (rw [if_neg (by decide +kernel)]; exact ⟨rfl, rfl⟩))
    (fun os started H enc _ => lifted os started H enc)
theorem law_card : Rows.AffinePlanesCardSaid :=
  Claim7.holds_tied_plain_at .later [] [.data, .pinned] true (true, "6328b5834812c0b8b4b2167a9b36b40b3727d1656a9f2706b4658581e615960e") false law_row (fun _ h => by cases h) (by kernel_rfl) (fun _ h => by cases h) affinePlanes_row_tie rfl ⟨rfl, rfl⟩ (by kernel_rfl) rfl
    (fun f fn hf hfn => by
      obtain rfl : f = 7 := Option.some.inj ((show Tryz.prog.funcNamed "voussoir/voussoirlaw07.AffinePlanes" = some 7 by kernel_rfl).symm.trans hf) |>.symm
      obtain rfl : fn = Tryz.f7 := (Option.some.inj (Tryz.func7.symm.trans hfn)).symm
      exact ⟨by kernel_rfl, fun j t ht => by
        rw [Tryz.params7] at ht
        have hm : t ∈ [29, 48] := by simpa using Array.mem_of_getElem? ht
        have hall : ([29, 48].all fun u => !Tryz.prog.wantsStandIn u) = true := by kernel_rfl
        exact (show Tryz.prog.wantsStandIn t = false by simpa using List.all_eq_true.1 hall t hm)⟩)
    (by kernel_rfl)
end Go.Proofs.YtecmijganfoiaaaGreatDoor
end
