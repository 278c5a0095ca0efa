/-
  AffineRotations: for every input the law returns true, and the arguments read as before. Nothing is asked of the input.
-/
import Derived.Test.YtecmijganfoiaaaGreatDoorRo5
import Derived.Test.YtecmijganfoiaaaGreatDoorCards
import Derived.Test.YtecmijganfoiaaaGreatDoorTie
import Derived.ProofKit
import Derived.OpenShut
import Derived.LaidMore
import Derived.Lay
import Derived.SevenTiedAt
section
set_option linter.unusedVariables false
set_option linter.unusedSimpArgs false
set_option linter.unusedSectionVars false
namespace Go.Proofs.YtecmijganfoiaaaGreatDoor
open Go.ChangeShapes Go.WideShapes Go.ChangeAt Go.RowKit Go.Eng
theorem own : ownKnob Tryz.prog.godebug = none := by kernel_rfl
set_option maxRecDepth 20000 in
set_option maxHeartbeats 4000000 in
theorem opens1 {t : TypeId} (hf : K.kiTy Tryz.prog 20 t = some [.b, .s, .s, .b, .s, .s, .b, .s, .s]) (hs : szOf Tryz.prog t = some 9) {H : Type} {enc : TypeId × Value → H} {w : World} {v : Value} {d : DataW H} {ps : List MemPlace} {base : Nat} {spare : Nat → Bool} {held : Bool}
    (h : DataW.Trod enc Tryz.prog w base spare held t v d ps) :
    ∃ x0 x1 x2 x3 x4 x5 x6 x7 x8, v = .agg ⟨[.bool x0, .string ⟨⟨x1⟩⟩, .string ⟨⟨x2⟩⟩, .bool x3, .string ⟨⟨x4⟩⟩, .string ⟨⟨x5⟩⟩, .bool x6, .string ⟨⟨x7⟩⟩, .string ⟨⟨x8⟩⟩]⟩ ∧ K.kmatch [.b, .s, .s, .b, .s, .s, .b, .s, .s] [.bool x0, .string ⟨⟨x1⟩⟩, .string ⟨⟨x2⟩⟩, .bool x3, .string ⟨⟨x4⟩⟩, .string ⟨⟨x5⟩⟩, .bool x6, .string ⟨⟨x7⟩⟩, .string ⟨⟨x8⟩⟩] ∧ ps = [] ∧ ∀ w' base' spare' held', DataW.Trod enc Tryz.prog w' base' spare' held' t v d ps := by
  obtain ⟨h1, h2, h3⟩ := K.trod_plain hf hs rfl h
  generalize hc : v.cells.toList = cs at h1
  match cs, h1 with
  | [.bool x0, .string ⟨⟨x1⟩⟩, .string ⟨⟨x2⟩⟩, .bool x3, .string ⟨⟨x4⟩⟩, .string ⟨⟨x5⟩⟩, .bool x6, .string ⟨⟨x7⟩⟩, .string ⟨⟨x8⟩⟩], h1 =>
    exact ⟨x0, x1, x2, x3, x4, x5, x6, x7, x8, K.agg_of hc (by simp), h1, h2, h3⟩
set_option maxRecDepth 100000 in
theorem lifted (os : Os) (started : os.Started) (H : Type) (enc : TypeId × Value → H) :
    ReturnsInHanded {} Tryz.checked os 3 .any (fun w args => (Rows.affineRotationsSpec.pre enc Tryz.prog Tryz.f3 [] false w args ∧ laidMetH Tryz.prog Rows.affineRotationsRow.laid w) ∧ sizedMet enc Tryz.prog Tryz.f3 (OpenSpec.ofChange Rows.affineRotationsSpec) false w args)
      (Rows.affineRotationsSpec.post enc Tryz.prog Tryz.f3 false true false false) := by
  refine returnsInHanded_of_change_and (C := Tryz.checked) (X := fun w _ => laidMetH Tryz.prog Rows.affineRotationsRow.laid w) (fun _ _ _ hh h => h.of_heap hh) own started (by kernel_rfl) Tryz.func3
    (ChangeSpec.witness_shaped (enc := enc) (C := Tryz.checked) (os := os) (X := fun w _ => laidMetH Tryz.prog Rows.affineRotationsRow.laid w) false (World.laidAll Tryz.prog os Rows.affineRotationsRow.laid)
      #[.int .i64 0, .int .i64 0, .agg ⟨[.bool false, .string ⟨⟨[]⟩⟩, .string ⟨⟨[]⟩⟩, .bool false, .string ⟨⟨[]⟩⟩, .string ⟨⟨[]⟩⟩, .bool false, .string ⟨⟨[]⟩⟩, .string ⟨⟨[]⟩⟩]⟩] 8 (World.laidAll_os _ _ _)
      (World.shaped_of_ZipB (by kernel_rfl) (by kernel_rfl)) (by kernel_rfl) (by kernel_rfl) (by kernel_rfl)
      (by rw [MakeChecks.laidMetH_plain _ _ _ (by kernel_rfl)]; exact laidMet_laidAll _ (by kernel_rfl) (by kernel_rfl))) ?_
  intro W base args ds gs before hval0 hW _ _ _ _
  have hW' := hW
  have hval : ∀ (j : Nat) t v, Tryz.f3.params[j]? = some t → args.toList[j]? = some v → Value.okWide Tryz.prog W .any base t v := fun j t v h h' => hval0 j t v h (by simpa using h')
  obtain ⟨p, q, hA0, hV, rfl, _, _⟩ := hW
  have hA : DataW.TrodAll enc Tryz.prog W 0 (fun _ => true) true Tryz.f3.params.toList args.toList ds p := hA0
  rw [Tryz.params3] at hA
  obtain ⟨v0, vs0, d0, ds0, p0, q0, hargs, rfl, rfl, h0, r0⟩ := trodAll_cons hA
  obtain ⟨v1, vs1, d1, ds1, p1, q1, rfl, rfl, rfl, h1, r1⟩ := trodAll_cons r0
  obtain ⟨v2, vs2, d2, ds2, p2, q2, rfl, rfl, rfl, h2, r2⟩ := trodAll_cons r1
  obtain ⟨rfl, rfl, rfl⟩ := trodAll_nil r2
  obtain ⟨rfl, rfl⟩ := trodVars_none hV
  obtain ⟨ax0, rfl, rfl, rfl, m0⟩ := open_int Tryz.underlying3 (hval 0 3 v0 rfl (by rw [hargs]; rfl)) h0
  have t0 := fun w' base' spare' held' => shut_int (enc := enc) (w := w') (base := base') (spare := spare') (held := held') Tryz.underlying3 m0
  obtain ⟨bx0, rfl, rfl, rfl, m1⟩ := open_int Tryz.underlying3 (hval 1 3 v1 rfl (by rw [hargs]; rfl)) h1
  have t1 := fun w' base' spare' held' => shut_int (enc := enc) (w := w') (base := base') (spare := spare') (held := held') Tryz.underlying3 m1
  obtain ⟨cx0, cx1, cx2, cx3, cx4, cx5, cx6, cx7, cx8, rfl, m2, rfl, t2⟩ := opens1 (by kernel_rfl) (by kernel_rfl) h2
  obtain ⟨args⟩ := args
  simp only at hargs
  subst hargs
  have z0 := K.wf_i64 m0
  have z1 := K.wf_i64 m1
  refine (K.flat_calls ok_LRot (v := .bool true) (by exact if_pos ⟨z0.1, z0.2, z1.1, z1.2⟩) (fun β => ?_) rfl W).mono fun e W' ⟨he, hg⟩ => ?_
  · exact .cons _ _ _ _ (.base _ rfl) (.cons _ _ _ _ (.base _ rfl) (.cons _ _ _ _ (.agg _ _ (VRs.of_base rfl)) .nil))
  subst he
  exact ⟨_, rfl, _, _, _, [], [], [], hW', trodAll_mk1 (shut_bool Tryz.underlying4 _), trodAll_cons_mk (t0 _ _ _ _) (trodAll_cons_mk (t1 _ _ _ _) (trodAll_cons_mk (t2 _ _ _ _) rfl)), rfl, World.keptBut_mono (fun _ f => f.elim) hg, fun h => by cases h⟩
theorem law_row : Rows.AffineRotationsSaid :=
  OpenClaim.holds_of_wide 3 Tryz.f3 rfl rfl rfl rfl rfl rfl rfl ⟨rfl, rfl, rfl, rfl, rfl⟩ rfl rfl rfl rfl rfl (by kernel_rfl) Tryz.func3 (by kernel_rfl)
    (of_decide_eq_true (by kernel_rfl)) (by unfold Func.isWrapper; first | (rw [if_pos (by decide +kernel)]; kernel_rfl) | (rw [if_neg (by decide +kernel)]; exact ⟨rfl, rfl⟩))
    (fun os started H enc _ => lifted os started H enc)
theorem law_card : Rows.AffineRotationsCardSaid :=
  Claim7.holds_tied_plain_at .later [] [.data, .pinned] true (true, "6328b5834812c0b8b4b2167a9b36b40b3727d1656a9f2706b4658581e615960e") false law_row (fun _ h => by cases h) (by kernel_rfl) (fun _ h => by cases h) affineRotations_row_tie rfl ⟨rfl, rfl⟩ (by kernel_rfl) rfl
    (fun f fn hf hfn => by
      obtain rfl : f = 3 := Option.some.inj ((show Tryz.prog.funcNamed "voussoir/voussoirlaw07.AffineRotations" = some 3 by kernel_rfl).symm.trans hf) |>.symm
      obtain rfl : fn = Tryz.f3 := (Option.some.inj (Tryz.func3.symm.trans hfn)).symm
      exact ⟨by kernel_rfl, fun j t ht => by
        rw [Tryz.params3] at ht
        have hm : t ∈ [3, 3, 25] := by simpa using Array.mem_of_getElem? ht
        have hall : ([3, 3, 25].all fun u => !Tryz.prog.wantsStandIn u) = true := by kernel_rfl
        exact (show Tryz.prog.wantsStandIn t = false by simpa using List.all_eq_true.1 hall t hm)⟩)
    (by kernel_rfl)
end Go.Proofs.YtecmijganfoiaaaGreatDoor
end
