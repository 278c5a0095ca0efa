/-
  ProfileConvex: for every input the law returns true, and the arguments read as before.
-/
import Derived.Test.YtecgadjeomfagaaGreatDoorCx5
import Derived.Test.YtecgadjeomfagaaGreatDoorCards
import Derived.Test.YtecgadjeomfagaaGreatDoorTie
import Derived.ProofKit
import Derived.OpenShut
import Derived.LaidMore
import Derived.Lay
import Derived.SevenTiedAt
section
set_option linter.unusedVariables false
set_option linter.unusedSimpArgs false
set_option linter.unusedSectionVars false
namespace Go.Proofs.YtecgadjeomfagaaGreatDoor
open Go.ChangeShapes Go.WideShapes Go.ChangeAt Go.RowKit Go.Eng
theorem own : ownKnob Tryz.prog.godebug = none := by kernel_rfl
set_option maxRecDepth 100000 in
theorem lifted (os : Os) (started : os.Started) (H : Type) (enc : TypeId × Value → H) :
    ReturnsInHanded {} Tryz.checked os 5 .any (fun w args => (Rows.profileConvexSpec.pre enc Tryz.prog Tryz.f5 [] false w args ∧ laidMetH Tryz.prog Rows.profileConvexRow.laid w) ∧ sizedMet enc Tryz.prog Tryz.f5 (OpenSpec.ofChange Rows.profileConvexSpec) false w args)
      (Rows.profileConvexSpec.post enc Tryz.prog Tryz.f5 false true false false) := by
  refine returnsInHanded_of_change_and (C := Tryz.checked) (X := fun w _ => laidMetH Tryz.prog Rows.profileConvexRow.laid w) (fun _ _ _ hh h => h.of_heap hh) own started (by kernel_rfl) Tryz.func5
    (ChangeSpec.witness_shaped (enc := enc) (C := Tryz.checked) (os := os) (X := fun w _ => laidMetH Tryz.prog Rows.profileConvexRow.laid w) false (World.laidAll Tryz.prog os Rows.profileConvexRow.laid)
      #[.slice none 0 0, .agg ⟨[.bool false, .string ⟨⟨[]⟩⟩, .string ⟨⟨[]⟩⟩, .bool false, .string ⟨⟨[]⟩⟩, .string ⟨⟨[]⟩⟩]⟩] 8 (World.laidAll_os _ _ _)
      (World.shaped_of_ZipB (by kernel_rfl) (by kernel_rfl)) (by kernel_rfl) (by kernel_rfl) (by kernel_rfl)
      (by rw [MakeChecks.laidMetH_plain _ _ _ (by kernel_rfl)]; exact laidMet_laidAll _ (by kernel_rfl) (by kernel_rfl))) ?_
  intro W base args ds gs before hval0 hW _ _ _ _
  have hW' := hW
  have hval : ∀ (j : Nat) t v, Tryz.f5.params[j]? = some t → args.toList[j]? = some v → Value.okWide Tryz.prog W .any base t v := fun j t v h h' => hval0 j t v h (by simpa using h')
  obtain ⟨p, q, hA0, hV, rfl, _, _⟩ := hW
  have hA : DataW.TrodAll enc Tryz.prog W 0 (fun _ => true) true Tryz.f5.params.toList args.toList ds p := hA0
  rw [Tryz.params5] at hA
  obtain ⟨v0, vs0, d0, ds0, p0, q0, hargs, rfl, rfl, h0, r0⟩ := trodAll_cons hA
  obtain ⟨v1, vs1, d1, ds1, p1, q1, rfl, rfl, rfl, h1, r1⟩ := trodAll_cons r0
  obtain ⟨rfl, rfl, rfl⟩ := trodAll_nil r1
  obtain ⟨rfl, rfl⟩ := trodVars_none hV
  obtain ⟨l0, e0, z0⟩ := K.open_pts (tp := 34) Tryz.underlying22 (by kernel_rfl) (by kernel_rfl) (hval 0 22 v0 rfl (by rw [hargs]; rfl)) h0
  obtain ⟨km1, _, _⟩ := K.trod_plain (ks := [.b, .s, .s, .b, .s, .s]) (n := 6) (by kernel_rfl) (by kernel_rfl) rfl h1
  obtain ⟨Q1, ep1⟩ := K.km_p km1
  have ev1 := K.agg_of ep1 (by simp [pcl, RQ.cells])
  subst ev1
  obtain ⟨args⟩ := args
  simp only at hargs
  subst hargs
  refine (K.mir_calls ok_L26cx (W := W) (aargs := [K.absV W v0, .agg ⟨pcl Q1⟩]) (v := .bool true) (fr_L26cx e0 z0) (.cons _ _ _ _ (K.absV_vr W v0) (.cons _ _ _ _ (.agg _ _ (VRs.of_base rfl)) .nil)) rfl).mono fun e W' ⟨he, ho, hout, hk⟩ => ?_
  subst he
  exact ⟨_, rfl, _, _, _, [], _, [], hW', trodAll_mk1 (shut_bool Tryz.underlying4 _), K.args_again (by kernel_rfl) (by kernel_rfl) (by kernel_rfl) hk (by rw [Tryz.params5]; kernel_rfl) hA0, rfl, World.keptBut_mono (fun _ f => f.elim) (K.kept_of ho hout hk), fun h => by cases h⟩
theorem law_row : Rows.ProfileConvexSaid :=
  OpenClaim.holds_of_wide 5 Tryz.f5 rfl rfl rfl rfl rfl rfl rfl ⟨rfl, rfl, rfl, rfl, rfl⟩ rfl rfl rfl rfl rfl (by kernel_rfl) Tryz.func5 (by kernel_rfl)
    (of_decide_eq_true (by kernel_rfl)) (by unfold Func.isWrapper; first | (rw [if_pos (by decide +kernel)]; kernel_rfl) | (rw [if_neg (by decide +kernel)]; exact ⟨rfl, rfl⟩))
    (fun os started H enc _ => lifted os started H enc)
theorem law_card : Rows.ProfileConvexCardSaid :=
  Claim7.holds_tied_plain_at .later [] [.data, .pinned] true (true, "6891e6b2cf0248261f229c961ed2339ae781543e01778f1e7ed23beee47c934b") false law_row (fun _ h => by cases h) (by kernel_rfl) (fun _ h => by cases h) profileConvex_row_tie rfl ⟨rfl, rfl⟩ (by kernel_rfl) rfl
    (fun f fn hf hfn => by
      obtain rfl : f = 5 := Option.some.inj ((show Tryz.prog.funcNamed "voussoir/voussoirlaw26.ProfileConvex" = some 5 by kernel_rfl).symm.trans hf) |>.symm
      obtain rfl : fn = Tryz.f5 := (Option.some.inj (Tryz.func5.symm.trans hfn)).symm
      exact ⟨by kernel_rfl, fun j t ht => by
        rw [Tryz.params5] at ht
        have hm : t ∈ [22, 34] := by simpa using Array.mem_of_getElem? ht
        have hall : ([22, 34].all fun u => !Tryz.prog.wantsStandIn u) = true := by kernel_rfl
        exact (show Tryz.prog.wantsStandIn t = false by simpa using List.all_eq_true.1 hall t hm)⟩)
    (by kernel_rfl)
end Go.Proofs.YtecgadjeomfagaaGreatDoor
end
