/-
  ProfileOrientation: for every input the law returns true, and the arguments read as before.
-/
import Derived.Test.YtecgadjeomfagaaDoorOr4
import Derived.Test.YtecgadjeomfagaaDoorCards
import Derived.Test.YtecgadjeomfagaaDoorTie
import Derived.ProofKit
import Derived.OpenShut
import Derived.LaidMore
import Derived.Lay
import Derived.SevenTiedAt
section
set_option linter.unusedVariables false
set_option linter.unusedSimpArgs false
set_option linter.unusedSectionVars false
namespace Go.Proofs.YtecgadjeomfagaaDoor
open Go.ChangeShapes Go.WideShapes Go.ChangeAt Go.RowKit Go.Eng
theorem own : ownKnob Tryd.prog.godebug = none := by kernel_rfl
set_option maxRecDepth 100000 in
theorem lifted (os : Os) (started : os.Started) (H : Type) (enc : TypeId × Value → H) :
    ReturnsInHanded {} Tryd.checked os 3 .any (fun w args => (Rows.profileOrientationSpec.pre enc Tryd.prog Tryd.f3 [] false w args ∧ laidMetH Tryd.prog Rows.profileOrientationRow.laid w) ∧ sizedMet enc Tryd.prog Tryd.f3 (OpenSpec.ofChange Rows.profileOrientationSpec) false w args)
      (Rows.profileOrientationSpec.post enc Tryd.prog Tryd.f3 false true false false) := by
  refine returnsInHanded_of_change_and (C := Tryd.checked) (X := fun w _ => laidMetH Tryd.prog Rows.profileOrientationRow.laid w) (fun _ _ _ hh h => h.of_heap hh) own started (by kernel_rfl) Tryd.func3
    (ChangeSpec.witness_shaped (enc := enc) (C := Tryd.checked) (os := os) (X := fun w _ => laidMetH Tryd.prog Rows.profileOrientationRow.laid w) false (World.laidAll Tryd.prog os Rows.profileOrientationRow.laid)
      #[.slice none 0 0, .int .u8 0, .bool false, .agg ⟨[.bool false, .string ⟨⟨[]⟩⟩, .string ⟨⟨[]⟩⟩, .bool false, .string ⟨⟨[]⟩⟩, .string ⟨⟨[]⟩⟩]⟩] 8 (World.laidAll_os _ _ _)
      (World.shaped_of_ZipB (by kernel_rfl) (by kernel_rfl)) (by kernel_rfl) (by kernel_rfl) (by kernel_rfl)
      (by rw [MakeChecks.laidMetH_plain _ _ _ (by kernel_rfl)]; exact laidMet_laidAll _ (by kernel_rfl) (by kernel_rfl))) ?_
  intro W base args ds gs before hval0 hW _ _ _ _
  have hW' := hW
  have hval : ∀ (j : Nat) t v, Tryd.f3.params[j]? = some t → args.toList[j]? = some v → Value.okWide Tryd.prog W .any base t v := fun j t v h h' => hval0 j t v h (by simpa using h')
  obtain ⟨p, q, hA0, hV, rfl, _, _⟩ := hW
  have hA : DataW.TrodAll enc Tryd.prog W 0 (fun _ => true) true Tryd.f3.params.toList args.toList ds p := hA0
  rw [Tryd.params3] at hA
  obtain ⟨v0, vs0, d0, ds0, p0, q0, hargs, rfl, rfl, h0, r0⟩ := trodAll_cons hA
  obtain ⟨v1, vs1, d1, ds1, p1, q1, rfl, rfl, rfl, h1, r1⟩ := trodAll_cons r0
  obtain ⟨v2, vs2, d2, ds2, p2, q2, rfl, rfl, rfl, h2, r2⟩ := trodAll_cons r1
  obtain ⟨v3, vs3, d3, ds3, p3, q3, rfl, rfl, rfl, h3, r3⟩ := trodAll_cons r2
  obtain ⟨rfl, rfl, rfl⟩ := trodAll_nil r3
  obtain ⟨rfl, rfl⟩ := trodVars_none hV
  obtain ⟨l0, e0, z0⟩ := K.open_pts (tp := 26) Tryd.underlying22 (by kernel_rfl) (by kernel_rfl) (hval 0 22 v0 rfl (by rw [hargs]; rfl)) h0
  obtain ⟨n1, rfl, rfl, rfl, m1⟩ := open_int Tryd.underlying5 (hval 1 5 v1 rfl (by rw [hargs]; rfl)) h1
  have z1 := K.wf_u8 m1
  obtain ⟨n2, rfl, rfl, rfl⟩ := open_bool Tryd.underlying4 (hval 2 4 v2 rfl (by rw [hargs]; rfl)) h2
  obtain ⟨km3, _, _⟩ := K.trod_plain (ks := [.b, .s, .s, .b, .s, .s]) (n := 6) (by kernel_rfl) (by kernel_rfl) rfl h3
  obtain ⟨Q3, ep3⟩ := K.km_p km3
  have ev3 := K.agg_of ep3 (by simp [pcl, RQ.cells])
  subst ev3
  obtain ⟨args⟩ := args
  simp only at hargs
  subst hargs
  refine (K.mir_calls ok_L26or (W := W) (aargs := [K.absV W v0, .int .u8 n1, .bool n2, .agg ⟨pcl Q3⟩]) (v := .bool true) (fr_L26or e0 z0 z1) (.cons _ _ _ _ (K.absV_vr W v0) (.cons _ _ _ _ (.base _ rfl) (.cons _ _ _ _ (.base _ rfl) (.cons _ _ _ _ (.agg _ _ (VRs.of_base rfl)) .nil)))) rfl).mono fun e W' ⟨he, ho, hout, hk⟩ => ?_
  subst he
  exact ⟨_, rfl, _, _, _, [], _, [], hW', trodAll_mk1 (shut_bool Tryd.underlying4 _), K.args_again (by kernel_rfl) (by kernel_rfl) (by kernel_rfl) hk (by rw [Tryd.params3]; kernel_rfl) hA0, rfl, World.keptBut_mono (fun _ f => f.elim) (K.kept_of ho hout hk), fun h => by cases h⟩
theorem law_row : Rows.ProfileOrientationSaid :=
  OpenClaim.holds_of_wide 3 Tryd.f3 rfl rfl rfl rfl rfl rfl rfl ⟨rfl, rfl, rfl, rfl, rfl⟩ rfl rfl rfl rfl rfl (by kernel_rfl) Tryd.func3 (by kernel_rfl)
    (of_decide_eq_true (by kernel_rfl)) (by unfold Func.isWrapper; first | (rw [if_pos (by decide +kernel)]; kernel_rfl) | (rw [if_neg (by decide +kernel)]; exact ⟨rfl, rfl⟩))
    (fun os started H enc _ => lifted os started H enc)
theorem law_card : Rows.ProfileOrientationCardSaid :=
  Claim7.holds_tied_plain_at .later [] [.data, .pinned] true (true, "b7c7d9060da50cf133448bc263e435d126892c9a52ef342014dcc07e264f3aa9") false law_row (fun _ h => by cases h) (by kernel_rfl) (fun _ h => by cases h) profileOrientation_row_tie rfl ⟨rfl, rfl⟩ (by kernel_rfl) rfl
    (fun f fn hf hfn => by
      obtain rfl : f = 3 := Option.some.inj ((show Tryd.prog.funcNamed "voussoir/voussoirlaw26.ProfileOrientation" = some 3 by kernel_rfl).symm.trans hf) |>.symm
      obtain rfl : fn = Tryd.f3 := (Option.some.inj (Tryd.func3.symm.trans hfn)).symm
      exact ⟨by kernel_rfl, fun j t ht => by
        rw [Tryd.params3] at ht
        have hm : t ∈ [22, 5, 4, 26] := by simpa using Array.mem_of_getElem? ht
        have hall : ([22, 5, 4, 26].all fun u => !Tryd.prog.wantsStandIn u) = true := by kernel_rfl
        exact (show Tryd.prog.wantsStandIn t = false by simpa using List.all_eq_true.1 hall t hm)⟩)
    (by kernel_rfl)
end Go.Proofs.YtecgadjeomfagaaDoor
end
