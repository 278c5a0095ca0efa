/-
  LinearInvariance: for every input the law returns true, and the arguments read as before.
-/
import Derived.Test.YtmhjnlcmmokniaaDoorIv5
import Derived.Test.YtmhjnlcmmokniaaDoorCards
import Derived.Test.YtmhjnlcmmokniaaDoorTie
import Derived.ProofKit
import Derived.OpenShut
import Derived.LaidMore
import Derived.Lay
import Derived.SevenTiedAt
section
set_option linter.unusedVariables false
set_option linter.unusedSimpArgs false
set_option linter.unusedSectionVars false
namespace Go.Proofs.YtmhjnlcmmokniaaDoor
open Go.ChangeShapes Go.WideShapes Go.ChangeAt Go.RowKit Go.Eng
theorem own : ownKnob Tryd.prog.godebug = none := by kernel_rfl
set_option maxRecDepth 100000 in
theorem lifted (os : Os) (started : os.Started) (H : Type) (enc : TypeId × Value → H) :
    ReturnsInHanded {} Tryd.checked os 3 .any (fun w args => (Rows.linearInvarianceSpec.pre enc Tryd.prog Tryd.f3 [] false w args ∧ laidMetH Tryd.prog Rows.linearInvarianceRow.laid w) ∧ sizedMet enc Tryd.prog Tryd.f3 (OpenSpec.ofChange Rows.linearInvarianceSpec) false w args)
      (Rows.linearInvarianceSpec.post enc Tryd.prog Tryd.f3 false true false false) := by
  refine returnsInHanded_of_change_and (C := Tryd.checked) (X := fun w _ => laidMetH Tryd.prog Rows.linearInvarianceRow.laid w) (fun _ _ _ hh h => h.of_heap hh) own started (by kernel_rfl) Tryd.func3
    (ChangeSpec.witness_shaped (enc := enc) (C := Tryd.checked) (os := os) (X := fun w _ => laidMetH Tryd.prog Rows.linearInvarianceRow.laid w) false (World.laidAll Tryd.prog os Rows.linearInvarianceRow.laid)
      #[.slice none 0 0, .agg ⟨[.bool false, .string ⟨⟨[]⟩⟩, .string ⟨⟨[]⟩⟩]⟩, .agg ⟨[.int .u8 0, .int .u8 0]⟩] 8 (World.laidAll_os _ _ _)
      (World.shaped_of_ZipB (by kernel_rfl) (by kernel_rfl)) (by kernel_rfl) (by kernel_rfl) (by kernel_rfl)
      (by rw [MakeChecks.laidMetH_plain _ _ _ (by kernel_rfl)]; exact laidMet_laidAll _ (by kernel_rfl) (by kernel_rfl))) ?_
  intro W base args ds gs before hval0 hW _ _ _ _
  have hW' := hW
  have hval : ∀ (j : Nat) t v, Tryd.f3.params[j]? = some t → args.toList[j]? = some v → Value.okWide Tryd.prog W .any base t v := fun j t v h h' => hval0 j t v h (by simpa using h')
  obtain ⟨p, q, hA0, hV, rfl, _, _⟩ := hW
  have hA : DataW.TrodAll enc Tryd.prog W 0 (fun _ => true) true Tryd.f3.params.toList args.toList ds p := hA0
  rw [Tryd.params3] at hA
  obtain ⟨v0, vs0, d0, ds0, p0, q0, hargs, rfl, rfl, h0, r0⟩ := trodAll_cons hA
  obtain ⟨v1, vs1, d1, ds1, p1, q1, rfl, rfl, rfl, h1, r1⟩ := trodAll_cons r0
  obtain ⟨v2, vs2, d2, ds2, p2, q2, rfl, rfl, rfl, h2, r2⟩ := trodAll_cons r1
  obtain ⟨rfl, rfl, rfl⟩ := trodAll_nil r2
  obtain ⟨rfl, rfl⟩ := trodVars_none hV
  obtain ⟨l0, e0, z0⟩ := K.open_eqs (te := 28) (tc := 26) (tq := 24) (ti := 3) Tryd.underlying22 Tryd.underlying28 (by kernel_rfl) Tryd.underlying26 (by kernel_rfl) (by kernel_rfl) (by kernel_rfl) (by kernel_rfl) (by kernel_rfl) (hval 0 22 v0 rfl (by rw [hargs]; rfl)) h0
  obtain ⟨km1, _, _⟩ := K.trod_plain (ks := [.b, .s, .s]) (n := 3) (by kernel_rfl) (by kernel_rfl) rfl h1
  obtain ⟨Q1, ep1⟩ := K.km_q km1
  have ev1 := K.agg_of ep1 (by simp [RQ.cells])
  subst ev1
  obtain ⟨km2, _, _⟩ := K.trod_plain (ks := [.i .u8, .i .u8]) (n := 2) (by kernel_rfl) (by kernel_rfl) rfl h2
  obtain ⟨n2, m2, ep2, z2, y2⟩ := K.km_uu km2
  have ev2 := K.agg_of ep2 (by simp)
  subst ev2
  obtain ⟨args⟩ := args
  simp only at hargs
  subst hargs
  refine (K.mir_calls ok_L24inv (W := W) (aargs := [K.absV W v0, .agg ⟨Q1.cells⟩, .agg ⟨[.int .u8 n2, .int .u8 m2]⟩]) (v := .bool true) (fr_L24inv e0 z0 z2 y2) (.cons _ _ _ _ (K.absV_vr W v0) (.cons _ _ _ _ (.agg _ _ (VRs.of_base rfl)) (.cons _ _ _ _ (.agg _ _ (VRs.of_base rfl)) .nil))) rfl).mono fun e W' ⟨he, ho, hout, hk⟩ => ?_
  subst he
  exact ⟨_, rfl, _, _, _, [], _, [], hW', trodAll_mk1 (shut_bool Tryd.underlying4 _), K.args_again (by kernel_rfl) (by kernel_rfl) (by kernel_rfl) hk (by rw [Tryd.params3]; kernel_rfl) hA0, rfl, World.keptBut_mono (fun _ f => f.elim) (K.kept_of ho hout hk), fun h => by cases h⟩
theorem law_row : Rows.LinearInvarianceSaid :=
  OpenClaim.holds_of_wide 3 Tryd.f3 rfl rfl rfl rfl rfl rfl rfl ⟨rfl, rfl, rfl, rfl, rfl⟩ rfl rfl rfl rfl rfl (by kernel_rfl) Tryd.func3 (by kernel_rfl)
    (of_decide_eq_true (by kernel_rfl)) (by unfold Func.isWrapper; first | (rw [if_pos (by decide +kernel)]; kernel_rfl) | (rw [if_neg (by decide +kernel)]; exact ⟨rfl, rfl⟩))
    (fun os started H enc _ => lifted os started H enc)
theorem law_card : Rows.LinearInvarianceCardSaid :=
  Claim7.holds_tied_plain_at .later [] [.data, .pinned] true (true, "4bef45ed8d36840dd17e2ee1ef5b1cca2f755c654fe175379b3e267babfe3a89") false law_row (fun _ h => by cases h) (by kernel_rfl) (fun _ h => by cases h) linearInvariance_row_tie rfl ⟨rfl, rfl⟩ (by kernel_rfl) rfl
    (fun f fn hf hfn => by
      obtain rfl : f = 3 := Option.some.inj ((show Tryd.prog.funcNamed "voussoir/voussoirlaw24.LinearInvariance" = some 3 by kernel_rfl).symm.trans hf) |>.symm
      obtain rfl : fn = Tryd.f3 := (Option.some.inj (Tryd.func3.symm.trans hfn)).symm
      exact ⟨by kernel_rfl, fun j t ht => by
        rw [Tryd.params3] at ht
        have hm : t ∈ [22, 24, 25] := by simpa using Array.mem_of_getElem? ht
        have hall : ([22, 24, 25].all fun u => !Tryd.prog.wantsStandIn u) = true := by kernel_rfl
        exact (show Tryd.prog.wantsStandIn t = false by simpa using List.all_eq_true.1 hall t hm)⟩)
    (by kernel_rfl)
end Go.Proofs.YtmhjnlcmmokniaaDoor
end
