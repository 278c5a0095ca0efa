/-
  PolygonValidity: for every input within the bulk the law returns true, and the arguments read as before.
-/
import Derived.Test.YtoechehmflcnkaaGreatDoorVa5
import Derived.Test.YtoechehmflcnkaaGreatDoorCards
import Derived.Test.YtoechehmflcnkaaGreatDoorTie
import Derived.ProofKit
import Derived.OpenShut
import Derived.LaidMore
import Derived.Lay
import Derived.SevenTiedAt
import Derived.Deep.DeepHandedRow
section
set_option linter.unusedVariables false
set_option linter.unusedSimpArgs false
set_option linter.unusedSectionVars false
namespace Go.Proofs.YtoechehmflcnkaaGreatDoor
open Go.ChangeShapes Go.WideShapes Go.ChangeAt Go.RowKit Go.Eng
theorem own : ownKnob Tryz.prog.godebug = none := by kernel_rfl
theorem upto_str {H : Type} (b : List UInt8) : b.length ≤ Rows.uptoBulk (H := H) (.lit (.string b)) := by unfold Rows.uptoBulk; omega
theorem upto_all {H : Type} : ∀ ps : List (DataW H), K.sumL (ps.map Rows.uptoBulk) = Rows.uptoBulkAll ps
  | [] => by simp [K.sumL, Rows.uptoBulkAll]
  | d :: r => by simp only [List.map_cons, K.sumL, Rows.uptoBulkAll, upto_all r]
theorem upto_agg {H : Type} (ps : List (DataW H)) : K.sumL (ps.map Rows.uptoBulk) ≤ Rows.uptoBulk (.agg ps) := by
  rw [upto_all]; simp only [Rows.uptoBulk]; omega
set_option maxRecDepth 100000 in
theorem witness_upto (os : Os) (H : Type) (enc : TypeId × Value → H) : ∃ (w : World) (tape : Tape) (i : Input), w.os = os ∧ (w.forCall tape i).Shaped Tryz.checked.prog ∧ i.vars = [] ∧ Input.okWide Tryz.checked.prog (w.forCall tape i) .any w.heap.size 8 i ∧
      (Rows.OpenSpec.upto Rows.polygonValiditySpec).preRow enc Tryz.checked.prog Tryz.f8 [] false Rows.polygonValidityUptoRow.laid (w.forCall tape i).memory i.args ∧ ({} : Assume).holds Tryz.checked.prog (lone (Frame.enter Tryz.checked.prog 8 i.args .normal) [] (w.forCall tape i)) := by
  have hok : Input.okWideB Tryz.checked.prog ((World.laidAll Tryz.prog os Rows.polygonValidityUptoRow.laid).forCall (fun _ _ => 0) ⟨#[], #[.agg ⟨[.bool false, .string ⟨⟨[]⟩⟩, .bool false, .string ⟨⟨[]⟩⟩, .bool false, .string ⟨⟨[]⟩⟩, .bool false, .string ⟨⟨[]⟩⟩, .slice none 0 0]⟩, .agg ⟨[.bool false, .string ⟨⟨[]⟩⟩, .bool false, .string ⟨⟨[]⟩⟩, .bool false, .string ⟨⟨[]⟩⟩, .bool false, .string ⟨⟨[]⟩⟩]⟩], []⟩) 8 ⟨#[], #[.agg ⟨[.bool false, .string ⟨⟨[]⟩⟩, .bool false, .string ⟨⟨[]⟩⟩, .bool false, .string ⟨⟨[]⟩⟩, .bool false, .string ⟨⟨[]⟩⟩, .slice none 0 0]⟩, .agg ⟨[.bool false, .string ⟨⟨[]⟩⟩, .bool false, .string ⟨⟨[]⟩⟩, .bool false, .string ⟨⟨[]⟩⟩, .bool false, .string ⟨⟨[]⟩⟩]⟩], []⟩ = true := by kernel_rfl
  exact ⟨World.laidAll Tryz.prog os Rows.polygonValidityUptoRow.laid, fun _ _ => 0, ⟨#[], #[.agg ⟨[.bool false, .string ⟨⟨[]⟩⟩, .bool false, .string ⟨⟨[]⟩⟩, .bool false, .string ⟨⟨[]⟩⟩, .bool false, .string ⟨⟨[]⟩⟩, .slice none 0 0]⟩, .agg ⟨[.bool false, .string ⟨⟨[]⟩⟩, .bool false, .string ⟨⟨[]⟩⟩, .bool false, .string ⟨⟨[]⟩⟩, .bool false, .string ⟨⟨[]⟩⟩]⟩], []⟩, World.laidAll_os _ _ _, World.shaped_of_ZipB (by kernel_rfl) (by kernel_rfl), (Input.okWide_of_okWideB (base := 0) hok).1, (Input.okWide_of_okWideB hok).2,
    ⟨⟨(OpenSpec.pre_some rfl _ _ _ _).2 ⟨_, _, _, DataW.Whole_of_whole (fuel := 8) (x := ([.agg [.agg [.agg [.lit (.bool false), .lit (.string [])], .agg [.lit (.bool false), .lit (.string [])], .agg [.lit (.bool false), .lit (.string [])], .agg [.lit (.bool false), .lit (.string [])]], .nil], .agg [.agg [.lit (.bool false), .lit (.string [])], .agg [.lit (.bool false), .lit (.string [])], .agg [.lit (.bool false), .lit (.string [])], .agg [.lit (.bool false), .lit (.string [])]]], [], [])) (by kernel_rfl), rfl, by kernel_rfl⟩,
      by rw [MakeChecks.laidMetH_plain _ _ _ (by kernel_rfl)]; exact laidMet_laidAll _ (by kernel_rfl) (by kernel_rfl)⟩, sizedMet_of_sizedB (fuel := 8) (by kernel_rfl)⟩, by
    simp only [Assume.holds]
    exact ⟨by simp, by simp, (fun h => (by cases h)), by simp, by simp⟩⟩
set_option maxRecDepth 100000 in
theorem lifted (os : Os) (started : os.Started) (H : Type) (enc : TypeId × Value → H) (G : Stop.Interp) :
    ReturnsInHanded {} Tryz.checked os 8 .any ((Rows.OpenSpec.upto Rows.polygonValiditySpec).preRow enc Tryz.prog Tryz.f8 [] false Rows.polygonValidityUptoRow.laid)
      (((Rows.OpenSpec.upto Rows.polygonValiditySpec).at G).post enc Tryz.prog Tryz.f8 false true false false) := by
  refine returnsInHanded_of_row (C := Tryz.checked) own started (by kernel_rfl) Tryz.func8 ?_ ?_
  · exact witness_upto os H enc
  intro W base args ds gs before hval0 hW _ hcond _ _ _ _
  have hup : Rows.uptoBulkAll (ds ++ gs) ≤ 1048576 := of_decide_eq_true (hcond _ rfl)
  have hW' := hW
  obtain ⟨p, q, hA0, hV, rfl, _, _⟩ := hW
  have hA : DataW.TrodAll enc Tryz.prog W 0 (fun _ => true) true Tryz.f8.params.toList args.toList ds p := hA0
  rw [Tryz.params8] at hA
  obtain ⟨v0, vs0, d0, ds0, p0, q0, hargs, rfl, rfl, h0, r0⟩ := trodAll_cons hA
  obtain ⟨v1, vs1, d1, ds1, p1, q1, rfl, rfl, rfl, h1, r1⟩ := trodAll_cons r0
  obtain ⟨rfl, rfl, rfl⟩ := trodAll_nil r1
  obtain ⟨rfl, rfl⟩ := trodVars_none hV
  obtain ⟨P0, sv0, l0, rfl, e0, _⟩ := K.open_poly (te := 41) Tryz.underlying28 (by kernel_rfl) (by kernel_rfl) (by kernel_rfl) (by kernel_rfl) (by kernel_rfl) (by kernel_rfl) (by kernel_rfl) h0
  obtain ⟨km1, _, _⟩ := K.trod_plain (ks := [.b, .s, .b, .s, .b, .s, .b, .s]) (n := 8) (by kernel_rfl) (by kernel_rfl) rfl h1
  obtain ⟨P1, ep1⟩ := K.km_pt km1
  have w1 := K.trod_bulk Rows.uptoBulk upto_str upto_agg (ks := [.b, .s, .b, .s, .b, .s, .b, .s]) (n := 8) (by kernel_rfl) (by kernel_rfl) rfl h1
  rw [ep1] at w1
  have e1 := (K.pt_sum w1).le (k := 1048576) (by simp only [Rows.uptoBulkAll, List.append_nil] at hup; omega)
  have ev1 := K.agg_of ep1 (by simp [Pt.cells])
  subst ev1
  obtain ⟨args⟩ := args
  simp only at hargs
  subst hargs
  refine (K.mir_calls ok_L8valid (W := W) (aargs := [.agg ⟨P0.cells ++ [K.absV W sv0]⟩, .agg ⟨P1.cells⟩]) (v := .bool true) (fr_splits e0 e1) (.cons _ _ _ _ (.agg _ _ (VRs.append (VRs.of_base P0.base8) (.cons _ _ _ _ (K.absV_vr W sv0) .nil))) (.cons _ _ _ _ (.agg _ _ (VRs.of_base P1.base8)) .nil)) rfl).mono fun e W' ⟨he, ho, hout, hk⟩ => ?_
  subst he
  exact ⟨_, rfl, _, _, _, [], _, [], hW', trodAll_mk1 (shut_bool Tryz.underlying4 _), K.args_again (by kernel_rfl) (by kernel_rfl) (by kernel_rfl) hk (by rw [Tryz.params8]; kernel_rfl) hA0, rfl, World.keptBut_mono (fun _ f => f.elim) (K.kept_of ho hout hk), fun h => by cases h⟩
theorem law_row : Rows.PolygonValidityUptoSaid :=
  OpenClaim.holds_of_cond 8 Tryz.f8 rfl rfl rfl rfl rfl rfl rfl ⟨rfl, rfl, rfl, rfl, rfl⟩ rfl rfl rfl rfl rfl (by kernel_rfl) Tryz.func8 (by kernel_rfl)
    (of_decide_eq_true (by kernel_rfl)) (by unfold Func.isWrapper; first | (rw [if_pos (by decide +kernel)]; kernel_rfl) | (rw [if_neg (by decide +kernel)]; exact ⟨rfl, rfl⟩))
    (fun os started H enc _ G => by rw [OpenClaim.pre_eq_preRow]; exact lifted os started H enc G)
theorem law_card : Rows.PolygonValidityUptoCardSaid :=
  Claim7.holds_tied_plain_at .later [] [.data, .pinned] true (true, "e5d4646912f7cd0df7f891edfefe8484b021dd2bf2d9ebca08b2c3072eb8c2b1") false law_row (fun _ h => by cases h) (by kernel_rfl) (fun _ h => by cases h) polygonValidityUpto_row_tie rfl ⟨rfl, rfl⟩ (by kernel_rfl) rfl
    (fun f fn hf hfn => by
      obtain rfl : f = 8 := Option.some.inj ((show Tryz.prog.funcNamed "voussoir/voussoirlaw08.PolygonValidity" = some 8 by kernel_rfl).symm.trans hf) |>.symm
      obtain rfl : fn = Tryz.f8 := (Option.some.inj (Tryz.func8.symm.trans hfn)).symm
      exact ⟨by kernel_rfl, fun j t ht => by
        rw [Tryz.params8] at ht
        have hm : t ∈ [28, 25] := by simpa using Array.mem_of_getElem? ht
        have hall : ([28, 25].all fun u => !Tryz.prog.wantsStandIn u) = true := by kernel_rfl
        exact (show Tryz.prog.wantsStandIn t = false by simpa using List.all_eq_true.1 hall t hm)⟩)
    (by kernel_rfl)
end Go.Proofs.YtoechehmflcnkaaGreatDoor
end
