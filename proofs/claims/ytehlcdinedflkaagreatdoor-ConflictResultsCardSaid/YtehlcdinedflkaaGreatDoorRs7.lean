/-
  ConflictResults: for every input the law returns true, and the arguments read as before.
-/
import Derived.Test.YtehlcdinedflkaaGreatDoorRs6
import Derived.Test.YtehlcdinedflkaaGreatDoorCards
import Derived.Test.YtehlcdinedflkaaGreatDoorTie
import Derived.ProofKit
import Derived.OpenShut
import Derived.LaidMore
import Derived.Lay
import Derived.SevenTiedAt
set_option linter.unusedVariables false
set_option linter.unusedSimpArgs false
set_option linter.unusedSectionVars false
section
namespace Go.Proofs.YtehlcdinedflkaaGreatDoor
open Go.ChangeShapes Go.WideShapes Go.ChangeAt Go.RowKit Go.Eng
theorem own:ownKnob Tryz.prog.godebug=none:=by kernel_rfl
set_option maxRecDepth 100000 in
theorem lifted (os:Os) (started:os.Started) (H:Type) (enc:TypeId × Value -> H) :
  ReturnsInHanded {} Tryz.checked os 3 .any (fun w args=>(Rows.conflictResultsSpec.pre enc Tryz.prog Tryz.f3 [] false w args /\ laidMetH Tryz.prog Rows.conflictResultsRow.laid w) /\ sizedMet enc Tryz.prog Tryz.f3 (OpenSpec.ofChange Rows.conflictResultsSpec) false w args)
   (Rows.conflictResultsSpec.post enc Tryz.prog Tryz.f3 false true false false):=by
 refine returnsInHanded_of_change_and (C:=Tryz.checked) (X:=fun w _=>laidMetH Tryz.prog Rows.conflictResultsRow.laid w) (fun _ _ _ hh h=>h.of_heap hh) own started (by kernel_rfl) Tryz.func3
  (ChangeSpec.witness_shaped (enc:=enc) (C:=Tryz.checked) (os:=os) (X:=fun w _=>laidMetH Tryz.prog Rows.conflictResultsRow.laid w) false (World.laidAll Tryz.prog os Rows.conflictResultsRow.laid)
   #[.int .i64 0,.slice none 0 0] 8 (World.laidAll_os _ _ _)
   (World.shaped_of_ZipB (by kernel_rfl) (by kernel_rfl)) (by kernel_rfl) (by kernel_rfl) (by kernel_rfl)
   (by rw [MakeChecks.laidMetH_plain _ _ _ (by kernel_rfl)];exact laidMet_laidAll _ (by kernel_rfl) (by kernel_rfl))) ?_
 intro W base args ds gs before hval0 hW _ _ _ _
 have hW':=hW
 have hval:∀ (j:Nat) t v,Tryz.f3.params[j]?=some t -> args.toList[j]?=some v -> Value.okWide Tryz.prog W .any base t v:=fun j t v h h'=>hval0 j t v h (by simpa using h')
 obtain ⟨p,q,hA0,hV,rfl,_,_⟩:=hW
 have hA:DataW.TrodAll enc Tryz.prog W 0 (fun _=>true) true Tryz.f3.params.toList args.toList ds p:=hA0
 rw [Tryz.params3] at hA
 obtain ⟨v0,vs0,d0,ds0,p0,q0,hargs,rfl,rfl,h0,r0⟩:=trodAll_cons hA
 obtain ⟨v1,vs1,d1,ds1,p1,q1,rfl,rfl,rfl,h1,r1⟩:=trodAll_cons r0
 obtain ⟨rfl,rfl,rfl⟩:=trodAll_nil r1
 obtain ⟨rfl,rfl⟩:=trodVars_none hV
 obtain ⟨n0,rfl,rfl,rfl,m0⟩:=open_int Tryz.underlying3 (hval 0 3 v0 rfl (by rw [hargs];rfl)) h0
 have z0:=K.wf_i64 m0
 obtain ⟨l1,e1,z1⟩:=K.open_eqs (te:=40) (tc:=30) (tq:=38) (ti:=3) Tryz.underlying22 Tryz.underlying40 (by kernel_rfl) Tryz.underlying30 (by kernel_rfl) (by kernel_rfl) (by kernel_rfl) (by kernel_rfl) (by kernel_rfl) (hval 1 22 v1 rfl (by rw [hargs];rfl)) h1
 obtain ⟨args⟩:=args
 simp only at hargs
 subst hargs
 refine (K.mir_calls ok_L25res (W:=W) (aargs:=[.int .i64 n0,K.absV W v1]) (v:=.bool true) (fr_L25res z0 e1 z1) (.cons _ _ _ _ (.base _ rfl) (.cons _ _ _ _ (K.absV_vr W v1) .nil)) rfl).mono fun e W' ⟨he,ho,hout,hk⟩=>?_
 subst he
 exact ⟨_,rfl,_,_,_,[],_,[],hW',trodAll_mk1 (shut_bool Tryz.underlying4 _),K.args_again (by kernel_rfl) (by kernel_rfl) (by kernel_rfl) hk (by rw [Tryz.params3];kernel_rfl) hA0,rfl,World.keptBut_mono (fun _ f=>f.elim) (K.kept_of ho hout hk),fun h=>by cases h⟩
theorem law_row:Rows.ConflictResultsSaid:=
 OpenClaim.holds_of_wide 3 Tryz.f3 rfl rfl rfl rfl rfl rfl rfl ⟨rfl,rfl,rfl,rfl,rfl⟩ rfl rfl rfl rfl rfl (by kernel_rfl) Tryz.func3 (by kernel_rfl)
  (of_decide_eq_true (by kernel_rfl)) (by unfold Func.isWrapper;first | (rw [if_pos (by decide +kernel)];kernel_rfl) | (rw [if_neg (by decide +kernel)];exact ⟨rfl,rfl⟩))
  (fun os started H enc _=>lifted os started H enc)
theorem law_card:Rows.ConflictResultsCardSaid:=
 Claim7.holds_tied_plain_at .later [] [.data, .pinned] true (true, "29858ecc641962ad40bfdb47bf59354cffef1f7ffc0952a19b385eec1b28bad0") false law_row (fun _ h => by cases h) (by kernel_rfl) (fun _ h => by cases h) conflictResults_row_tie rfl ⟨rfl, rfl⟩ (by kernel_rfl) rfl
  (fun f fn hf hfn=>by
   obtain rfl : f = 3 := Option.some.inj ((show Tryz.prog.funcNamed "voussoir/voussoirlaw25.ConflictResults" = some 3 by kernel_rfl).symm.trans hf) |>.symm
   obtain rfl:fn=Tryz.f3:=(Option.some.inj (Tryz.func3.symm.trans hfn)).symm
   exact ⟨by kernel_rfl,fun j t ht=>by
    rw [Tryz.params3] at ht
    have hm:t ∈ [3,22]:=by simpa using Array.mem_of_getElem? ht
    have hall:([3,22].all fun u=>!Tryz.prog.wantsStandIn u)=true:=by kernel_rfl
    exact (show Tryz.prog.wantsStandIn t=false by simpa using List.all_eq_true.1 hall t hm)⟩)
  (by kernel_rfl)
end Go.Proofs.YtehlcdinedflkaaGreatDoor
end
