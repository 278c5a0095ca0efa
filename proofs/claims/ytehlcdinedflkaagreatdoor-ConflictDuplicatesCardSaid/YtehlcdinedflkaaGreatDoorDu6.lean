/-
  A part of the proof: the machine, the contracts of the functions and the plain laws, merged from smaller texts.
-/
import Derived.Test.YtehlcdinedflkaaGreatDoorDu5
import Derived.RowKit3
import Derived.ChangeSame
import Derived.ReadAgain
import Derived.Deep.Slices
import Derived.WideShapes
set_option linter.unusedVariables false
set_option linter.unusedSimpArgs false
set_option linter.unusedSectionVars false
section
set_option maxRecDepth 20000
namespace Go.Eng
open Go Go.Proofs Go.IntWalk
theorem eqs_bump {n : Nat} {l : List EqR} {e : EqR} (H : EqsOK n l) (R : EqsR n l) (he : e ∈ l) : EqsOK n (l ++ [bump e]) where
 n8 := H.n8
 len := by rw [List.length_append,List.length_singleton]; have := R.len; omega
 co := fun d hd => by
  rcases List.mem_append.1 hd with h | h
  ·exact H.co d h
  ·rw [List.mem_singleton] at h
   subst h
   have c := (R.co e he).2.2
   exact ⟨(H.co e he).1,(H.co e he).2.1,(RQ.of_ok (c.rb.add (RB.int (z := 1) (k := 1) (bl_length_le.2 (by decide)) (Nat.le_refl _)) (k := 60) (by omega))).le (by omega)⟩
theorem up_map (m : Nat) (A : List Nat) : (((A ++ upL m m).drop A.length).take m).map (fun i => ((i : Nat) : Int)) = (((upL m m).drop 0).take m).map fun i => ((i : Nat) : Int) := by
 rw [List.drop_append_of_le_length (Nat.le_refl _),List.drop_length,List.nil_append,List.drop_zero]
def spL25dup : List Value -> Heap -> Option Value
 | [.int .i64 n,a,.int .u8 z],h => match decRows h a with
  | some la => if (-9223372036854775808 <= n /\ n <= 9223372036854775807) /\ la.length <= 9223372036854775807 /\ 0 <= z /\ z <= 255 then some (.bool true) else none
  | _ => none
 | _,_ => none
def c6 : ICode :=
 (.seq (.reg [qq 6 (.mv (.c (.bool false)))]) (.seq (.seq (.reg [qq 13 (.call 9 []),qq 14 (.un .not (.t 13))]) (.cond (.t 14) (.seq (.reg [qq 6 (.mv (.c (.bool false)))]) .ret) .skip)) (.seq (.reg [qq 16 (.mv (.t 0)),qq 17 (.mv (.t 1)),qq 18 (.call 10 [(.t 16),(.t 17)]),qq 15 (.mv (.t 18)),qq 19 (.ext (.t 15) 0),qq 20 (.ext (.t 15) 1),qq 7 (.mv (.t 19)),qq 8 (.mv (.t 20))]) (.seq (.seq (.reg [qq 21 (.mv (.t 8)),qq 22 (.un .not (.t 21)),qq 23 (.mv (.t 22)),⟨(some 24),(some (23,false)),(.mv (.t 7))⟩,⟨(some 25),(some (23,false)),(.lensl (.t 24))⟩,⟨(some 26),(some (23,false)),(.bin .eql (.t 25) (ci 0))⟩,qq 27 (.pick (.t 23) (.c (.bool true)) (.t 26)),qq 28 (.mv (.t 27)),⟨(some 29),(some (28,false)),(.mv (.t 7))⟩,⟨(some 30),(some (28,false)),(.lensl (.t 29))⟩,⟨(some 31),(some (28,false)),(.bin .gtr (.t 30) (ci 7))⟩,qq 32 (.pick (.t 28) (.c (.bool true)) (.t 31)),qq 33 (.mv (.t 32)),⟨(some 34),(some (33,false)),(.mv (.t 0))⟩,⟨(some 35),(some (33,false)),(.mv (.t 7))⟩,⟨(some 36),(some (33,false)),(.call 18 [(.t 34),(.t 35)])⟩,qq 37 (.pick (.t 33) (.c (.bool true)) (.t 36))]) (.cond (.t 37) (.seq (.reg [qq 6 (.mv (.c (.bool true)))]) .ret) .skip)) (.seq (.reg [qq 38 (.bslice 40 5 0 [] []),qq 39 (.mv (.t 7)),qq 40 (.app 40 5 72 (.t 38) (.t 39)),qq 41 (.mv (.t 7)),qq 42 (.app 40 5 72 (.t 40) (.t 41)),qq 9 (.mv (.t 42))]) (.seq (.reg [qq 43 (.mv (.t 0)),qq 44 (.mv (.t 9)),qq 45 (.call 14 [(.t 43),(.t 44)]),qq 10 (.mv (.t 45))]) (.seq (.seq (.dreg [qu 46 (.mv (.t 10)),qu 47 (.lensl (.t 46)),qu 48 (.mv (.t 7)),qu 49 (.lensl (.t 48)),qu 50 (.bin .lss (.t 47) (.t 49)),qu 51 (.mv (.t 50)),⟨(some 52),(some (51,false)),[],(.mv (.t 10))⟩,⟨(some 53),(some (51,false)),[],(.mv (.t 10))⟩,⟨(some 54),(some (51,false)),[],(.lensl (.t 53))⟩,⟨(some 55),(some (51,false)),[],(.mv (.t 7))⟩,⟨(some 56),(some (51,false)),[],(.lensl (.t 55))⟩,⟨(some 57),(some (51,false)),[],(.bin .sub (.t 54) (.t 56))⟩,⟨(some 58),(some (51,false)),[],(.slsl 1 (.t 52) (some (.t 57)) none)⟩,⟨(some 59),(some (51,false)),[],(.mv (.t 7))⟩,⟨(some 60),(some (51,false)),[],(.lensl (.t 59))⟩,⟨(some 61),(some (51,false)),[],(.mv (.t 7))⟩,⟨(some 62),(some (51,false)),[],(.lensl (.t 61))⟩,⟨(some 63),(some (51,false)),[],(.call 19 [(.t 60),(.t 62)])⟩,⟨(some 64),(some (51,false)),[],(.call 11 [(.t 58),(.t 63)])⟩,⟨(some 65),(some (51,false)),[],(.un .not (.t 64))⟩,qu 66 (.pick (.t 51) (.c (.bool true)) (.t 65))]) (.cond (.t 66) (.seq (.reg [qq 6 (.mv (.c (.bool false)))]) .ret) .skip)) (.seq (.reg [qq 67 (.mv (.t 7)),qq 68 (.mv (.t 2)),qq 69 (.conv .i64 (.t 68)),qq 70 (.mv (.t 7)),qq 71 (.lensl (.t 70)),qq 72 (.bin .rem (.t 69) (.t 71)),qq 73 (.ixsl 5 (.t 67) (.t 72)),qq 74 (.load true 5 (.t 73)),qq 11 (.alloc 40 5 [(.slice none 0 0),(.bool false),e0,e0,(.int .i64 0)]),qn (.store 5 (.t 11) (.t 74))]) (.seq (.dreg [qu 75 (.faddr 1 (.t 11)),qu 76 (.load true 3 (.t 75)),qu 77 (.call 21 [(ci 1)]),qu 78 (.call 20 [(.t 76),(.t 77)]),qu 79 (.faddr 1 (.t 11)),qm (.store 3 (.t 79) (.t 78))]) (.seq (.dreg [qu 80 (.mv (.t 0)),qu 81 (.bslice 40 5 0 [] []),qu 82 (.mv (.t 7)),qu 83 (.app 40 5 72 (.t 81) (.t 82)),qv 84 [1,3] (.load true 5 (.t 11)),qu 85 (.bslice 40 5 1 [(.slice none 0 0),(.bool false),e0,e0,(.int .i64 0)] [(0,5,(.t 84))]),qu 86 (.app 40 5 72 (.t 83) (.t 85)),qu 87 (.call 12 [(.t 80),(.t 86)]),qu 12 (.mv (.t 87))]) (.seq (.reg [qq 88 (.mv (.t 12)),qq 89 (.lensl (.t 88)),qq 90 (.bin .gtr (.t 89) (ci 0)),qq 91 (.mv (.t 90)),⟨(some 92),(some (91,true)),(.mv (.t 12))⟩,⟨(some 93),(some (91,true)),(.mv (.t 12))⟩,⟨(some 94),(some (91,true)),(.lensl (.t 93))⟩,⟨(some 95),(some (91,true)),(.bin .sub (.t 94) (ci 1))⟩,⟨(some 96),(some (91,true)),(.ixsl 1 (.t 92) (.t 95))⟩,⟨(some 97),(some (91,true)),(.load false 1 (.t 96))⟩,⟨(some 98),(some (91,true)),(.mv (.t 7))⟩,⟨(some 99),(some (91,true)),(.lensl (.t 98))⟩,⟨(some 100),(some (91,true)),(.bin .eql (.t 97) (.t 99))⟩,qq 101 (.pick (.t 91) (.t 100) (.c (.bool false))),qq 6 (.mv (.t 101))]) .ret)))))))))))
theorem tr6 : trFun Tryz.prog 6 = some ⟨102,[.t 6],c6⟩ := by kernel_rfl
set_option maxHeartbeats 32000000 in
theorem ok_L25dup : SpecOK Tryz.prog 6 (rdS spL25dup) := by
 refine rd_run (env_cons ok_alive5 (env_cons ok_normed (env_cons ok_clash5 (env_cons ok_red (env_cons ok_up5 (env_cons ok_same5 (env_cons ok_r3From (env_cons ok_r3Add (env_cons ok_min (env_nil _)))))))))) mixed tr6 ?_ ?_
 ·intro args h h' v hle e
  unfold spL25dup at e ⊢
  split at e
  ·split at e
   ·rename_i la h1
    simp only [decRows_mono hle h1]; exact e
   ·cases e
  ·cases e
 intro args v h N hG hN
 unfold spL25dup at hG
 split at hG
 case h_2 => cases hG
 rename_i n sa z
 split at hG
 case h_2 => cases hG
 rename_i la hxa
 split at hG
 case isFalse => cases hG
 rename_i hm
 obtain ⟨hn,hma,hz0,hz1⟩ := hm
 cases hG
 refine ⟨by rfl,by simp,?_⟩
 have al : spAlive5 [] = some (.bool true) := rfl
 obtain ⟨aA,mA,okA,DA,dA,kA,oA,bA,cA⟩ := normed_any (n := n) (b := N + 0) hxa hma (fun k b e => by have := hN k b e; omega)
 obtain ⟨MA,hMA⟩ : ∃ M,M = N + dA := ⟨_,rfl⟩
 have eMA : N + 0 + dA = MA + 0 := by omega
 rw [show N + 0 + dA = MA by omega] at bA
 generalize eHA : DA ++ h = HA at *
 have acA : ∀ (d : Nat) (tm : List (Nat × Value)) (V : Value) (K : St -> Prop),@aft (some d) (some (V,DA,dA)) ⟨(⟨tm,h,N + 0⟩,K)⟩ = K ⟨(d,V) :: tm,HA,MA + 0⟩ := fun _ _ _ _ => by rw [<- eMA,<- eHA]; exact propext Iff.rfl
 have xA : ExtL N h HA := fun q hq => oA q (by omega)
 rcases cA with ⟨rfl,_⟩ | ⟨rfl,fA,rfl,csA,RA⟩
 ·simp only [c6,G0,Nat.reduceAdd]
  simp only [↓R0,R1,simprocAttr,-Int.reduceAbs,flat,al,kA,acA,Bool.not_true,Bool.not_false,Fin,isEnd,resL,res1]
  exact ⟨_,rfl,rfl,xA⟩
 obtain ⟨nn,rfl⟩ := Int.eq_ofNat_of_zero_le fA.1
 have la14 := fA.2.2.1
 have EA := fit_eqs fA
 have FA := fit_R fA
 have lA := nmL_len la
 generalize nmL la = LL at *
 by_cases l0 : la.length = 0
 ·have l0' : ((la.length : Int) = 0) = True := eq_true (by omega)
  simp only [c6,G0,Nat.reduceAdd]
  simp only [↓R0,R1,simprocAttr,-Int.reduceAbs,flat,al,kA,acA,l0',Bool.not_true,Bool.not_false,Fin,isEnd,resL,res1]
  exact ⟨_,rfl,rfl,xA⟩
 have l0' : ((la.length : Int) = 0) = False := eq_false (by omega)
 by_cases l7 : la.length > 7
 ·have l7' : ((la.length : Int) > 7) = True := eq_true (by omega)
  simp only [c6,G0,Nat.reduceAdd]
  simp only [↓R0,R1,simprocAttr,-Int.reduceAbs,flat,al,kA,acA,l0',l7',Bool.not_true,Bool.not_false,Fin,isEnd,resL,res1]
  exact ⟨_,rfl,rfl,xA⟩
 have l7' : ((la.length : Int) > 7) = False := eq_false (by omega)
 have kC := clash5_of RA.rows (FA.sys (by omega) fun e h => h)
 cases tA : togL nn LL with
 | false =>
  rw [tA] at kC
  simp only [c6,G0,Nat.reduceAdd]
  simp only [↓R0,R1,simprocAttr,-Int.reduceAbs,rdS,flat,al,kA,acA,l0',l7',kC,Bool.not_true,Bool.not_false,Fin,isEnd,resL,res1]
  exact ⟨_,rfl,rfl,xA⟩
 | true =>
 rw [tA] at kC
 have con := (tog_sat EA.chk).1 tA
 have E2 := EA.app EA (by omega)
 obtain ⟨A,hA,eR⟩ := redL_dup E2.chk con (by omega)
 rw [lA] at hA eR
 obtain ⟨kb,off,blk,ea,hb,hlc,hle,ecs⟩ := lay_pos RA.lay (by omega)
 subst ea
 have hcA := RA.len.1
 rw [lA] at hcA
 have okA' := selfsOK_cells RA.self
 have up : ∀ {hp},ExtL MA HA hp -> Go.Eng.hle HA hp := fun he k b e => by rw [he k (bA k b e)]; exact e
 have xg := extL_ge (Nat.le_refl MA)
 have xh : ExtL MA HA HA = True := eq_true fun _ _ => rfl
 have srA : ∀ hp,ExtL MA HA hp -> srcOf hp 5 la.length (some ⟨kb,off,none⟩) = some csA := fun hp he => src_layO (lay_mono (up he) RA.lay)
 have nk := bA _ _ hb
 have M0 : ∀ j,(MA + j = kb) = False := fun j => eq_false (by omega)
 obtain ⟨U,eU⟩ : ∃ x,intC (upL la.length la.length) = x := ⟨_,rfl⟩
 obtain ⟨RC,eRC⟩ : ∃ x,intC (A ++ upL la.length la.length) = x := ⟨_,rfl⟩
 have ul := upL_len la.length la.length
 have kU : ∀ hp k,nwL spUp [.int .i64 la.length,.int .i64 la.length] hp k = some (.slice (some ⟨k,0,none⟩) la.length la.length,[(k,some ⟨3,1,false,U⟩)],1) := fun hp k => by
  have := intNL_call (b := k) (up_of (h := hp) (f := la.length) (m := la.length) (by omega) (by omega)) (by intro e; rw [e] at ul; exact l0 ul.symm)
  rw [ul,eU] at this
  exact this
 have kR : ∀ hp k kk,ExtL MA HA hp -> hget hp kk = some ⟨40,5,false,csA ++ csA⟩ -> nwL spRed [.int .i64 nn,.slice (some ⟨kk,0,none⟩) (la.length + la.length) (la.length + la.length)] hp k = some (.slice (some ⟨k,0,none⟩) (A.length + la.length) (A.length + la.length),[(k,some ⟨3,1,false,RC⟩)],1) := fun hp k kk he hk => by
  have R2 := RowsS.app (h := hp) (k := kk) (c := la.length + la.length) (e := 40) (s := 5) (x := false) (RA.mono (up he)) (RA.mono (up he)) (fun _ _ e => e) (fun _ _ e => e) (by rw [lA]; omega) hk
  rw [lA] at R2
  have := intNL_call (b := k) (red_of R2 E2.red) (by rw [eR]; intro e; have := congrArg List.length e; rw [List.length_append,ul] at this; simp only [List.length_nil] at this; omega)
  rw [eR,List.length_append,ul,eRC] at this
  exact this
 have mk : ∀ k,mkSl k 0 1 (A.length + la.length) A.length (A.length + la.length) = .slice (some ⟨k,A.length,none⟩) la.length la.length := fun k => by
  unfold mkSl
  rw [if_neg (by omega),Nat.mul_one,Nat.zero_add,Nat.add_sub_cancel_left]
 have kS : ∀ hp k1 k2,hget hp k1 = some ⟨3,1,false,RC⟩ -> hget hp k2 = some ⟨3,1,false,U⟩ -> spSame5 [.slice (some ⟨k1,A.length,none⟩) la.length la.length,.slice (some ⟨k2,0,none⟩) la.length la.length] hp = some (.bool true) := fun hp k1 k2 g1 g2 => by
  rw [<- eRC] at g1
  rw [<- eU] at g2
  have d1 := intC_listO g1 (o := A.length) (m := la.length) (c := la.length) (by rw [List.length_append,ul]; omega) (Nat.le_refl _)
  have d2 := intC_listO g2 (o := 0) (m := la.length) (c := la.length) (by rw [ul]; omega) (Nat.le_refl _)
  rw [up_map] at d1
  unfold spSame5
  simp only [d1,d2]
  rw [if_pos (by omega)]
  simp
 obtain ⟨T,rfl⟩ := Int.eq_ofNat_of_zero_le hz0
 obtain ⟨j,hj⟩ : ∃ j,j = T % la.length := ⟨_,rfl⟩
 have jl : j < la.length := by rw [hj]; exact Nat.mod_lt _ (by omega)
 have wz : IntKind.i64.wrap (T : Int) = (T : Int) := i64_in _ (by omega)
 have tz : (T : Int).tmod (la.length : Int) = (j : Int) := by rw [hj]; rfl
 have jl' : ((j : Int) < (la.length : Int)) = True := eq_true (by omega)
 have inp := RA.inR (p := j) (by omega)
 have ec : (blk.cells.drop (off + j * 5)).take 5 = eqC csA (j : Nat) := by
  unfold eqC
  rw [Int.toNat_natCast,ecs,List.drop_take,List.take_take,Nat.min_eq_left (by omega),List.drop_drop]
 have m5 : off + j * 5 + 5 <= blk.cells.length := by omega
 have fself : (eqC csA (j : Nat)).all (selfOK HA) = true := eqC_all RA.self
 have dc := RA.eq inp
 rw [Int.toNat_natCast] at dc
 have em : eqAt LL j ∈ LL := eqAt_mem (by omega)
 have eo := (FA.co _ em).2.2
 have EB := eqs_bump EA FA em
 have tB := bump_clash EB.chk em
 obtain ⟨LP,Lat⟩ := minF_last EB.chk con tB
 generalize eqAt LL j = e at *
 obtain ⟨se,eC,hse⟩ := decEq_eq dc
 rw [eC] at ec fself
 have dt : decEq HA (se :: (bump e).tl) = some (bump e) := decEq_of (e := bump e) hse
 have heself2 : (se :: (bump e).tl).all (selfOK HA) = true := by
  rw [List.all_cons,Bool.and_eq_true] at fself ⊢
  exact ⟨fself.1,rfl⟩
 have so : okCell se = true := selfOK_cell (by rw [List.all_cons,Bool.and_eq_true] at fself; exact fself.1)
 obtain ⟨LB,eLB⟩ : ∃ x,(minF nn (LL ++ [bump e])).length = x := ⟨_,rfl⟩
 obtain ⟨ZB,eZB⟩ : ∃ x,(minS nn (LL ++ [bump e]) ((LL ++ [bump e])).length).2 = x := ⟨_,rfl⟩
 obtain ⟨CB,eCB⟩ : ∃ x,intZ (minF nn (LL ++ [bump e]) ++ List.replicate ZB 0) = x := ⟨_,rfl⟩
 rw [eLB] at LP Lat
 have Lc : CB[LB - 1]? = some (Value.int .i64 (la.length : Int)) := by
  rw [<- eCB,<- lA]
  exact intZ_get (by rw [List.getElem?_append_left (by omega)]; exact Lat)
 have CBl : CB.length = LB + ZB := by rw [<- eCB,intZ_len,List.length_append,List.length_replicate,eLB]
 have LB9 : LB <= 9 := by
  have := (minF_R EB.chk tB).len
  rw [eLB,List.length_append,List.length_singleton] at this
  omega
 have kM : ∀ hp k kk,ExtL MA HA hp -> hget hp kk = some ⟨40,5,false,csA ++ se :: (bump e).tl⟩ -> nwL spMin [.int .i64 nn,.slice (some ⟨kk,0,none⟩) (la.length + 1) (la.length + 1)] hp k = some (.slice (some ⟨k,0,none⟩) LB (LB + ZB),[(k,some ⟨3,1,false,CB⟩)],1) := fun hp k kk he hk => by
  have R2 := RA.push dt heself2 (up he) (by rw [lA]; exact Nat.le_refl _) hk
  rw [lA] at R2
  have := min_no (b := k) R2 EB tB
  rw [eLB,eZB,eCB] at this
  exact this
 have LP' : ((LB : Int) > 0) = True := eq_true (by omega)
 have wl : IntKind.i64.wrap ((LB : Int) - 1) = ((LB - 1 : Nat) : Int) := by rw [i64_in _ (by omega)]; omega
 have lb1 : ((LB - 1 : Nat) : Int) < (LB : Int) := by omega
 have lb2 : LB - 1 < LB := by omega
 have lb3 : LB - 1 + 1 <= CB.length := by omega
 have wr : IntKind.i64.wrap (((A.length + la.length : Nat) : Int) - (la.length : Int)) = ((A.length : Nat) : Int) := by rw [i64_in _ (by omega)]; omega
 have rl : (((A.length + la.length : Nat) : Int) < (la.length : Int)) = False := eq_false (by omega)
 have aal : (A.length <= A.length + la.length) = True := eq_true (by omega)
 have z5 : (la.length <= 0) = False := eq_false (by omega)
 have z6 : (la.length + la.length <= la.length) = False := eq_false (by omega)
 have z7 : (la.length + 1 <= la.length) = False := eq_false (by omega)
 have v1 : (la.length * 72 <= 140737488355328) = True := eq_true (by omega)
 have v2 : ((la.length + la.length) * 72 <= 140737488355328) = True := eq_true (by omega)
 have v3 : ((la.length + 1) * 72 <= 140737488355328) = True := eq_true (by omega)
 have ad : spR3Add [.agg ⟨[.bool e.rhs.s,.string ⟨⟨e.rhs.n⟩⟩,.string ⟨⟨e.rhs.d⟩⟩]⟩,.agg ⟨rE 1⟩] = some (.agg ⟨rE (e.rhs.v + 1)⟩) := by
  have h : spR3Add [.agg ⟨e.rhs.cells⟩,.agg ⟨(RQ.of 1).cells⟩] = some (.agg ⟨rE (e.rhs.v + (RQ.of 1).v)⟩) := if_pos ⟨by have := eo.1; omega,by have := eo.2; omega,by decide +kernel,by decide +kernel⟩
  rw [RQ.of_v] at h
  exact h
 have fr : spR3From [.int .i64 1] = some (.agg ⟨rE 1⟩) := by
  have h : spR3From [.int .i64 1] = some (.agg ⟨rE ((1 : Int) : Rat)⟩) := r3From_of (by omega)
  exact h
 have et : e.tl = [.bool e.rhs.s,.string ⟨⟨e.rhs.n⟩⟩,.string ⟨⟨e.rhs.d⟩⟩,.int .i64 e.line] := rfl
 have s1 : setR [se,.bool e.rhs.s,.string ⟨⟨e.rhs.n⟩⟩,.string ⟨⟨e.rhs.d⟩⟩,.int .i64 e.line] 1 (rE (e.rhs.v + 1)) = se :: (bump e).tl := rfl
 have s2 : (se :: (bump e).tl).length = 5 := rfl
 have s3 : (se :: (bump e).tl).take 5 = se :: (bump e).tl := rfl
 have s4 : (se :: (bump e).tl).all okCell = true := by rw [List.all_cons,so]; rfl
 have s5 : setR [.slice none 0 0,.bool false,.string ⟨⟨[]⟩⟩,.string ⟨⟨[]⟩⟩,.int .i64 0] 0 (se :: (bump e).tl) = se :: (bump e).tl := rfl
 generalize se :: (bump e).tl = B5 at *
 simp only [c6,G0,Nat.reduceAdd]
 simp only [↓R0,R1,simprocAttr,-Int.reduceAbs,rdS,flat,al,kA,acA,l0',l7',kC,xg,xh,srA,hcA,okA',kR,kU,kS,kM,mk,M0,hb,ec,m5,jl,jl',wz,tz,et,so,ad,fr,s1,s2,s3,s4,s5,setR_length,rE_l3',rE_o3',LP',wl,lb1,lb2,lb3,Lc,wr,rl,aal,l0,z5,z6,z7,v1,v2,v3,Nat.zero_add,Nat.zero_mul,List.nil_append,Bool.not_true,Bool.not_false,Fin,isEnd,resL,res1]
 refine ⟨_,rfl,rfl,fun q hq => ?_⟩
 have nb : ∀ d,(MA + d = q) = False := fun d => eq_false (by omega)
 simp only [↓R0,R1,simprocAttr,-Int.reduceAbs,nb]
 exact xA q hq
theorem fr_L25dup {h : Heap} {N : Nat} {n z : Int} {a : Value} {la : List EqR} (zn : -9223372036854775808 <= n /\ n <= 9223372036854775807) (ea : decRows h a = some la) (ma : la.length <= maxLen) (hz : 0 <= z /\ z <= 255) : rdS spL25dup [.int .i64 n,a,.int .u8 z] h N = some (.bool true,[],0) := by
 unfold rdS spL25dup
 simp only [ea]
 rw [if_pos ⟨zn,Nat.le_trans ma (by decide),hz⟩]; rfl
end Go.Eng
end
section
namespace Go.Eng.K
open Go.Eng
inductive Ki where
 | b | i (k : IntKind) | s
def kiFs (ty : TypeId -> Option (List Ki)) (P : Program) : List Field -> Nat -> Option (List Ki)
 | [],_ => some []
 | f :: r,off =>
  if f.name ≠ "_" /\ f.offset = off then
   match ty f.type,szOf P f.type with
   | some ks,some n => if ks.length = n then (kiFs ty P r (off + n)).map (ks ++ ·) else none
   | _,_ => none
  else none
def kiTy (P : Program) : Nat -> TypeId -> Option (List Ki)
 | 0,_ => none
 | d + 1,t =>
  match P.underlying t with
  | some .bool => some [.b]
  | some (.int k) => some [.i k]
  | some .string => some [.s]
  | some (.struct fs) => if P.stoodInHeld t then none else kiFs (kiTy P d) P fs.toList 0
  | some (.array len e) => match kiTy P d e,szOf P e with
   | some ks,some n => if ks.length = n then some (List.replicate len ks).flatten else none
   | _,_ => none
  | _ => none
def kmatch : List Ki -> List Value -> Prop
 | [],[] => True
 | .b :: ks,.bool _ :: r => kmatch ks r
 | .i k :: ks,.int k' n :: r => (k' = k /\ (Lit.int k n).wf = true) /\ kmatch ks r
 | .s :: ks,.string s :: r => s.size <= maxLen /\ kmatch ks r
 | _,_ => False
theorem kmatch_append : ∀ {ks ks' : List Ki} {cs cs' : List Value},kmatch ks cs -> kmatch ks' cs' -> kmatch (ks ++ ks') (cs ++ cs')
 | [],_,[],_,_,h => h
 | [],_,_ :: _,_,h,_ => h.elim
 | .b :: ks,ks',cs,cs',h,h' => by
  match cs,h with
  | .bool _ :: r,h => exact kmatch_append (ks := ks) h h'
 | .i k :: ks,ks',cs,cs',h,h' => by
  match cs,h with
  | .int _ _ :: r,h => exact ⟨h.1,kmatch_append (ks := ks) h.2 h'⟩
 | .s :: ks,ks',cs,cs',h,h' => by
  match cs,h with
  | .string _ :: r,h => exact ⟨h.1,kmatch_append (ks := ks) h.2 h'⟩
section
variable {H : Type} {enc : TypeId × Value -> H} {P : Program}
theorem cellsOf_sz {t : TypeId} {n : Nat} (h : szOf P t = some n) : P.cellsOf t = n := by
 unfold Program.cellsOf; unfold szOf at h; rw [h]; rfl
def Plain (P : Program) (enc : TypeId × Value -> H) (fuel : Nat) (t : TypeId) (ks : List Ki) : Prop :=
 ∀ (w : World) (base : Nat) (spare : Nat -> Bool) (held : Bool) (cs : List Value) (x : DataW H × List MemPlace),DataW.trod enc P w base spare held fuel t cs = some x ->
  kmatch ks cs /\ x.2 = [] /\ ∀ w' base' spare' held',DataW.trod enc P w' base' spare' held' fuel t cs = some x
theorem plain_fields {fuel : Nat} {ty : TypeId -> Option (List Ki)} (hty : ∀ t ks n,ty t = some ks -> szOf P t = some n -> ks.length = n -> Plain P enc fuel t ks) :
  ∀ (fs : List Field) (off : Nat) (ks : List Ki),kiFs ty P fs off = some ks -> ∀ (w : World) (base : Nat) (spare : Nat -> Bool) (held : Bool) (cs : List Value) (xs : List (DataW H × List MemPlace)),
   (fs.mapM fun f => DataW.trod enc P w base spare held fuel f.type ((cs.drop f.offset).take (P.cellsOf f.type))) = some xs -> cs.length = off + ks.length ->
   kmatch ks (cs.drop off) /\ xs.flatMap (·.2) = [] /\ ∀ w' base' spare' held',(fs.mapM fun f => DataW.trod enc P w' base' spare' held' fuel f.type ((cs.drop f.offset).take (P.cellsOf f.type))) = some xs
 | [],off,ks,h,w,base,spare,held,cs,xs,hm,hl => by
  simp only [kiFs,Option.some.injEq] at h
  subst h
  simp only [List.mapM_nil,Option.pure_def,Option.some.injEq] at hm
  subst hm
  simp only [List.length_nil,Nat.add_zero] at hl
  rw [List.drop_eq_nil_of_le (by omega)]
  exact ⟨trivial,rfl,fun _ _ _ _ => rfl⟩
 | f :: r,off,ks,h,w,base,spare,held,cs,xs,hm,hl => by
  simp only [kiFs] at h
  split at h
  case isFalse => cases h
  rename_i hc
  obtain ⟨_,hoff⟩ := hc
  split at h
  case h_2 => cases h
  rename_i ks0 n hk hn
  split at h
  case isFalse => cases h
  rename_i hlen
  rw [Option.map_eq_some_iff] at h
  obtain ⟨ks1,h1,rfl⟩ := h
  have hsz := cellsOf_sz hn
  simp only [List.mapM_cons,Option.bind_eq_bind,Option.bind_eq_some_iff,Option.pure_def,Option.some.injEq] at hm
  obtain ⟨y,hy,ys,hys,rfl⟩ := hm
  have hp := hty f.type ks0 n hk hn hlen w base spare held _ y hy
  obtain ⟨p1,p2,p3⟩ := hp
  simp only [List.length_append] at hl
  obtain ⟨q1,q2,q3⟩ := plain_fields hty r (off + n) ks1 h1 w base spare held cs ys hys (by omega)
  rw [hoff,hsz] at p1
  refine ⟨?_,?_,?_⟩
  ·have e : cs.drop off = (cs.drop off).take n ++ cs.drop (off + n) := by
    rw [<- List.drop_drop,List.take_append_drop]
   rw [e]
   exact kmatch_append p1 q1
  ·simp only [List.flatMap_cons,p2,q2,List.nil_append]
  ·intro w' base' spare' held'
   simp only [List.mapM_cons,Option.bind_eq_bind,Option.bind_eq_some_iff,Option.pure_def,Option.some.injEq]
   exact ⟨y,p3 w' base' spare' held',ys,q3 w' base' spare' held',rfl⟩
theorem plain_elems {fuel : Nat} {e : TypeId} {ks : List Ki} {n : Nat} (hn : szOf P e = some n) (hl : ks.length = n) (he : Plain P enc fuel e ks) :
  ∀ (m i0 : Nat) (w : World) (base : Nat) (spare : Nat -> Bool) (held : Bool) (cs : List Value) (xs : List (DataW H × List MemPlace)),
   ((List.range' i0 m).mapM fun i => DataW.trod enc P w base spare held fuel e ((cs.drop (i * P.cellsOf e)).take (P.cellsOf e))) = some xs -> cs.length = (i0 + m) * n ->
   kmatch (List.replicate m ks).flatten (cs.drop (i0 * n)) /\ xs.flatMap (·.2) = [] /\ ∀ w' base' spare' held',((List.range' i0 m).mapM fun i => DataW.trod enc P w' base' spare' held' fuel e ((cs.drop (i * P.cellsOf e)).take (P.cellsOf e))) = some xs
 | 0,i0,w,base,spare,held,cs,xs,hm,hlen => by
  simp only [List.range'_zero,List.mapM_nil,Option.pure_def,Option.some.injEq] at hm
  subst hm
  simp only [Nat.add_zero] at hlen
  rw [List.drop_eq_nil_of_le (by omega)]
  exact ⟨trivial,rfl,fun _ _ _ _ => by simp⟩
 | m + 1,i0,w,base,spare,held,cs,xs,hm,hlen => by
  have hsz := cellsOf_sz hn
  simp only [List.range'_succ,List.mapM_cons,Option.bind_eq_bind,Option.bind_eq_some_iff,Option.pure_def,Option.some.injEq] at hm
  obtain ⟨y,hy,ys,hys,rfl⟩ := hm
  obtain ⟨p1,p2,p3⟩ := he w base spare held _ y hy
  obtain ⟨q1,q2,q3⟩ := plain_elems hn hl he m (i0 + 1) w base spare held cs ys hys (by rw [hlen]; congr 1; omega)
  rw [hsz] at p1
  refine ⟨?_,?_,?_⟩
  ·rw [List.replicate_succ,List.flatten_cons]
   have e : cs.drop (i0 * n) = (cs.drop (i0 * n)).take n ++ cs.drop ((i0 + 1) * n) := by
    rw [Nat.succ_mul,<- List.drop_drop,List.take_append_drop]
   rw [e]
   exact kmatch_append p1 q1
  ·simp only [List.flatMap_cons,p2,q2,List.nil_append]
  ·intro w' base' spare' held'
   simp only [List.range'_succ,List.mapM_cons,Option.bind_eq_bind,Option.bind_eq_some_iff,Option.pure_def,Option.some.injEq]
   exact ⟨y,p3 w' base' spare' held',ys,q3 w' base' spare' held',rfl⟩
theorem plain_ty : ∀ (fuel d : Nat) (t : TypeId) (ks : List Ki) (n : Nat),kiTy P d t = some ks -> szOf P t = some n -> ks.length = n -> Plain P enc fuel t ks
 | 0,d,t,ks,n,h,hn,hl => by intro w base spare held cs x hx; simp [DataW.trod] at hx
 | fuel + 1,0,t,ks,n,h,hn,hl => by simp [kiTy] at h
 | fuel + 1,d + 1,t,ks,n,h,hn,hl => by
  intro w base spare held cs x hx
  unfold kiTy at h
  unfold DataW.trod at hx ⊢
  split at h
  ·rename_i hu
   cases h
   rw [hu] at hx ⊢
   match cs,hx with
   | [.bool b],hx => simp only [Option.some.injEq] at hx; subst hx; exact ⟨trivial,rfl,fun _ _ _ _ => rfl⟩
  ·rename_i k hu
   cases h
   rw [hu] at hx ⊢
   match cs,hx with
   | [.int k' m],hx =>
    simp only at hx
    split at hx
    ·rename_i hc
     simp only [Option.some.injEq] at hx; subst hx
     exact ⟨⟨hc,trivial⟩,rfl,fun _ _ _ _ => by simp only; rw [if_pos hc]⟩
    ·cases hx
  ·rename_i hu
   cases h
   rw [hu] at hx ⊢
   match cs,hx with
   | [.string s],hx =>
    simp only at hx
    split at hx
    ·rename_i hc
     simp only [Option.some.injEq] at hx; subst hx
     exact ⟨⟨hc,trivial⟩,rfl,fun _ _ _ _ => by simp only; rw [if_pos hc]⟩
    ·cases hx
  ·rename_i fs hu
   split at h
   ·cases h
   rw [hu] at hx ⊢
   simp only at hx ⊢
   split at hx
   case isFalse => cases hx
   rename_i hlen
   rw [Option.map_eq_some_iff] at hx
   obtain ⟨xs,hxs,rfl⟩ := hx
   rw [cellsOf_sz hn,<- hl] at hlen
   obtain ⟨p1,p2,p3⟩ := plain_fields (fuel := fuel) (fun t ks n h1 h2 h3 => plain_ty fuel d t ks n h1 h2 h3) fs.toList 0 ks h w base spare held cs xs hxs (by omega)
   refine ⟨by simpa using p1,p2,fun w' base' spare' held' => ?_⟩
   rw [if_pos (by rw [cellsOf_sz hn,<- hl,hlen]),p3]; rfl
  ·rename_i len e hu
   split at h
   case h_2 => cases h
   rename_i ks0 m hk hm
   split at h
   case isFalse => cases h
   rename_i hlm
   simp only [Option.some.injEq] at h
   subst h
   rw [hu] at hx ⊢
   simp only at hx ⊢
   split at hx
   case isFalse => cases hx
   rename_i hlen
   rw [Option.map_eq_some_iff] at hx
   obtain ⟨xs,hxs,rfl⟩ := hx
   rw [cellsOf_sz hn,<- hl] at hlen
   rw [List.range_eq_range'] at hxs
   have hfl : ((List.replicate len ks0).flatten).length = len * m := by rw [List.length_flatten]; simp [hlm]
   obtain ⟨p1,p2,p3⟩ := plain_elems hm hlm (plain_ty fuel d e ks0 m hk hm hlm) len 0 w base spare held cs xs hxs (by rw [hlen,hfl,Nat.zero_add])
   refine ⟨by simpa using p1,p2,fun w' base' spare' held' => ?_⟩
   rw [if_pos (by rw [cellsOf_sz hn,<- hl,hlen]),List.range_eq_range',p3]; rfl
  ·cases h
end
theorem wf_u8 {n : Int} (h : (Lit.int .u8 n).wf = true) : 0 <= n /\ n <= 255 := by simpa [Lit.wf,IntKind.min,IntKind.max,IntKind.signed,IntKind.bits] using h
theorem wf_i64 {n : Int} (h : (Lit.int .i64 n).wf = true) : -9223372036854775808 <= n /\ n <= 9223372036854775807 := by simpa [Lit.wf,IntKind.min,IntKind.max,IntKind.signed,IntKind.bits] using h
end Go.Eng.K
end
section
namespace Go.Eng.K
open Go.Eng
theorem vr_ex (β : Emb) : ∀ v : Value,∃ a,VR β a v := by
 have key : ∀ (n : Nat) (v : Value),SizeOf.sizeOf v < n -> ∃ a,VR β a v := by
  intro n
  induction n with
  | zero => intro v h; omega
  | succ n ih =>
   intro v h
   have list : ∀ l : List Value,(∀ x ∈ l,SizeOf.sizeOf x < n) -> ∃ bs,VRs β bs l := by
    intro l
    induction l with
    | nil => intro _; exact ⟨[],.nil⟩
    | cons x r ihl =>
     intro hx
     obtain ⟨a,ha⟩ := ih x (hx x (List.mem_cons_self ..))
     obtain ⟨bs,hs⟩ := ihl (fun y hy => hx y (List.mem_cons_of_mem _ hy))
     exact ⟨a :: bs,.cons _ _ _ _ ha hs⟩
   by_cases ho : okCell v = true
   ·exact ⟨.chan none,.junk none v ho⟩
   ·match v,ho,h with
    | .agg ⟨l⟩,_,h =>
     obtain ⟨bs,hs⟩ := list l (fun x hx => by
      have := List.sizeOf_lt_of_mem hx
      simp only [Value.agg.sizeOf_spec,Array.mk.sizeOf_spec] at h
      omega)
     exact ⟨.agg ⟨bs⟩,.agg _ _ hs⟩
    | .tuple ⟨l⟩,_,h =>
     obtain ⟨bs,hs⟩ := list l (fun x hx => by
      have := List.sizeOf_lt_of_mem hx
      simp only [Value.tuple.sizeOf_spec,Array.mk.sizeOf_spec] at h
      omega)
     exact ⟨.tuple ⟨bs⟩,.tup _ _ hs⟩
 exact fun v => key (SizeOf.sizeOf v + 1) v (Nat.lt_succ_self _)
def mirE (W : World) : Emb := fun k => if k < W.heap.size then some ⟨k,0,[]⟩ else none
open Classical in
noncomputable def absV (W : World) (v : Value) : Value :=
 match v with
 | .slice (some a) len cap =>
  if len = 0 then .slice (some ⟨0,0,some 1⟩) 0 0
  else if a.spot = none /\ a.block < W.heap.size then .slice (some a) len cap
  else Classical.choose (vr_ex (mirE W) (.slice (some a) len cap))
 | v => if isBase v = true then v else Classical.choose (vr_ex (mirE W) v)
theorem absV_vr (W : World) (v : Value) : VR (mirE W) (absV W v) v := by
 unfold absV
 split
 ·rename_i a len cap
  split
  ·rename_i h; subst h; exact .sle _ _
  ·split
   ·rename_i h
    obtain ⟨b,off,s⟩ := a
    obtain ⟨h1,h2⟩ := h
    simp only at h1 h2
    subst h1
    exact VR.sl b off len cap ⟨b,0,[]⟩ (by unfold mirE; rw [if_pos h2])
   ·exact Classical.choose_spec (vr_ex (mirE W) _)
 ·split
  ·rename_i h; exact .base _ h
  ·exact Classical.choose_spec (vr_ex (mirE W) _)
theorem absV_base {W : World} {v : Value} (h : isBase v = true) : absV W v = v := by
 unfold absV
 split
 ·simp [isBase] at h
 ·rw [if_pos h]
theorem absV_map (W : World) : ∀ l : List Value,VRs (mirE W) (l.map (absV W)) l
 | [] => .nil
 | v :: r => .cons _ _ _ _ (absV_vr W v) (absV_map W r)
theorem absV_bases {W : World} : ∀ {l : List Value},l.all isBase = true -> l.map (absV W) = l
 | [],_ => rfl
 | v :: r,h => by
  simp only [List.all_cons,Bool.and_eq_true] at h
  rw [List.map_cons,absV_base h.1,absV_bases h.2]
noncomputable def mirB (W : World) (b : Nat) : Option Blk :=
 match W.heap[b]? with
 | some (.cells c elem _) => some ⟨elem,0,true,c.toList.map (absV W)⟩
 | _ => none
noncomputable def mirror (W : World) : Heap := (List.range W.heap.size).map fun b => (b,mirB W b)
theorem hget_map {f : Nat -> Option Blk} {k : Nat} : ∀ (l : List Nat),hget (l.map fun b => (b,f b)) k = if k ∈ l then f k else none
 | [] => rfl
 | b :: r => by
  simp only [List.map_cons,hget]
  by_cases e : b = k
  ·subst e; simp
  ·rw [if_neg e,hget_map r]
   simp [Ne.symm e]
theorem mir_get (W : World) (k : Nat) : hget (mirror W) k = mirB W k := by
 unfold mirror
 rw [hget_map]
 by_cases h : k < W.heap.size
 ·rw [if_pos (List.mem_range.2 h)]
 ·rw [if_neg (by simpa using h)]
  unfold mirB
  rw [Array.getElem?_eq_none (by omega)]
theorem mir_blk {W : World} {k : Nat} {blk : Blk} (h : hget (mirror W) k = some blk) : k < W.heap.size /\ ∃ C fr,W.heap[k]? = some (.cells ⟨C⟩ blk.elem fr) /\ blk.sz = 0 /\ blk.cells = C.map (absV W) := by
 rw [mir_get] at h
 unfold mirB at h
 split at h
 ·rename_i c elem fr hk
  cases h
  refine ⟨?_,c.toList,fr,hk,rfl,rfl⟩
  rcases Nat.lt_or_ge k W.heap.size with h | h
  ·exact h
  ·rw [Array.getElem?_eq_none h] at hk; cases hk
 ·cases h
theorem mir_wr {W : World} {k : Nat} : ¬ wr (mirror W) k := fun ⟨blk,h1,h2⟩ => by
 obtain ⟨_,C,fr,_,h3,_⟩ := mir_blk h1
 exact h2 h3
theorem mir_rel (W : World) : Rel (mirE W) (mirror W) W := by
 refine ⟨fun k blk hk => ?_,fun k k' L L' _ b => absurd b mir_wr,fun k L h => ?_⟩
 ·obtain ⟨h1,C,fr,h2,h3,h4⟩ := mir_blk hk
  refine ⟨⟨k,0,[]⟩,C,fr,by unfold mirE; rw [if_pos h1],by simpa using h2,fun h => absurd h3 h,by rw [h4]; exact absV_map W C,by simp,fun _ => rfl⟩
 ·unfold mirE at h
  split at h
  ·rename_i hk; cases h; exact hk
  ·cases h
theorem mir_calls {P : Program} {f : Nat} {S : List Value -> Heap -> Nat -> Option Out} (hS : SpecOK P f S) {W : World} {aargs args : List Value} {v : Value} (h : S aargs (mirror W) W.heap.size = some (v,[],0))
  (ha : VRs (mirE W) aargs args) (hv : isBase v = true) :
  Calls P f ⟨args⟩ W fun e W' => e = .returned v /\ W'.os = W.os /\ W'.output = W.output /\ ∀ b,b < W.heap.size -> W'.heap[b]? = W.heap[b]? := by
 have h := hS.ok aargs (mirror W) W.heap.size (v,[],0) h (mirE W) W args ha (mir_rel W) (fun k h1 h2 => by simp only at h2; omega)
  ⟨W.heap.size,fun k hk => by
   rcases Nat.lt_or_ge k W.heap.size with h | h
   ·exact h
   ·exact absurd (by unfold mirE; rw [if_neg (by omega)]) hk⟩
 refine h.mono ?_
 rintro e W' ⟨β',v',he,hvr,hrel,hfr,_⟩
 exact ⟨by rw [he,hvr.base_left hv],hfr.os,hfr.out,fun b hb => hfr.keep b hb (fun k L hk => absurd hk mir_wr)⟩
theorem kept_of {W W' : World} (h1 : W'.os = W.os) (h2 : W'.output = W.output) (h3 : ∀ b,b < W.heap.size -> W'.heap[b]? = W.heap[b]?) : W.keptBut W' (fun _ => False) := by
 refine ⟨h1,h2,fun i hi => ?_⟩
 rw [h3 i hi]
 cases W.heap[i]? with
 | none => rfl
 | some o =>
  cases o with
  | cells c t fr => exact ⟨rfl,rfl,rfl,fun _ _ => rfl⟩
  | map es cl => exact .inr ⟨rfl,rfl⟩
  | _ => rfl
section
variable {H : Type} {enc : TypeId × Value -> H} {P : Program}
theorem trodAll_old {W W' : World} (hs : ∀ b,b < W.heap.size -> W'.heap[b]? = W.heap[b]?) {base : Nat} {sp : Nat -> Bool} {held : Bool} :
  ∀ {ts : List TypeId} {vs : List Value} {ds : List (DataW H)} {ps : List MemPlace},DataW.TrodAll enc P W base sp held ts vs ds ps -> DataW.TrodAll enc P W' base sp held ts vs ds ps
 | [],[],[],_,h => h
 | t :: ts,v :: vs,d :: ds,ps,⟨p,q,⟨n,h1⟩,h2,e⟩ => by
  have lt := DataW.trod_lt n _ _ _ h1
  refine ⟨p,q,⟨n,DataW.trod_carry n _ _ _ h1 (fun x hx => ?_)⟩,trodAll_old hs h2,e⟩
  have hb := lt x hx
  cases x with
  | cell b off => simp only [MemPlace.block] at hb; simp only [World.sameAt,World.cell?,hs b hb]
  | map b => simp only [MemPlace.block] at hb; simp only [World.sameAt,hs b hb]
 | [],[],_ :: _,_,h => h.elim
 | [],_ :: _,_,_,h => by cases h
 | _ :: _,[],_,_,h => by cases h
 | _ :: _,_ :: _,[],_,h => by cases h
theorem args_again {W W' : World} (hl : laidOutB P = true) (hm : mapsRowed P = true) (hz : ((List.range P.types.size).all fun t => match P.underlying t with | some (.slice e) => decide (0 < P.cellsOf e) | _ => true) = true)
  (hs : ∀ b,b < W.heap.size -> W'.heap[b]? = W.heap[b]?) {ts : List TypeId} (ht : ts.all (fun t => decide (t < P.types.size)) = true) {vs : List Value} {ds : List (DataW H)} {ps : List MemPlace} (h : DataW.TrodAll enc P W 0 (fun _ => true) true ts vs ds ps) :
  DataW.TrodAll enc P W' 0 (fun b => decide (b < W.heap.size)) true ts vs ds ps := by
 refine DataW.TrodAll.respare (kids_rows hl hm) (slices_full_of P hz) (fun t h => of_decide_eq_true (List.all_eq_true.1 ht t h)) (trodAll_old hs h) (fun p hp => ?_)
 exact decide_eq_true (DataW.TrodAll.lt h p hp)
theorem mir_at {W : World} {a : Addr} {n : Nat} {cs : List Value} (hn : 0 < n) (h : W.cells? 0 a n = some cs) :
  a.spot = none /\ a.block < W.heap.size /\ ∃ blk,hget (mirror W) a.block = some blk /\ a.off + n <= blk.cells.length /\ (blk.cells.drop a.off).take n = cs.map (absV W) := by
 obtain ⟨_,hlen,hc⟩ := World.cells?_some h
 have h0 := hc 0 hn
 rw [List.getElem?_eq_getElem (by omega)] at h0
 have e0 : a.add 0 = a := rfl
 rw [e0] at h0
 unfold World.cell? at h0
 split at h0
 case h_2 => cases h0
 rename_i c elem fr hk
 split at h0
 case isTrue => cases h0
 rename_i hsp
 have hspot : a.spot = none := by cases h : a.spot with | none => rfl | some s => rw [h] at hsp; simp at hsp
 have hlt : a.block < W.heap.size := by
  rcases Nat.lt_or_ge a.block W.heap.size with h | h
  ·exact h
  ·rw [Array.getElem?_eq_none h] at hk; cases hk
 have cell : ∀ i,i < n -> c.toList[a.off + i]? = cs[i]? := fun i hi => by
  have := hc i hi
  rw [<- this]
  have ea : a.add i = ⟨a.block,a.off + i,none⟩ := by
   unfold Addr.add
   split
   ·rename_i h0; subst h0; cases a; simp_all
   ·rfl
  rw [ea]
  simp only [World.cell?,hk]
  simp
 have hle : a.off + n <= c.toList.length := by
  have := cell (n - 1) (by omega)
  rw [List.getElem?_eq_getElem (by omega : n - 1 < cs.length)] at this
  have := (List.getElem?_eq_some_iff.1 this).1
  omega
 refine ⟨hspot,hlt,⟨elem,0,true,c.toList.map (absV W)⟩,?_,by simpa using hle,?_⟩
 ·rw [mir_get]; unfold mirB; rw [hk]
 ·refine List.ext_getElem? fun i => ?_
  rw [List.getElem?_take]
  by_cases hi : i < n
  ·rw [if_pos hi,List.getElem?_drop,List.getElem?_map,List.getElem?_map,cell i hi]
  ·rw [if_neg hi,List.getElem?_eq_none (by simp; omega)]
theorem many_ex {α : Type} {sz : Nat} {dec : List Value -> Option α} : ∀ (l : Nat) (cs : List Value),(∀ i,i < l -> ∃ x,dec ((cs.drop (i * sz)).take sz) = some x) -> ∃ xs,many sz dec l cs = some xs
 | 0,cs,_ => ⟨[],rfl⟩
 | l + 1,cs,h => by
  obtain ⟨x,hx⟩ := h 0 (by omega)
  simp only [Nat.zero_mul,List.drop_zero] at hx
  obtain ⟨xs,hxs⟩ := many_ex l (cs.drop sz) (fun i hi => by
   obtain ⟨y,hy⟩ := h (i + 1) (by omega)
   refine ⟨y,?_⟩
   rw [List.drop_drop,<- hy,Nat.succ_mul,Nat.add_comm (i * sz) sz])
  refine ⟨x :: xs,?_⟩
  unfold many
  simp only [hx,hxs]
theorem mir_list {W : World} {α : Type} {dec : List Value -> Option α} {t e : TypeId} {n fuel : Nat} {held : Bool} {sv : Value} {x : DataW H × List MemPlace} (ht : P.underlying t = some (.slice e)) (hsz : P.cellsOf e = n) (hn : 0 < n)
  (h : DataW.trod enc P W 0 (fun _ => true) held fuel t [sv] = some x)
  (hdec : ∀ (m : Nat) (cs : List Value) (y : DataW H × List MemPlace),DataW.trod enc P W 0 (fun _ => true) held m e cs = some y -> ∃ z,dec (cs.map (absV W)) = some z) :
  ∃ xs,listAt n dec (mirror W) (absV W sv) = some xs /\ xs.length <= maxLen := by
 rcases Go.Deep.open_slice ht h with ⟨h1,_⟩ | ⟨a,len,cap,m,k,D,Pl,h1,_,hl,hm,hmm,_,hx⟩
 ·simp only [List.cons.injEq,and_true] at h1
  subst h1
  exact ⟨[],by rw [absV_base rfl]; rfl,by simp⟩
 ·simp only [List.cons.injEq,and_true] at h1
  subst h1
  simp only [if_true] at hmm
  subst hmm
  rw [hsz] at hx
  by_cases h0 : len = 0
  ·subst h0
   exact ⟨[],by unfold absV; simp only [if_true]; rfl,by simp⟩
  ·obtain ⟨c0,hc0,_⟩ := hx 0 (by omega)
   rw [Nat.zero_mul] at hc0
   obtain ⟨s1,s2,blk,s3,_,_⟩ := mir_at hn hc0
   have ev : absV W (.slice (some a) len m) = .slice (some a) len m := by unfold absV; simp only; rw [if_neg h0,if_pos ⟨s1,s2⟩]
   obtain ⟨b,off,sp⟩ := a
   replace s1 : sp = none := s1
   replace s3 : hget (mirror W) b = some blk := s3
   subst s1
   have cell : ∀ i,i < len -> ∃ cs,off + i * n + n <= blk.cells.length /\ (blk.cells.drop (off + i * n)).take n = cs.map (absV W) /\ ∃ y,DataW.trod enc P W 0 (fun _ => true) held k e cs = some y := fun i hi => by
    obtain ⟨cs,hc,hy⟩ := hx i (by omega)
    obtain ⟨q1,q2,blk',q3,q4,q5⟩ := mir_at hn hc
    have ea : (⟨b,off,none⟩ : Addr).add (i * n) = ⟨b,off + i * n,none⟩ := add_none _ _ _
    rw [ea] at q3 q4 q5
    replace q3 : hget (mirror W) b = some blk' := q3
    replace q4 : off + i * n + n <= blk'.cells.length := q4
    replace q5 : (blk'.cells.drop (off + i * n)).take n = cs.map (absV W) := q5
    rw [s3] at q3; cases q3
    exact ⟨cs,q4,q5,_,hy⟩
   have hle : off + len * n <= blk.cells.length := by
    obtain ⟨_,q,_⟩ := cell (len - 1) (by omega)
    obtain ⟨l',rfl⟩ : ∃ l',len = l' + 1 := ⟨len - 1,by omega⟩
    simp only [Nat.add_sub_cancel] at q
    rw [Nat.succ_mul]; omega
   have la : lay n (mirror W) (.slice (some ⟨b,off,none⟩) len m) = some ((blk.cells.drop off).take (len * n)) := by
    obtain ⟨l',rfl⟩ : ∃ l',len = l' + 1 := ⟨len - 1,by omega⟩
    unfold lay
    simp only [s3]
    rw [if_pos ⟨hl,hle⟩]
   obtain ⟨xs,hxs⟩ := many_ex (sz := n) (dec := dec) len ((blk.cells.drop off).take (len * n)) (fun i hi => by
    obtain ⟨cs,q1,q2,y,q3⟩ := cell i hi
    obtain ⟨z,hz⟩ := hdec k cs y q3
    refine ⟨z,?_⟩
    rw [List.drop_take,List.take_take,List.drop_drop]
    have : n <= len * n - i * n := by rw [<- Nat.sub_mul]; exact Nat.le_mul_of_pos_left _ (by omega)
    rw [Nat.min_eq_left this,q2]
    exact hz)
   refine ⟨xs,?_,?_⟩
   ·rw [ev]
    unfold listAt
    rw [la]
    exact hxs
   ·rw [(many_get hxs).1]; omega
theorem kmatch_base : ∀ {ks : List Ki} {cs : List Value},kmatch ks cs -> cs.all isBase = true
 | [],[],_ => rfl
 | .b :: ks,cs,h => by
  match cs,h with
  | .bool _ :: r,h => simp only [List.all_cons,isBase,Bool.true_and]; exact kmatch_base (ks := ks) h
 | .i k :: ks,cs,h => by
  match cs,h with
  | .int _ _ :: r,h => simp only [List.all_cons,isBase,Bool.true_and]; exact kmatch_base (ks := ks) h.2
 | .s :: ks,cs,h => by
  match cs,h with
  | .string _ :: r,h => simp only [List.all_cons,isBase,Bool.true_and]; exact kmatch_base (ks := ks) h.2
end
end Go.Eng.K
end
section
namespace Go.Eng
structure Pt where
 (s1 : Bool) (l1 : List UInt8) (s2 : Bool) (l2 : List UInt8) (s3 : Bool) (l3 : List UInt8) (s4 : Bool) (l4 : List UInt8)
deriving DecidableEq
namespace Pt
def cells (p : Pt) : List Value := [.bool p.s1,.string ⟨⟨p.l1⟩⟩,.bool p.s2,.string ⟨⟨p.l2⟩⟩,.bool p.s3,.string ⟨⟨p.l3⟩⟩,.bool p.s4,.string ⟨⟨p.l4⟩⟩]
def x (p : Pt) : Int := sv p.s1 p.l1
def y (p : Pt) : Int := sv p.s2 p.l2
def z (p : Pt) : Int := sv p.s3 p.l3
def w (p : Pt) : Int := sv p.s4 p.l4
def cmp (p q : Pt) : Int := cmp4 p.x p.y p.z p.w q.x q.y q.z q.w
def on (p q r : Pt) : Prop := flt p.x p.y p.z p.w q.x q.y q.z q.w r.x r.y r.z r.w
instance {p q r : Pt} : Decidable (on p q r) := by unfold on; infer_instance
def ok (p : Pt) : Prop := (p.l1.length <= 65536 /\ p.l2.length <= 65536 /\ p.l3.length <= 65536 /\ p.l4.length <= 65536) /\ 0 < p.w
instance {p : Pt} : Decidable p.ok := by unfold ok; infer_instance
def hi (p q : Pt) : Pt := if 0 < cmp p q then p else q
end Pt
end Go.Eng
end
section
namespace Go.Eng
namespace Pt
def dflt : Pt := ⟨false,[],false,[],false,[],false,[]⟩
def sz (k : Nat) (p : Pt) : Prop := p.l1.length <= k /\ p.l2.length <= k /\ p.l3.length <= k /\ p.l4.length <= k
instance {k : Nat} {p : Pt} : Decidable (p.sz k) := by unfold sz; infer_instance
def c1 (p : Pt) : List Value := [.bool p.s1,.string ⟨⟨p.l1⟩⟩]
def c2 (p : Pt) : List Value := [.bool p.s2,.string ⟨⟨p.l2⟩⟩]
def c3 (p : Pt) : List Value := [.bool p.s3,.string ⟨⟨p.l3⟩⟩]
theorem g1 (p : Pt) : p.cells.take 2 = p.c1 := rfl
theorem g2 (p : Pt) : (p.cells.drop 2).take 2 = p.c2 := rfl
theorem g3 (p : Pt) : (p.cells.drop 4).take 2 = p.c3 := rfl
end Pt
def ptAt (l : List Pt) (i : Nat) : Pt := (l[i]?).getD Pt.dflt
def awx (a b : Pt) : Int := b.x * a.w - a.x * b.w
def awy (a b : Pt) : Int := b.y * a.w - a.y * b.w
def awz (a b : Pt) : Int := b.z * a.w - a.z * b.w
def lftZ (P a b x : Pt) : Int :=
 0 + P.x * (awy a b * awz a x - awz a b * awy a x) + P.y * (awz a b * awx a x - awx a b * awz a x) + P.z * (awx a b * awy a x - awy a b * awx a x)
def turnsP (P : Pt) (l : List Pt) : Prop := ∀ i,i < l.length -> ∀ j,j < l.length -> j ≠ i -> j ≠ (i + 1) % l.length -> 0 < lftZ P (ptAt l i) (ptAt l ((i + 1) % l.length)) (ptAt l j)
instance {P : Pt} {l : List Pt} : Decidable (turnsP P l) := by unfold turnsP; infer_instance
end Go.Eng
end
section
namespace Go.Eng.K
open Go.Eng
section
variable {H : Type} {enc : TypeId × Value -> H} {P : Program}
theorem trod_struct {w : World} {base : Nat} {spare : Nat -> Bool} {held : Bool} {fuel : Nat} {t : TypeId} {cs : List Value} {x : DataW H × List MemPlace} {fs : Array Field} (hu : P.underlying t = some (.struct fs))
  (h : DataW.trod enc P w base spare held fuel t cs = some x) :
  cs.length = P.cellsOf t /\ ∃ fuel' xs,fs.toList.mapM (fun f => DataW.trod enc P w base spare held fuel' f.type ((cs.drop f.offset).take (P.cellsOf f.type))) = some xs /\ x = (.agg (xs.map (·.1)),xs.flatMap (·.2)) := by
 cases fuel with
 | zero => simp [DataW.trod] at h
 | succ fuel =>
  unfold DataW.trod at h
  rw [hu] at h
  simp only at h
  split at h
  case isFalse => cases h
  rename_i hl
  rw [Option.map_eq_some_iff] at h
  obtain ⟨xs,hx,rfl⟩ := h
  exact ⟨hl,fuel,xs,hx,rfl⟩
def sumL : List Nat -> Nat
 | [] => 0
 | x :: r => x + sumL r
variable (bulk : DataW H -> Nat) (b1 : ∀ b : List UInt8,b.length <= bulk (.lit (.string b))) (b2 : ∀ ps : List (DataW H),sumL (ps.map bulk) <= bulk (.agg ps))
include b1 b2 in
include b1 b2 in
end
end Go.Eng.K
end
section
namespace Go.Eng.K
open Go.Eng Go.WideShapes
section
variable {H : Type} {enc : TypeId × Value -> H} {P : Program}
theorem km_q {cs : List Value} (h : kmatch [.b,.s,.s] cs) : ∃ q : RQ,cs = q.cells := by
 match cs,h with
 | [.bool s,.string ⟨⟨n⟩⟩,.string ⟨⟨d⟩⟩],_ => exact ⟨⟨s,n,d⟩,rfl⟩
theorem km_i {k : IntKind} {cs : List Value} (h : kmatch [.i k] cs) : ∃ n,cs = [.int k n] := by
 match cs,h with
 | [.int k' n],h => obtain ⟨⟨rfl,_⟩,_⟩ := h; exact ⟨n,rfl⟩
theorem rats_trod {W : World} {fuel : Nat} {tv tq : TypeId} {sv : Value} {x : DataW H × List MemPlace} (hv : P.underlying tv = some (.slice tq)) (hq : kiTy P 20 tq = some [.b,.s,.s]) (hs : szOf P tq = some 3)
  (h : DataW.trod enc P W 0 (fun _ => true) true fuel tv [sv] = some x) : ∃ l,listAt 3 dec1 (mirror W) (absV W sv) = some l /\ l.length <= maxLen :=
 mir_list (dec := dec1) (n := 3) hv (cellsOf_sz hs) (by omega) h (fun m cs y hy => by
  obtain ⟨km,_,_⟩ := plain_ty m 20 tq _ 3 hq hs rfl W 0 _ true _ y hy
  obtain ⟨q,eq⟩ := km_q km
  rw [absV_bases (kmatch_base km),eq]
  exact ⟨q,rfl⟩)
theorem five {l : List Value} (h : l.length = 5) : ∃ a b c d e,l = [a,b,c,d,e] := by
 match l,h with
 | [a,b,c,d,e],_ => exact ⟨a,b,c,d,e,rfl⟩
theorem open_eqs {W : World} {base : Nat} {t te tc tq ti : TypeId} {n1 n2 n3 g1 g2 g3 q1 q2 q3 : String} {b1 b2 b3 c1 c2 c3 : _} {v : Value} {d : DataW H} {ps : List MemPlace} (ht : P.underlying t = some (.slice te))
  (hu : P.underlying te = some (.struct #[⟨n1,tc,0,b1,g1,q1,c1⟩,⟨n2,tq,1,b2,g2,q2,c2⟩,⟨n3,ti,4,b3,g3,q3,c3⟩])) (hce : P.cellsOf te = 5) (hv : P.underlying tc = some (.slice tq)) (hcc : P.cellsOf tc = 1)
  (hq : kiTy P 20 tq = some [.b,.s,.s]) (hs : szOf P tq = some 3) (hi : kiTy P 20 ti = some [.i .i64]) (hsi : szOf P ti = some 1)
  (hval : Value.okWide P W .any base t v) (h : DataW.Trod enc P W 0 (fun _ => true) true t v d ps) : ∃ l,decRows (mirror W) (absV W v) = some l /\ l.length <= maxLen := by
 obtain ⟨a,len,cap,rfl⟩ := okWide_slice ht hval
 obtain ⟨fuel,h⟩ := h
 unfold decRows
 refine mir_list (dec := decEq (mirror W)) (n := 5) ht hce (by omega) h (fun m cs y hy => ?_)
 obtain ⟨hl,fuel',xs,hx,_⟩ := trod_struct hu hy
 rw [hce] at hl
 simp only [List.mapM_cons,List.mapM_nil,Option.bind_eq_bind,Option.bind_eq_some_iff,Option.pure_def,Option.some.injEq] at hx
 obtain ⟨y1,hy1,ys,⟨y2,hy2,zs,⟨y3,hy3,_⟩,_⟩,_⟩ := hx
 have e3 : P.cellsOf tq = 3 := cellsOf_sz hs
 have e1 : P.cellsOf ti = 1 := cellsOf_sz hsi
 rw [hcc] at hy1
 rw [e3] at hy2
 rw [e1] at hy3
 obtain ⟨k0,k1,k2,k3,k4,rfl⟩ := five hl
 have hy1 : DataW.trod enc P W 0 (fun _ => true) true fuel' tc [k0] = some y1 := hy1
 have hy2 : DataW.trod enc P W 0 (fun _ => true) true fuel' tq [k1,k2,k3] = some y2 := hy2
 have hy3 : DataW.trod enc P W 0 (fun _ => true) true fuel' ti [k4] = some y3 := hy3
 obtain ⟨l,hl1,_⟩ := rats_trod hv hq hs hy1
 obtain ⟨km,_,_⟩ := plain_ty fuel' 20 tq _ 3 hq hs rfl W 0 _ true _ y2 hy2
 obtain ⟨q,eq⟩ := km_q km
 obtain ⟨ki,_,_⟩ := plain_ty fuel' 20 ti _ 1 hi hsi rfl W 0 _ true _ y3 hy3
 obtain ⟨n,en⟩ := km_i ki
 simp only [RQ.cells,List.cons.injEq,and_true] at eq en
 obtain ⟨rfl,rfl,rfl⟩ := eq
 subst en
 refine ⟨⟨l,q,n⟩,?_⟩
 simp only [List.map_cons,List.map_nil]
 rw [absV_base (v := .bool q.s) rfl,absV_base (v := .string ⟨⟨q.n⟩⟩) rfl,absV_base (v := .string ⟨⟨q.d⟩⟩) rfl,absV_base (v := .int .i64 n) rfl]
 exact decEq_of (e := ⟨l,q,n⟩) hl1
end
end Go.Eng.K
end
