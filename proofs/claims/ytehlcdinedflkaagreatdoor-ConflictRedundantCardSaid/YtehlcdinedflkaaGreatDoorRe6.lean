/-
  A part of the proof: the machine, the contracts of the functions and the plain laws, merged from smaller texts.
-/
import Derived.Test.YtehlcdinedflkaaGreatDoorRe5
set_option linter.unusedVariables false
set_option linter.unusedSimpArgs false
set_option linter.unusedSectionVars false
section
set_option maxRecDepth 20000
namespace Go.Eng
open Go Go.Proofs Go.IntWalk
def decBo:List Value -> Option Bool
 | [.bool b]=>some b
 | _=>none
theorem decBo_eq {cs:List Value} {b:Bool} (e:decBo cs=some b):cs=[.bool b]:=by
 unfold decBo at e
 split at e
 ·cases e;rfl
 ·cases e
def boC (l:List Bool):List Value:=l.map .bool
theorem boC_len (l:List Bool):(boC l).length=l.length:=by unfold boC;rw [List.length_map]
theorem boC_set (l:List Bool) (i:Nat) (b:Bool):(boC l).set i (.bool b)=boC (l.set i b):=by unfold boC;rw [List.map_set]
theorem boC_list {h:Heap} {k e s c m:Nat} {x:Bool} {L:List Bool} (hb:hget h k=some ⟨e,s,x,boC L⟩) (hm:m=L.length) (hc:m <= c):listAt 1 decBo h (.slice (some ⟨k,0,none⟩) m c)=some L:=by
 subst hm
 have ll:=boC_len L
 have la:lay 1 h (.slice (some ⟨k,0,none⟩) L.length c)=some (boC L):=by
  unfold lay
  cases e:L.length with
  | zero=>
   simp only [hb]
   rw [if_pos ⟨by omega,by omega⟩,List.drop_zero,Nat.mul_one,List.take_of_length_le (by omega)]
  | succ n=>
   simp only [hb]
   rw [if_pos ⟨by omega,by omega⟩,List.drop_zero,Nat.mul_one,List.take_of_length_le (by omega)]
 unfold listAt
 rw [la,Option.bind_some]
 refine many_some (by rfl) fun i z hz=>?_
 have g:(boC L)[i]?=some (.bool z):=by unfold boC;rw [List.getElem?_map,hz];rfl
 obtain ⟨hlt,ge⟩:=List.getElem?_eq_some_iff.1 g
 rw [Nat.mul_one,List.drop_eq_getElem_cons hlt,ge]
 rfl
def kpL (bs:List Bool):Nat -> List Int
 | 0=>[]
 | k+1=>kpL bs k ++ (if bs[k]?=some true then [] else [(k:Int)])
theorem kpL_mem {bs:List Bool}:∀ {k:Nat} {p:Int},p ∈ kpL bs k ↔ ∃ j:Nat,p=(j:Int) /\ j < k /\ bs[j]? ≠ some true
 | 0,p=>by
  constructor
  ·intro h;cases h
  ·rintro ⟨j,_,h,_⟩;omega
 | k+1,p=>by
  unfold kpL
  rw [List.mem_append,kpL_mem]
  constructor
  ·rintro (⟨j,a,b,c⟩ | h)
   ·exact ⟨j,a,by omega,c⟩
   ·split at h
    ·cases h
    ·rename_i hk
     rw [List.mem_singleton] at h
     exact ⟨k,h,by omega,hk⟩
  ·rintro ⟨j,a,b,c⟩
   by_cases e:j=k
   ·subst e
    rw [if_neg c,List.mem_singleton]
    exact .inr a
   ·exact .inl ⟨j,a,by omega,c⟩
theorem kpL_len (bs:List Bool):∀ k,(kpL bs k).length <= k
 | 0=>Nat.le_refl _
 | k+1=>by
  have:=kpL_len bs k
  unfold kpL
  rw [List.length_append]
  split
  ·simp;omega
  ·simp;omega
theorem kpL_sort (bs:List Bool):∀ k,(kpL bs k).Pairwise (· < ·)
 | 0=>List.Pairwise.nil
 | k+1=>by
  unfold kpL
  split
  ·rw [List.append_nil];exact kpL_sort bs k
  ·rw [List.pairwise_append]
   refine ⟨kpL_sort bs k,List.pairwise_singleton _ _,fun a ha b hb=>?_⟩
   rw [List.mem_singleton] at hb
   obtain ⟨j,h1,h2,_⟩:=kpL_mem.1 ha
   omega
def spBut5:List Value -> Heap -> Option NewL
 | [sl,bl],h=>match lay 5 h sl,listAt 1 decBo h bl with
  | some cs,some bs=>if cs.all (selfOK h)=true /\ cs.length=bs.length * 5 /\ bs.length <= 1000 then some (thNL cs (kpL bs bs.length)) else none
  | _,_=>none
 | _,_=>none
def c23:ICode:=
 (.seq (.reg [qq 4 (.mv (.c (.slice none 0 0)))]) (.seq (.reg [qq 5 (.mv (.c (.slice none 0 0)))]) (.seq (.seq (.reg [qq 6 (.mv (ci 0))]) (.block 0 (.loop (.seq (.seq (.reg [qq 7 (.mv (.t 6)),qq 8 (.mv (.t 0)),qq 9 (.lensl (.t 8)),qq 10 (.bin .lss (.t 7) (.t 9))]) (.cond (.t 10) .skip (.exit 0))) (.seq (.block 1 (.seq (.reg [qq 13 (.mv (.t 1)),qq 14 (.mv (.t 6)),qq 15 (.ixsl 1 (.t 13) (.t 14)),qq 16 (.load false 1 (.t 15)),qq 17 (.un .not (.t 16))]) (.cond (.t 17) (.reg [qq 18 (.mv (.t 5)),qq 19 (.mv (.t 0)),qq 20 (.mv (.t 6)),qq 21 (.ixsl 5 (.t 19) (.t 20)),qq 22 (.load true 5 (.t 21)),qq 23 (.bslice 40 5 1 [(.slice none 0 0),(.bool false),e0,e0,(.int .i64 0)] [(0,5,(.t 22))]),qq 24 (.app 40 5 72 (.t 18) (.t 23)),qq 5 (.mv (.t 24))]) .skip))) (.reg [qq 11 (.mv (.t 6)),qq 12 (.bin .add (.t 11) (ci 1)),qq 6 (.mv (.t 12))])))))) (.seq (.reg [qq 25 (.mv (.t 5)),qq 4 (.mv (.t 25))]) .ret))))
theorem tr23:trFun Tryz.prog 23=some ⟨26,[.t 4],c23⟩:=by kernel_rfl
set_option maxHeartbeats 8000000 in
theorem ok_but5:SpecOK Tryz.prog 23 (nwL spBut5):=by
 refine newL_run (env_nil _) mixed tr23 ?_ ?_
 ·intro args h h' r hl e
  unfold spBut5 at e ⊢
  split at e
  ·split at e
   ·rename_i cs ps h1 h2
    split at e
    ·rename_i hc
     simp only [lay_mono hl h1,listAt_mono hl (fun _ _ e=>e) h2]
     rw [if_pos ⟨selfsOK_mono hl hc.1,hc.2⟩];exact e
    ·cases e
   ·cases e
  ·cases e
 intro args h N r hG hN
 unfold spBut5 at hG
 split at hG
 case h_2=>cases hG
 rename_i sl bl
 split at hG
 case h_2=>cases hG
 rename_i cs bs h1 h2
 split at hG
 case isFalse=>cases hG
 rename_i hs
 obtain ⟨hself,hcl,hbs⟩:=hs
 cases hG
 obtain ⟨a',c',rfl⟩:=listAt_sl h2
 obtain ⟨ar,lr,cr,rfl,hlr⟩:=lay_len h1
 have elr:lr=bs.length:=by omega
 subst elr
 have hinK:∀ k,k <= bs.length -> (kpL bs k).all (inR cs)=true:=fun k hk=>by
  rw [List.all_eq_true]
  intro p hp
  obtain ⟨j,rfl,h3,_⟩:=kpL_mem.1 hp
  unfold inR
  rw [Bool.and_eq_true,decide_eq_true_eq,decide_eq_true_eq,Int.toNat_natCast]
  omega
 refine ⟨?_,by simp,?_⟩
 ·unfold thNL
  split
  ·exact ⟨fun β σ σ' _ _ => .base _ rfl,fun β σ σ' _ _ i hi=>absurd hi (Nat.not_lt_zero i)⟩
  ·exact ⟨fun β σ σ' b1 _=>VR.sl (σ 0) 0 _ _ ⟨σ' 0,0,[]⟩ (b1 0 Nat.one_pos),fun β σ σ' _ b2 i hi=>selfsOK_vrs b2 (thoC_all hself)⟩
 simp only [c23,G0,Nat.reduceAdd]
 simp only [↓R0,R1,simprocAttr,-Int.reduceAbs]
 refine lp_parts (fun q tm hp nx=>∃ (i M:Nat) (o:Value),q+i=bs.length /\ tmget tm 0 = .slice ar bs.length cr /\ tmget tm 1 = .slice a' bs.length c' /\ tmget tm 6 = .int .i64 i /\ tmget tm 5=o /\ OutE hp N M o (kpL bs i).length (thoC cs (kpL bs i)) /\ (∀ q,q < N -> hget hp q=hget h q) /\ N <= M /\ nx=M+0) ?_ bs.length
  ⟨0,N,.slice none 0 0,by omega,?_,?_,?_,?_,.inl ⟨rfl,rfl⟩,?_,Nat.le_refl _,rfl⟩
 rotate_left
 all_goals first | (simp only [↓R0,R1,simprocAttr,-Int.reduceAbs];done) | (simp only [↓R0,R1,simprocAttr,-Int.reduceAbs];rfl) | skip
 ·exact fun q _=>rfl
 rintro q tm hp nx ⟨i,M,o,hq,t0,t1,t6,t5,hO,hh,hM,hnx⟩
 rw [hnx]
 clear hnx nx
 have wi:IntKind.i64.wrap ((i:Int)+1)=((i+1:Nat):Int):=by rw [i64_in _ (by omega)];omega
 have inS:=hinK i (by omega)
 by_cases ci:i < bs.length
 case neg=>
  have ei:i=bs.length:=by omega
  subst ei
  have ci':((bs.length:Int) < (bs.length:Int))=False:=eq_false (by omega)
  unfold thNL
  rcases hO with ⟨z,rfl⟩ | ⟨z,kk,x,rfl,h3,h4,h5⟩
  ·have z0:kpL bs bs.length=[]:=List.eq_nil_of_length_eq_zero z
   rw [if_pos z0]
   simp only [↓R0,R1,simprocAttr,-Int.reduceAbs,t0,t1,t6,t5,ci',FinL,isEnd,resL,res1]
   refine ⟨fun i=>i,_,fun i hi=>absurd hi (Nat.not_lt_zero i),fun i j hi=>absurd hi (Nat.not_lt_zero i),rfl,rfl,fun i hi=>absurd hi (Nat.not_lt_zero i),hh⟩
  ·have z0:¬ kpL bs bs.length=[]:=fun e=>by rw [e] at z;exact absurd z (Nat.not_lt_zero _)
   rw [if_neg z0]
   simp only [↓R0,R1,simprocAttr,-Int.reduceAbs,t0,t1,t6,t5,ci',FinL,isEnd,resL,res1]
   refine ⟨fun _=>kk,_,fun i hi=>(by omega:N <= kk),fun i j (hi:i < 1) (hj:j < 1) _=>by omega,rfl,rfl,fun i hi=>⟨x,h3⟩,hh⟩
 have ci':((i:Int) < (bs.length:Int))=True:=eq_true (by omega)
 have sml:=kpL_len bs i
 have sms:kpL bs (i+1)=kpL bs i ++ (if bs[i]?=some true then [] else [(i:Int)]):=rfl
 have HL:hle h hp:=fun q b e=>by rw [hh q (hN _ _ e)];exact e
 obtain ⟨p,pt⟩:∃ p,bs[i]?=some p:=⟨_,List.getElem?_eq_getElem ci⟩
 obtain ⟨kp,op,bp,ea,hbp,_,_,hat⟩:=listAt_get h2 (by omega)
 obtain ⟨q1,q2⟩:=hat i p pt
 have q2:=cell1_of (decBo_eq q2)
 rw [Nat.mul_one] at q2
 subst ea
 have hbb:=HL _ _ hbp
 have nkp:=hN _ _ hbp
 rw [pt] at sms
 cases p with
 | true=>
  rw [if_pos rfl,List.append_nil] at sms
  simp only [↓R0,R1,simprocAttr,-Int.reduceAbs,t0,t1,t6,t5,ci,ci',hbb,q1,q2,wi,Bool.not_true,Bool.not_false]
  refine ⟨q - 1,by omega,i+1,M,o,by omega,rfl,rfl,by rw [sms];exact hO,hh,hM,rfl⟩
 | false=>
 rw [if_neg (by simp)] at sms
 have inp:inR cs i=true:=by
  have:=hinK (i+1) (by omega)
  rw [List.all_eq_true] at this
  exact this _ (by rw [sms];simp)
 have len5:=eqC_len inp
 obtain ⟨kr,orr,br,ea,hbr,hlc,hle,ecs⟩:=lay_pos h1 (by omega)
 subst ea
 have hbr':=HL _ _ hbr
 have nkr:=hN _ _ hbr
 have m5:orr+i * 5+5 <= br.cells.length:=by omega
 have ec:(br.cells.drop (orr+i * 5)).take 5=eqC cs i:=by
  unfold eqC
  rw [Int.toNat_natCast,ecs,List.drop_take,List.take_take,Nat.min_eq_left (by omega),List.drop_drop]
 have fok:(eqC cs i).all okCell=true:=eqC_all (selfsOK_cells hself)
 have ths:thoC cs (kpL bs (i+1))=thoC cs (kpL bs i) ++ eqC cs i:=by
  rw [sms]
  unfold thoC
  rw [List.flatMap_append]
  simp
 have lms:(kpL bs (i+1)).length=(kpL bs i).length+1:=by rw [sms,List.length_append];rfl
 have thl:=thoC_len inS
 generalize eSL:(kpL bs i).length=SL at *
 generalize eqC cs i=C5 at *
 generalize thoC cs (kpL bs i)=CT at *
 generalize eT1:thoC cs (kpL bs (i+1))=CT1 at *
 have tk5:C5.take 5=C5:=List.take_of_length_le (by omega)
 have st5:setR [.slice none 0 0,.bool false,.string ⟨⟨[]⟩⟩,.string ⟨⟨[]⟩⟩,.int .i64 0] 0 C5=C5:=by
  match C5,len5 with
  | [x1,x2,x3,x4,x5],_=>rfl
 have M0:∀ j,(M+j=kr)=False:=fun j=>eq_false (by omega)
 have M1:∀ j,(M+j=kp)=False:=fun j=>eq_false (by omega)
 rcases hO with ⟨z0,rfl⟩ | ⟨z0,kk,x,rfl,h3,h4,h5⟩
 ·have hCT:CT=[]:=List.eq_nil_of_length_eq_zero (by omega)
  subst hCT
  rw [List.nil_append] at ths
  simp only [↓R0,R1,simprocAttr,-Int.reduceAbs,t0,t1,t6,t5,ci,ci',hbb,q1,q2,hbr',m5,ec,len5,fok,st5,tk5,setR_length,wi,M0,M1,vcells,fillI,Bool.not_false]
  refine ⟨q - 1,by omega,i+1,M+2,.slice (some ⟨M+1,0,none⟩) 1 1,by omega,rfl,rfl,.inr ⟨by omega,M+1,false,by rw [lms,z0],?_,by omega,by omega⟩,fun q hq=>?_,by omega,rfl⟩
  ·rw [eT1,ths]
   simp only [↓R0,R1,simprocAttr,-Int.reduceAbs]
  ·have nb:∀ d,(M+d=q)=False:=fun d=>eq_false (by omega)
   simp only [↓R0,R1,simprocAttr,-Int.reduceAbs,nb]
   exact hh q hq
 ·have v1:∀ d,(M+d=kk)=False:=fun d=>eq_false (by omega)
  have v2:∀ d,(kk=M+d)=False:=fun d=>eq_false (by omega)
  have nler:(SL+1 <= SL)=False:=eq_false (by omega)
  have ovr:((SL+1) * 72 <= 140737488355328)=True:=eq_true (by omega)
  simp only [↓R0,R1,simprocAttr,-Int.reduceAbs,t0,t1,t6,t5,ci,ci',hbb,q1,q2,hbr',m5,ec,len5,fok,st5,tk5,setR_length,wi,M0,M1,h3,thl,nler,ovr,v1,v2,vcells,fillI,Bool.not_false]
  refine ⟨q - 1,by omega,i+1,M+2,.slice (some ⟨M+1,0,none⟩) (SL+1) (SL+1),by omega,rfl,rfl,.inr ⟨by omega,M+1,false,by rw [lms],?_,by omega,by omega⟩,fun q hq=>?_,by omega,rfl⟩
  ·rw [eT1,ths]
   simp only [↓R0,R1,simprocAttr,-Int.reduceAbs,v1,v2]
  ·have nb:∀ d,(M+d=q)=False:=fun d=>eq_false (by omega)
   have nq:(kk=q)=False:=eq_false (by omega)
   simp only [↓R0,R1,simprocAttr,-Int.reduceAbs,nb,nq]
   exact hh q hq
theorem but_call {h:Heap} {b:Nat} {l:List EqR} {sl bl:Value} {cs:List Value} {bs:List Bool} (R:RowsS h sl l cs) (hp:listAt 1 decBo h bl=some bs) (hbl:bs.length=l.length) (hl:l.length <= 1000) (hb:∀ k blk,hget h k=some blk -> k < b) :
  ∃ a D mm cs',nwL spBut5 [sl,bl] h b=some (.slice a (kpL bs bs.length).length (kpL bs bs.length).length,D,mm) /\ (∀ q,q < b -> hget (D ++ h) q=hget h q) /\ RowsS (D ++ h) (.slice a (kpL bs bs.length).length (kpL bs bs.length).length) (selL l (kpL bs bs.length)) cs':=by
 have hcl:=R.len.1
 have inS:(kpL bs bs.length).all (inR cs)=true:=by
  rw [List.all_eq_true]
  intro p hp
  obtain ⟨j,rfl,h3,_⟩:=kpL_mem.1 hp
  exact R.inR (by omega)
 have e:spBut5 [sl,bl] h=some (thNL cs (kpL bs bs.length)):=by
  unfold spBut5
  simp only [R.lay,hp]
  exact if_pos ⟨R.self,by omega,by omega⟩
 unfold nwL
 rw [e]
 unfold thNL
 by_cases z:kpL bs bs.length=[]
 ·rw [if_pos z,z]
  exact ⟨none,[],0,[],rfl,fun _ _=>rfl,rows_nil _⟩
 ·rw [if_neg z]
  refine ⟨some ⟨b+0,0,none⟩,_,1,thoC cs (kpL bs bs.length),rfl,fun q hq=>?_,?_⟩
  ·have:(b+0=q)=False:=eq_false (by omega)
   simp only [newH,List.cons_append,List.nil_append,hget,this,if_false]
  ·refine R.those (el:=40) (sz:=5) (x:=false) inS (fun k blk hk=>?_) (Nat.le_refl _) ?_
   ·have:=hb k blk hk
    have:(b+0=k)=False:=eq_false (by omega)
    simp only [newH,List.cons_append,List.nil_append,hget,this,if_false]
    exact hk
   ·simp only [newH,List.cons_append,List.nil_append,hget,if_true]
theorem red_call {h:Heap} {n b:Nat} {l:List EqR} {sl:Value} {cs:List Value} (R:RowsS h sl l cs) (H:EqsOK n l) :
  ∃ a D mm,nwL spRed [.int .i64 n,sl] h b=some (.slice a (redL n l).length (redL n l).length,D,mm) /\ (∀ q,q < b -> hget (D ++ h) q=hget h q) /\
   (0 < (redL n l).length -> ∃ k,a=some ⟨k,0,none⟩ /\ k < b+mm /\ hget (D ++ h) k=some ⟨3,1,false,intC (redL n l)⟩):=by
 have e:=red_of R H.red
 by_cases z:redL n l=[]
 ·have:=intNL_nil (b:=b) e z
  refine ⟨none,[],0,?_,fun _ _=>rfl,fun p=>?_⟩
  ·rw [this,z];rfl
  ·rw [z] at p;exact absurd p (Nat.not_lt_zero _)
 ·refine ⟨some ⟨b,0,none⟩,_,_,intNL_call (b:=b) e z,fun q hq=>?_,fun _=>⟨b,rfl,by omega,?_⟩⟩
  ·have:(b=q)=False:=eq_false (by omega)
   simp only [List.cons_append,List.nil_append,hget,this,if_false]
  ·simp only [List.cons_append,List.nil_append,hget,if_true]
def mkL5 (R:List Nat) (m i:Nat):List Bool:=(List.range m).map fun k=>decide (k ∈ R.take i)
theorem mkL5_len (R:List Nat) (m i:Nat):(mkL5 R m i).length=m:=by unfold mkL5;rw [List.length_map,List.length_range]
theorem mkL5_at {R:List Nat} {m i j:Nat} (h:j < m):(mkL5 R m i)[j]?=some (decide (j ∈ R.take i)):=by
 unfold mkL5
 rw [List.getElem?_map,List.getElem?_range h];rfl
theorem mkL5_zero (R:List Nat) (m:Nat):mkL5 R m 0=List.replicate m false:=by
 refine List.ext_getElem? fun j=>?_
 by_cases h:j < m
 ·rw [mkL5_at h,List.getElem?_replicate,if_pos h]
  simp
 ·rw [List.getElem?_eq_none (by rw [mkL5_len];omega),List.getElem?_eq_none (by rw [List.length_replicate];omega)]
theorem mkL5_succ {R:List Nat} {m i r:Nat} (hr:R[i]?=some r) (hm:r < m):(mkL5 R m i).set r true=mkL5 R m (i+1):=by
 refine List.ext_getElem? fun j=>?_
 by_cases h:j < m
 ·rw [mkL5_at h,List.getElem?_set,List.take_add_one,hr]
  by_cases e:r=j
  ·subst e
   rw [if_pos rfl,if_pos (by rw [mkL5_len];exact hm)]
   simp
  ·rw [if_neg e,mkL5_at h]
   simp only [Option.some.injEq,decide_eq_decide,List.mem_append,Option.toList_some,List.mem_singleton]
   constructor
   ·intro x;exact .inl x
   ·rintro (x | x)
    ·exact x
    ·exact absurd x.symm e
 ·rw [List.getElem?_eq_none (by rw [List.length_set,mkL5_len];omega),List.getElem?_eq_none (by rw [mkL5_len];omega)]
def keep5 (n:Int) (l:List EqR):List Int:=kpL (mkL5 (redL n l) l.length (redL n l).length) l.length
theorem keep5_mem {n:Int} {l:List EqR} {p:Int}:p ∈ keep5 n l ↔ ∃ j:Nat,p=(j:Int) /\ j < l.length /\ j ∉ redL n l:=by
 unfold keep5
 rw [kpL_mem]
 refine exists_congr fun j=>and_congr_right fun _=>and_congr_right fun h=>?_
 rw [mkL5_at h,List.take_of_length_le (Nat.le_refl _)]
 simp
def rest5 (n:Int) (l:List EqR):List EqR:=selL l (keep5 n l)
theorem rest5_len (n:Int) (l:List EqR):(rest5 n l).length=(keep5 n l).length:=by unfold rest5 selL;rw [List.length_map]
theorem selL_at5 {l:List EqR} {ps:List Int} {i:Nat} {p:Int} (h:ps[i]?=some p):eqAt (selL l ps) i=eqAt l p.toNat:=by
 unfold selL
 show ((ps.map _)[i]?).getD _=_
 rw [List.getElem?_map,h];rfl
theorem rest5_mem {n:Int} {l:List EqR}:∀ e ∈ rest5 n l,e ∈ l:=selL_mem fun p hp=>by
 obtain ⟨j,rfl,h,_⟩:=keep5_mem.1 hp
 omega
theorem keep5_len (n:Int) (l:List EqR):(keep5 n l).length <= l.length:=kpL_len _ _
theorem rest5_chk {n:Nat} {l:List EqR} (c:chkL n l=0):chkL n (rest5 n l)=0:=
 chk_sub c (by rw [rest5_len];have:=keep5_len n l;have:=(chk0 c).2.2.1;omega) rest5_mem
theorem redL_mem {n:Nat} {l:List EqR} (c:chkL n l=0) (con:Cns n l) {x:Nat}:x ∈ redL n l ↔ x < l.length /\ folL n (l.take x) (eqAt l x)=true:=redS_mem c con
theorem take_cns {n:Nat} {l:List EqR} (con:Cns n l) (i:Nat):Cns n (l.take i):=con.sub fun e he=>List.mem_of_mem_take he
theorem take_fol {n:Nat} {l:List EqR} (c:chkL n l=0) (con:Cns n l) (hl:l.length < 100) {k:Nat} (hk:k < l.length):folL n (l.take k) (eqAt l k)=true ↔ Imp n (l.take k) (eqAt l k):=
 fol_iff (take_chk c k) (by rw [List.length_take];omega) (chk0_nat c _ (eqAt_mem hk)) (take_cns con k)
theorem take_at {l:List EqR} {k j:Nat} (hj:j < k) (hk:k <= l.length):eqAt l j ∈ l.take k:=by
 rw [<- eqAt_take (l:=l) hj]
 exact eqAt_mem (by rw [List.length_take];omega)
theorem imp_hom {n:Nat} {l:List EqR} {e:EqR} (h:Imp n l e) (con:Cns n l) (X:Row) (hX:∀ d ∈ l,lin n (qsV d.coef) X+d.rhs.v * X n=0):lin n (qsV e.coef) X+e.rhs.v * X n=0:=by
 obtain ⟨Y,hY⟩:=con
 have e0:=h Y hY
 have e1:=h (fun j=>X j+(1+X n) * Y j) fun d hd=>by
  have a:=hX d hd
  have b:=hY d hd
  unfold Sat at b ⊢
  rw [lin_addv,b];grind
 unfold Sat at e0 e1
 rw [lin_addv,e0] at e1
 grind
theorem rest5_Z {n:Nat} {l:List EqR} (c:chkL n l=0) (con:Cns n l) (hl:l.length < 100):ZL n (rest5 n l)=ZL n l:=by
 refine funext fun X=>propext ?_
 rw [ZL_iff (chk0_nat (rest5_chk c)),ZL_iff (chk0_nat c)]
 constructor
 ·intro H
  have key:∀ k,k < l.length -> lin n (qsV (eqAt l k).coef) X+(eqAt l k).rhs.v * X n=0:=fun k=>by
   induction k using Nat.strongRecOn with
   | _ k ih=>
    intro hk
    by_cases r:k ∈ redL n l
    ·refine imp_hom ((take_fol c con hl hk).1 ((redL_mem c con).1 r).2) (take_cns con k) X fun d hd=>?_
     obtain ⟨j,hj,rfl⟩:=mem_at hd
     rw [List.length_take] at hj
     rw [eqAt_take (by omega)]
     exact ih j (by omega) (by omega)
    ·refine H _ ?_
     unfold rest5 selL
     exact List.mem_map.2 ⟨(k:Int),keep5_mem.2 ⟨k,rfl,hk,r⟩,by rw [Int.toNat_natCast]⟩
  intro e he
  obtain ⟨k,hk,rfl⟩:=mem_at he
  exact key k hk
 ·intro H e he
  exact H e (rest5_mem e he)
theorem rest5_x {n:Nat} {l:List EqR} (c:chkL n l=0) (con:Cns n l) (hl:l.length < 100) {i:Nat} (hi:i < (rest5 n l).length):∃ X,(∀ e ∈ (rest5 n l).take i,Sat n e X) /\ ¬ Sat n (eqAt (rest5 n l) i) X:=by
 have hk:i < (keep5 n l).length:=by rw [<- rest5_len];exact hi
 obtain ⟨p,hp⟩:∃ p,(keep5 n l)[i]?=some p:=⟨_,List.getElem?_eq_getElem hk⟩
 obtain ⟨j,rfl,hj,nr⟩:=keep5_mem.1 (List.mem_of_getElem? hp)
 have ej:eqAt (rest5 n l) i=eqAt l j:=by
  have:=selL_at5 (l:=l) hp
  rw [Int.toNat_natCast] at this
  exact this
 have nf:¬ Imp n (l.take j) (eqAt l j):=fun x=>nr ((redL_mem c con).2 ⟨hj,(take_fol c con hl hj).2 x⟩)
 have nf:∃ X,(∀ d ∈ l.take j,Sat n d X) /\ ¬ Sat n (eqAt l j) X:=Classical.byContradiction fun x=>nf fun X hX=>Classical.byContradiction fun y=>x ⟨X,hX,y⟩
 obtain ⟨X,hX,hn⟩:=nf
 rw [ej]
 refine ⟨X,fun e he=>?_,hn⟩
 obtain ⟨y,hy,rfl⟩:=mem_at he
 rw [List.length_take,rest5_len] at hy
 rw [eqAt_take (by omega)]
 obtain ⟨q,hq⟩:∃ p,(keep5 n l)[y]?=some p:=⟨_,List.getElem?_eq_getElem (by omega)⟩
 have srt:(keep5 n l).Pairwise (· < ·):=kpL_sort _ _
 have lt:q < (j:Int):=by
  have:=(List.pairwise_iff_getElem.1 srt) y i (by omega) hk (by omega)
  rw [(List.getElem?_eq_some_iff.1 hq).2,(List.getElem?_eq_some_iff.1 hp).2] at this
  exact this
 obtain ⟨j',rfl,hj',_⟩:=keep5_mem.1 (List.mem_of_getElem? hq)
 have:=selL_at5 (l:=l) hq
 rw [Int.toNat_natCast] at this
 rw [show eqAt (rest5 n l) y=eqAt l j' from this]
 exact hX _ (take_at (by omega) (by omega))
theorem rest5_red {n:Nat} {l:List EqR} (c:chkL n l=0) (con:Cns n l) (hl:l.length < 100):redL n (rest5 n l)=[]:=by
 have c':=rest5_chk c
 have con':Cns n (rest5 n l):=con.sub rest5_mem
 have hl':(rest5 n l).length < 100:=by rw [rest5_len];have:=keep5_len n l;omega
 refine List.eq_nil_iff_forall_not_mem.2 fun x hx=>?_
 obtain ⟨h1,h2⟩:=(redL_mem c' con').1 hx
 obtain ⟨X,a,b⟩:=rest5_x c con hl h1
 exact b ((take_fol c' con' hl' h1).1 h2 X a)
theorem rest5_le {n:Nat} {l:List EqR} (c:chkL n l=0) (con:Cns n l) (hl:l.length < 100):(rest5 n l).length <= n:=
 indep_le (rest5_chk c) (con.sub rest5_mem) fun i hi=>rest5_x c con hl hi
theorem rest5_out {n:Nat} {l:List EqR} (c:chkL n l=0) (con:Cns n l) (hl:l.length < 100) :
  (solveL n (rest5 n l)).1=(solveL n l).1 /\ (solveL n (rest5 n l)).2=(solveL n l).2 /\ freeVL n (rest5 n l)=freeVL n l:=by
 have c':=rest5_chk c
 have O:=solL_out c
 have O':=solL_out c'
 have eZ:=rest5_Z c con hl
 rw [eZ] at O'
 have:=O'.same O
 exact ⟨this.1,this.2,freeVL_congr c' c (by rw [eZ]) fun j _=>by rw [eZ]⟩
theorem EqsOK.sub {n:Nat} {l l':List EqR} (H:EqsOK n l) (hl:l'.length <= l.length) (h:∀ e ∈ l',e ∈ l):EqsOK n l' where
 n8:=H.n8
 len:=by have:=H.len;omega
 co:=fun e he=>H.co e (h e he)
theorem redL_lt {n:Nat} {l:List EqR} (c:chkL n l=0) (con:Cns n l):∀ r ∈ redL n l,r < l.length:=fun r hr=>((redL_mem c con).1 hr).1
def spL25red:List Value -> Heap -> Option Value
 | [.int .i64 n,a],h=>match decRows h a with
  | some la=>if (-9223372036854775808 <= n /\ n <= 9223372036854775807) /\ la.length <= 9223372036854775807 then some (.bool true) else none
  | _=>none
 | _,_=>none
def c8:ICode:=
 (.seq (.reg [qq 4 (.mv (.c (.bool false)))]) (.seq (.seq (.reg [qq 16 (.call 9 []),qq 17 (.un .not (.t 16))]) (.cond (.t 17) (.seq (.reg [qq 4 (.mv (.c (.bool false)))]) .ret) .skip)) (.seq (.reg [qq 19 (.mv (.t 0)),qq 20 (.mv (.t 1)),qq 21 (.call 10 [(.t 19),(.t 20)]),qq 18 (.mv (.t 21)),qq 22 (.ext (.t 18) 0),qq 23 (.ext (.t 18) 1),qq 5 (.mv (.t 22)),qq 6 (.mv (.t 23))]) (.seq (.seq (.reg [qq 24 (.mv (.t 6)),qq 25 (.un .not (.t 24)),qq 26 (.mv (.t 25)),⟨(some 27),(some (26,false)),(.mv (.t 0))⟩,⟨(some 28),(some (26,false)),(.mv (.t 5))⟩,⟨(some 29),(some (26,false)),(.call 18 [(.t 27),(.t 28)])⟩,qq 30 (.pick (.t 26) (.c (.bool true)) (.t 29))]) (.cond (.t 30) (.seq (.reg [qq 4 (.mv (.c (.bool true)))]) .ret) .skip)) (.seq (.reg [qq 31 (.mv (.t 0)),qq 32 (.mv (.t 5)),qq 33 (.call 14 [(.t 31),(.t 32)]),qq 7 (.mv (.t 33))]) (.seq (.reg [qq 34 (.mv (.t 5)),qq 35 (.lensl (.t 34)),qq 36 (.mkslice 4 1 1 [(.bool false)] (.t 35) (.t 35)),qq 8 (.mv (.t 36))]) (.seq (.seq (.reg [qq 9 (.mv (ci 0))]) (.block 0 (.loop (.seq (.seq (.reg [qq 37 (.mv (.t 9)),qq 38 (.mv (.t 7)),qq 39 (.lensl (.t 38)),qq 40 (.bin .lss (.t 37) (.t 39))]) (.cond (.t 40) .skip (.exit 0))) (.seq (.block 1 (.seq (.seq (.dreg [qu 43 (.mv (.t 7)),qu 44 (.mv (.t 9)),qu 45 (.ixsl 1 (.t 43) (.t 44)),qu 46 (.load false 1 (.t 45)),qu 47 (.bin .lss (.t 46) (ci 0)),qu 48 (.mv (.t 47)),⟨(some 49),(some (48,false)),[],(.mv (.t 7))⟩,⟨(some 50),(some (48,false)),[],(.mv (.t 9))⟩,⟨(some 51),(some (48,false)),[],(.ixsl 1 (.t 49) (.t 50))⟩,⟨(some 52),(some (48,false)),[],(.load false 1 (.t 51))⟩,⟨(some 53),(some (48,false)),[],(.mv (.t 5))⟩,⟨(some 54),(some (48,false)),[],(.lensl (.t 53))⟩,⟨(some 55),(some (48,false)),[],(.bin .geq (.t 52) (.t 54))⟩,qu 56 (.pick (.t 48) (.c (.bool true)) (.t 55)),qu 57 (.mv (.t 56)),⟨(some 58),(some (57,false)),[],(.mv (.t 9))⟩,⟨(some 59),(some (57,false)),[],(.bin .gtr (.t 58) (ci 0))⟩,⟨(some 60),(some (57,false)),[],(.mv (.t 59))⟩,⟨(some 61),(some (60,true)),[],(.mv (.t 7))⟩,⟨(some 62),(some (60,true)),[],(.mv (.t 9))⟩,⟨(some 63),(some (60,true)),[],(.ixsl 1 (.t 61) (.t 62))⟩,⟨(some 64),(some (60,true)),[],(.load false 1 (.t 63))⟩,⟨(some 65),(some (60,true)),[],(.mv (.t 7))⟩,⟨(some 66),(some (60,true)),[],(.mv (.t 9))⟩,⟨(some 67),(some (60,true)),[],(.bin .sub (.t 66) (ci 1))⟩,⟨(some 68),(some (60,true)),[],(.ixsl 1 (.t 65) (.t 67))⟩,⟨(some 69),(some (60,true)),[],(.load false 1 (.t 68))⟩,⟨(some 70),(some (60,true)),[],(.bin .leq (.t 64) (.t 69))⟩,⟨(some 71),(some (57,false)),[],(.pick (.t 60) (.t 70) (.c (.bool false)))⟩,qu 72 (.pick (.t 57) (.c (.bool true)) (.t 71))]) (.cond (.t 72) (.seq (.reg [qq 4 (.mv (.c (.bool false)))]) .ret) .skip)) (.reg [qq 73 (.mv (.t 8)),qq 74 (.mv (.t 7)),qq 75 (.mv (.t 9)),qq 76 (.ixsl 1 (.t 74) (.t 75)),qq 77 (.load false 1 (.t 76)),qq 78 (.ixsl 1 (.t 73) (.t 77)),qn (.store 1 (.t 78) (.c (.bool true)))]))) (.reg [qq 41 (.mv (.t 9)),qq 42 (.bin .add (.t 41) (ci 1)),qq 9 (.mv (.t 42))])))))) (.seq (.reg [qq 79 (.mv (.t 5)),qq 80 (.mv (.t 8)),qq 81 (.call 23 [(.t 79),(.t 80)]),qq 10 (.mv (.t 81))]) (.seq (.reg [qq 83 (.mv (.t 0)),qq 84 (.mv (.t 5)),qq 85 (.call 16 [(.t 83),(.t 84)]),qq 82 (.mv (.t 85)),qq 86 (.ext (.t 82) 0),qq 87 (.ext (.t 82) 1),qq 11 (.mv (.t 86)),qq 12 (.mv (.t 87))]) (.seq (.reg [qq 89 (.mv (.t 0)),qq 90 (.mv (.t 10)),qq 91 (.call 16 [(.t 89),(.t 90)]),qq 88 (.mv (.t 91)),qq 92 (.ext (.t 88) 0),qq 93 (.ext (.t 88) 1),qq 13 (.mv (.t 92)),qq 14 (.mv (.t 93))]) (.seq (.seq (.reg [qq 94 (.mv (.t 12)),qq 95 (.mv (.t 14)),qq 96 (.bin .neq (.t 94) (.t 95)),qq 97 (.mv (.t 96)),⟨(some 98),(some (97,false)),(.mv (.t 11))⟩,⟨(some 99),(some (97,false)),(.lensl (.t 98))⟩,⟨(some 100),(some (97,false)),(.mv (.t 13))⟩,⟨(some 101),(some (97,false)),(.lensl (.t 100))⟩,⟨(some 102),(some (97,false)),(.bin .neq (.t 99) (.t 101))⟩,qq 103 (.pick (.t 97) (.c (.bool true)) (.t 102)),qq 104 (.mv (.t 103)),⟨(some 105),(some (104,false)),(.mv (.t 0))⟩,⟨(some 106),(some (104,false)),(.mv (.t 5))⟩,⟨(some 107),(some (104,false)),(.call 24 [(.t 105),(.t 106)])⟩,⟨(some 108),(some (104,false)),(.lensl (.t 107))⟩,⟨(some 109),(some (104,false)),(.mv (.t 0))⟩,⟨(some 110),(some (104,false)),(.mv (.t 10))⟩,⟨(some 111),(some (104,false)),(.call 24 [(.t 109),(.t 110)])⟩,⟨(some 112),(some (104,false)),(.lensl (.t 111))⟩,⟨(some 113),(some (104,false)),(.bin .neq (.t 108) (.t 112))⟩,qq 114 (.pick (.t 104) (.c (.bool true)) (.t 113)),qq 115 (.mv (.t 114)),⟨(some 116),(some (115,false)),(.mv (.t 0))⟩,⟨(some 117),(some (115,false)),(.mv (.t 10))⟩,⟨(some 118),(some (115,false)),(.call 14 [(.t 116),(.t 117)])⟩,⟨(some 119),(some (115,false)),(.lensl (.t 118))⟩,⟨(some 120),(some (115,false)),(.bin .neq (.t 119) (ci 0))⟩,qq 121 (.pick (.t 115) (.c (.bool true)) (.t 120))]) (.cond (.t 121) (.seq (.reg [qq 4 (.mv (.c (.bool false)))]) .ret) .skip)) (.seq (.seq (.reg [qq 15 (.mv (ci 0))]) (.block 2 (.loop (.seq (.seq (.reg [qq 122 (.mv (.t 15)),qq 123 (.mv (.t 11)),qq 124 (.lensl (.t 123)),qq 125 (.bin .lss (.t 122) (.t 124))]) (.cond (.t 125) .skip (.exit 2))) (.seq (.block 3 (.seq (.dreg [qu 128 (.mv (.t 11)),qu 129 (.mv (.t 15)),qu 130 (.ixsl 3 (.t 128) (.t 129)),qu 131 (.load true 3 (.t 130)),qu 132 (.mv (.t 13)),qu 133 (.mv (.t 15)),qu 134 (.ixsl 3 (.t 132) (.t 133)),qu 135 (.load true 3 (.t 134)),qu 136 (.eqa true [.b,.s,.s] (.t 131) (.t 135))]) (.cond (.t 136) (.seq (.reg [qq 4 (.mv (.c (.bool false)))]) .ret) .skip))) (.reg [qq 126 (.mv (.t 15)),qq 127 (.bin .add (.t 126) (ci 1)),qq 15 (.mv (.t 127))])))))) (.seq (.reg [qq 137 (.mv (.t 10)),qq 138 (.lensl (.t 137)),qq 139 (.mv (.t 0)),qq 140 (.bin .leq (.t 138) (.t 139)),qq 4 (.mv (.t 140))]) .ret)))))))))))))
theorem tr8:trFun Tryz.prog 8=some ⟨141,[.t 4],c8⟩:=by kernel_rfl
set_option maxHeartbeats 32000000 in
theorem ok_L25red:SpecOK Tryz.prog 8 (rdS spL25red):=by
 refine rd_run (env_cons ok_alive5 (env_cons ok_normed (env_cons ok_clash5 (env_cons ok_red (env_cons ok_but5 (env_cons ok_solve (env_cons ok_freeV (env_nil _)))))))) mixed tr8 ?_ ?_
 ·intro args h h' v hle e
  unfold spL25red at e ⊢
  split at e
  ·split at e
   ·rename_i la h1
    simp only [decRows_mono hle h1];exact e
   ·cases e
  ·cases e
 intro args v h N hG hN
 unfold spL25red at hG
 split at hG
 case h_2=>cases hG
 rename_i n sa
 split at hG
 case h_2=>cases hG
 rename_i la hxa
 split at hG
 case isFalse=>cases hG
 rename_i hm
 obtain ⟨hn,hma⟩:=hm
 cases hG
 refine ⟨by rfl,by simp,?_⟩
 have al:spAlive5 []=some (.bool true):=rfl
 obtain ⟨aA,mA,okA,DA,dA,kA,oA,bA,cA⟩:=normed_any (n:=n) (b:=N+0) hxa hma (fun k b e=>by have:=hN k b e;omega)
 obtain ⟨MA,hMA⟩:∃ M,M=N+dA:=⟨_,rfl⟩
 have eMA:N+0+dA=MA+0:=by omega
 rw [show N+0+dA=MA by omega] at bA
 generalize eHA:DA ++ h=HA at *
 have acA:∀ (d:Nat) (tm:List (Nat × Value)) (V:Value) (K:St -> Prop),@aft (some d) (some (V,DA,dA)) ⟨(⟨tm,h,N+0⟩,K)⟩=K ⟨(d,V) :: tm,HA,MA+0⟩:=fun _ _ _ _=>by rw [<- eMA,<- eHA];exact propext Iff.rfl
 have xA:ExtL N h HA:=fun q hq=>oA q (by omega)
 rcases cA with ⟨rfl,_⟩ | ⟨rfl,fA,rfl,csA,RA⟩
 ·simp only [c8,G0,Nat.reduceAdd]
  simp only [↓R0,R1,simprocAttr,-Int.reduceAbs,flat,al,kA,acA,Bool.not_true,Bool.not_false,Fin,isEnd,resL,res1]
  exact ⟨_,rfl,rfl,xA⟩
 obtain ⟨nn,rfl⟩:=Int.eq_ofNat_of_zero_le fA.1
 have la14:=fA.2.2.1
 have EA:=fit_eqs fA
 have FA:=fit_R fA
 have lA:=nmL_len la
 generalize nmL la=LL at *
 have kC:=clash5_of RA.rows (FA.sys (by omega) fun e h=>h)
 cases tA:togL nn LL with
 | false=>
  rw [tA] at kC
  simp only [c8,G0,Nat.reduceAdd]
  simp only [↓R0,R1,simprocAttr,-Int.reduceAbs,rdS,flat,al,kA,acA,kC,Bool.not_true,Bool.not_false,Fin,isEnd,resL,res1]
  exact ⟨_,rfl,rfl,xA⟩
 | true=>
 rw [tA] at kC
 have chk:=EA.chk
 have con:=(tog_sat chk).1 tA
 have l100:LL.length < 100:=by omega
 have ER:EqsOK nn (rest5 nn LL):=EA.sub (by rw [rest5_len];exact keep5_len _ _) rest5_mem
 obtain ⟨o1,o2,o3⟩:=rest5_out chk con l100
 have oR0:=rest5_red chk con l100
 have oLe:=rest5_le chk con l100
 have rlt:=redL_lt chk con
 have rsort:(redL nn LL).Pairwise (· < ·):=redS_sorted chk con LL.length
 have kpd:kpL (mkL5 (redL nn LL) la.length (redL nn LL).length) (mkL5 (redL nn LL) la.length (redL nn LL).length).length=keep5 nn LL:=by rw [mkL5_len,<- lA];rfl
 have kpl:=keep5_len nn LL
 have rll:(redL nn LL).length <= LL.length:=redS_len nn LL LL.length
 rw [rest5_len] at oLe
 have selE:selL LL (keep5 nn LL)=rest5 nn LL:=rfl
 obtain ⟨aR,DR,dR,kR,oR,cR⟩:=red_call (b:=MA+0) RA EA
 have bR:=nwL_bnd kR (fun k b hk=>by have:=bA k b hk;omega)
 obtain ⟨MB,hMB⟩:∃ M,M=MA+0+dR:=⟨_,rfl⟩
 rw [<- hMB] at bR cR
 generalize eHB:DR ++ HA=HB at *
 have acR:∀ (d:Nat) (tm:List (Nat × Value)) (V:Value) (K:St -> Prop),@aft (some d) (some (V,DR,dR)) ⟨(⟨tm,HA,MA+0⟩,K)⟩=K ⟨(d,V) :: tm,HB,MB+0⟩:=fun _ _ _ _=>by rw [<- eHB,hMB];exact propext Iff.rfl
 have lR:hle HA HB:=fun k b hk=>by rw [oR k (by have:=bA k b hk;omega)];exact hk
 generalize eRR:redL nn LL=RR at *
 have fE:(List.replicate la.length [Value.bool false]).flatten=boC (mkL5 RR la.length 0):=by
  rw [mkL5_zero]
  unfold boC
  rw [List.map_replicate]
  induction la.length with
  | zero=>rfl
  | succ m ih=>rw [List.replicate_succ,List.flatten_cons,ih,List.replicate_succ];rfl
 have mz:(0:Int) <= (la.length:Int):=by omega
 have mb:(1 * (la.length:Int) <= 281474976710656 /\ (la.length:Int) <= 9223372036854775807)=True:=eq_true (by omega)
 simp only [c8,G0,Nat.reduceAdd]
 simp only [↓R0,R1,simprocAttr,-Int.reduceAbs,rdS,flat,al,kA,acA,kC,kR,acR,fE,mz,mb,if_true,Bool.not_true,Bool.not_false]
 refine lp_parts (fun q tm hp nx=>∃ i:Nat,q+i=RR.length /\ tmget tm 0 = .int .i64 nn /\ tmget tm 5 = .slice aA la.length la.length /\ tmget tm 7 = .slice aR RR.length RR.length /\ tmget tm 8 = .slice (some ⟨MB+0,0,none⟩) la.length la.length /\ tmget tm 9 = .int .i64 i /\ (∃ x,hget hp (MB+0)=some ⟨4,1,x,boC (mkL5 RR la.length i)⟩) /\ (∀ k blk,hget hp k=some blk -> k < MB+1) /\ ExtL MB HB hp /\ nx=MB+1) ?_ RR.length
  ⟨0,by omega,?_,?_,?_,?_,?_,⟨false,?_⟩,?_,?_,rfl⟩
 rotate_left
 all_goals first | (simp only [↓R0,R1,simprocAttr,-Int.reduceAbs];done) | (simp only [↓R0,R1,simprocAttr,-Int.reduceAbs];rfl) | skip
 ·intro k blk hk
  by_cases e:MB+0=k
  ·omega
  ·simp only [hget] at hk
   rw [if_neg e] at hk
   have:=bR k blk hk;omega
 ·intro q hq
  have nb:∀ d,(MB+d=q)=False:=fun d=>eq_false (by omega)
  simp only [↓R0,R1,simprocAttr,-Int.reduceAbs,nb]
 rintro q tm hp nx ⟨i,hq,t0,t5,t7,t8,t9,⟨x,gM⟩,bM,hh,hnx⟩
 rw [hnx]
 clear hnx nx
 have wi:IntKind.i64.wrap ((i:Int)+1)=((i+1:Nat):Int):=by rw [i64_in _ (by omega)];omega
 by_cases ci:i < RR.length
 case pos=>
  have ci':((i:Int) < (RR.length:Int))=True:=eq_true (by omega)
  obtain ⟨kr,rfl,hkr,gr0⟩:=cR (by omega)
  have gr:hget hp kr=some ⟨3,1,false,intC RR⟩:=by rw [hh kr hkr];exact gr0
  obtain ⟨r,hr⟩:∃ r,RR[i]?=some r:=⟨_,List.getElem?_eq_getElem ci⟩
  have rm:=rlt r (List.mem_of_getElem? hr)
  have icl:(intC RR).length=RR.length:=by unfold intC;rw [List.length_map]
  have c1:(intC RR)[i]?=some (.int .i64 (r:Nat)):=by unfold intC;rw [List.getElem?_map,hr];rfl
  have cl:i+1 <= (intC RR).length:=by omega
  have p1:((r:Int) < 0)=False:=eq_false (by omega)
  have p2:((r:Int) >= (la.length:Int))=False:=eq_false (by omega)
  have p4:((r:Int) < (la.length:Int))=True:=eq_true (by omega)
  have p5:r < la.length:=by omega
  have nkr:∀ d,(MB+d=kr)=False:=fun d=>eq_false (by omega)
  have bl:=boC_len (mkL5 RR la.length i)
  rw [mkL5_len] at bl
  have bs:(boC (mkL5 RR la.length i)).set r (.bool true)=boC (mkL5 RR la.length (i+1)):=by rw [boC_set,mkL5_succ hr p5]
  generalize eBN:boC (mkL5 RR la.length (i+1))=BN at *
  generalize boC (mkL5 RR la.length i)=BO at *
  have cl3:r+1 <= la.length:=by omega
  by_cases i0:i=0
  ·have i0':((i:Int) > 0)=False:=eq_false (by omega)
   simp only [↓R0,R1,simprocAttr,-Int.reduceAbs,t0,t5,t7,t8,t9,ci,ci',gM,gr,c1,cl,p1,p2,p4,p5,nkr,bl,bs,cl3,i0',wi,Nat.zero_add,Bool.not_true,Bool.not_false]
   refine ⟨q - 1,by omega,i+1,by omega,rfl,⟨x,by rw [eBN]⟩,fun k blk hk=>?_,fun q hq=>?_⟩
   ·by_cases e:MB+0=k
    ·omega
    ·rw [if_neg e] at hk
     exact bM k blk hk
   ·have nb:∀ d,(MB+d=q)=False:=fun d=>eq_false (by omega)
    simp only [↓R0,R1,simprocAttr,-Int.reduceAbs,nb]
    exact hh q hq
  ·have i0':((i:Int) > 0)=True:=eq_true (by omega)
   have wm:IntKind.i64.wrap ((i:Int) - 1)=((i - 1:Nat):Int):=by rw [i64_in _ (by omega)];omega
   obtain ⟨r',hr'⟩:∃ r,RR[i - 1]?=some r:=⟨_,List.getElem?_eq_getElem (by omega)⟩
   have c2:(intC RR)[i - 1]?=some (.int .i64 (r':Nat)):=by unfold intC;rw [List.getElem?_map,hr'];rfl
   have lt:r' < r:=by
    have:=(List.pairwise_iff_getElem.1 rsort) (i - 1) i (by omega) ci (by omega)
    rw [(List.getElem?_eq_some_iff.1 hr).2,(List.getElem?_eq_some_iff.1 hr').2] at this
    exact this
   have p3:((r:Int) <= (r':Int))=False:=eq_false (by omega)
   have cm:((i - 1:Nat):Int) < (RR.length:Int):=by omega
   have cm2:i - 1 < RR.length:=by omega
   have cl2:i - 1+1 <= (intC RR).length:=by omega
   simp only [↓R0,R1,simprocAttr,-Int.reduceAbs,t0,t5,t7,t8,t9,ci,ci',gM,gr,c1,c2,cl,cl2,cm,cm2,p1,p2,p3,p4,p5,nkr,bl,bs,cl3,i0',wi,wm,Nat.zero_add,Bool.not_true,Bool.not_false]
   refine ⟨q - 1,by omega,i+1,by omega,rfl,⟨x,by rw [eBN]⟩,fun k blk hk=>?_,fun q hq=>?_⟩
   ·by_cases e:MB+0=k
    ·omega
    ·rw [if_neg e] at hk
     exact bM k blk hk
   ·have nb:∀ d,(MB+d=q)=False:=fun d=>eq_false (by omega)
    simp only [↓R0,R1,simprocAttr,-Int.reduceAbs,nb]
    exact hh q hq
 have ei:i=RR.length:=by omega
 subst ei
 have ci':((RR.length:Int) < (RR.length:Int))=False:=eq_false (by omega)
 have lAB:hle HA hp:=fun k b hk=>by have:=bA k b hk;rw [hh k (by omega),oR k (by omega)];exact hk
 have bll:=boC_list (m:=la.length) (c:=la.length) gM (by rw [mkL5_len]) (Nat.le_refl _)
 obtain ⟨aB,DB,dB,csB,kB,oB,RB0⟩:=but_call (b:=MB+1) (RA.mono lAB) bll (by rw [mkL5_len,lA]) (by omega) bM
 have bB:=nwL_bnd kB bM
 rw [kpd] at kB RB0
 rw [selE] at RB0
 obtain ⟨M_B,e_B⟩:∃ M,M=MB+1+dB:=⟨_,rfl⟩
 rw [<- e_B] at bB
 generalize eHC:DB ++ hp=H_B at *
 have ac_B:∀ (d:Nat) (tm:List (Nat × Value)) (V:Value) (K:St -> Prop),@aft (some d) (some (V,DB,dB)) ⟨(⟨tm,hp,MB+1⟩,K)⟩=K ⟨(d,V) :: tm,H_B,M_B+0⟩:=fun _ _ _ _=>by rw [<- eHC,e_B];exact propext Iff.rfl
 have lB:hle hp H_B:=fun k b hk=>by rw [oB k (bM k b hk)];exact hk
 have R_B:=(RA.mono lAB).mono lB
 have b_B:=bB
 obtain ⟨a_C,D_C,d_C,k_C,o_C,v_C,w_C⟩:=solve_call2 (b:=M_B+0) R_B.rows EA.min.sys
 have b_C:=nwL_bnd k_C (fun k b hk=>by have:=b_B k b hk;omega)
 obtain ⟨M_C,e_C⟩:∃ M,M=M_B+0+d_C:=⟨_,rfl⟩
 rw [<- e_C] at b_C
 generalize eH_C:D_C ++ H_B=H_C at *
 have ac_C:∀ (d:Nat) (tm:List (Nat × Value)) (V:Value) (K:St -> Prop),@aft (some d) (some (V,D_C,d_C)) ⟨(⟨tm,H_B,M_B+0⟩,K)⟩=K ⟨(d,V) :: tm,H_C,M_C+0⟩:=fun _ _ _ _=>by rw [<- eH_C,e_C];exact propext Iff.rfl
 have l_C:hle H_B H_C:=fun k b hk=>by rw [o_C k (by have:=b_B k b hk;omega)];exact hk
 have R_C:=R_B.mono l_C
 have Q_C:=RB0.mono l_C
 obtain ⟨a_D,D_D,d_D,k_D,o_D,v_D,w_D⟩:=solve_call2 (b:=M_C+0) Q_C.rows ER.min.sys
 have b_D:=nwL_bnd k_D (fun k b hk=>by have:=b_C k b hk;omega)
 obtain ⟨M_D,e_D⟩:∃ M,M=M_C+0+d_D:=⟨_,rfl⟩
 rw [<- e_D] at b_D
 generalize eH_D:D_D ++ H_C=H_D at *
 have ac_D:∀ (d:Nat) (tm:List (Nat × Value)) (V:Value) (K:St -> Prop),@aft (some d) (some (V,D_D,d_D)) ⟨(⟨tm,H_C,M_C+0⟩,K)⟩=K ⟨(d,V) :: tm,H_D,M_D+0⟩:=fun _ _ _ _=>by rw [<- eH_D,e_D];exact propext Iff.rfl
 have l_D:hle H_C H_D:=fun k b hk=>by rw [o_D k (by have:=b_C k b hk;omega)];exact hk
 have R_D:=R_C.mono l_D
 have Q_D:=Q_C.mono l_D
 obtain ⟨a_E,D_E,d_E,k_E,o_E,v_E,w_E⟩:=free_call2 (b:=M_D+0) R_D.rows EA.min.sys
 have b_E:=nwL_bnd k_E (fun k b hk=>by have:=b_D k b hk;omega)
 obtain ⟨M_E,e_E⟩:∃ M,M=M_D+0+d_E:=⟨_,rfl⟩
 rw [<- e_E] at b_E
 generalize eH_E:D_E ++ H_D=H_E at *
 have ac_E:∀ (d:Nat) (tm:List (Nat × Value)) (V:Value) (K:St -> Prop),@aft (some d) (some (V,D_E,d_E)) ⟨(⟨tm,H_D,M_D+0⟩,K)⟩=K ⟨(d,V) :: tm,H_E,M_E+0⟩:=fun _ _ _ _=>by rw [<- eH_E,e_E];exact propext Iff.rfl
 have l_E:hle H_D H_E:=fun k b hk=>by rw [o_E k (by have:=b_D k b hk;omega)];exact hk
 have R_E:=R_D.mono l_E
 have Q_E:=Q_D.mono l_E
 obtain ⟨a_F,D_F,d_F,k_F,o_F,v_F,w_F⟩:=free_call2 (b:=M_E+0) Q_E.rows ER.min.sys
 have b_F:=nwL_bnd k_F (fun k b hk=>by have:=b_E k b hk;omega)
 obtain ⟨M_F,e_F⟩:∃ M,M=M_E+0+d_F:=⟨_,rfl⟩
 rw [<- e_F] at b_F
 generalize eH_F:D_F ++ H_E=H_F at *
 have ac_F:∀ (d:Nat) (tm:List (Nat × Value)) (V:Value) (K:St -> Prop),@aft (some d) (some (V,D_F,d_F)) ⟨(⟨tm,H_E,M_E+0⟩,K)⟩=K ⟨(d,V) :: tm,H_F,M_F+0⟩:=fun _ _ _ _=>by rw [<- eH_F,e_F];exact propext Iff.rfl
 have l_F:hle H_E H_F:=fun k b hk=>by rw [o_F k (by have:=b_E k b hk;omega)];exact hk
 have R_F:=R_E.mono l_F
 have Q_F:=Q_E.mono l_F
 obtain ⟨a_G,D_G,d_G,k_G,o_G,v_G⟩:=red_call (b:=M_F+0) Q_F ER
 have b_G:=nwL_bnd k_G (fun k b hk=>by have:=b_F k b hk;omega)
 obtain ⟨M_G,e_G⟩:∃ M,M=M_F+0+d_G:=⟨_,rfl⟩
 rw [<- e_G] at b_G
 generalize eH_G:D_G ++ H_F=H_G at *
 have ac_G:∀ (d:Nat) (tm:List (Nat × Value)) (V:Value) (K:St -> Prop),@aft (some d) (some (V,D_G,d_G)) ⟨(⟨tm,H_F,M_F+0⟩,K)⟩=K ⟨(d,V) :: tm,H_G,M_G+0⟩:=fun _ _ _ _=>by rw [<- eH_G,e_G];exact propext Iff.rfl
 have l_G:hle H_F H_G:=fun k b hk=>by rw [o_G k (by have:=b_F k b hk;omega)];exact hk
 have R_G:=R_F.mono l_G
 have Q_G:=Q_F.mono l_G
 rw [o1,o2] at k_D
 rw [o2] at v_D
 rw [o3] at k_F
 rw [oR0] at k_G
 simp only [List.length_nil] at k_G
 have vC:listAt 3 dec1 H_G (.slice a_C (solveL nn LL).2.length (solveL nn LL).2.length)=some (vq (solveL nn LL).2):=v_C _ fun q hq=>by rw [o_G q (by omega),o_F q (by omega),o_E q (by omega),o_D q (by omega)]
 have vD:listAt 3 dec1 H_G (.slice a_D (solveL nn LL).2.length (solveL nn LL).2.length)=some (vq (solveL nn LL).2):=v_D _ fun q hq=>by rw [o_G q (by omega),o_F q (by omega),o_E q (by omega)]
 have fin:∀ q,q < N -> hget H_G q=hget h q:=fun q hq=>by rw [o_G q (by omega),o_F q (by omega),o_E q (by omega),o_D q (by omega),o_C q (by omega),oB q (by omega),hh q (by omega),oR q (by omega)];exact xA q hq
 have sl8:(solveL nn LL).2.length <= nn:=solL_le
 have n8:=EA.n8
 have fl8:(freeVL nn LL).length <= nn:=freeVL_le
 have vRQ:=fun (j:Nat) (h:j < (solveL nn LL).2.length)=>vq_RQ h
 have dn:∀ a b:Int,decide (a ≠ b)=!decide (a=b):=fun a b=>by by_cases h:a=b <;> simp [h]
 have ole:(((keep5 nn LL).length:Int) <= (nn:Int))=True:=eq_true (by omega)
 generalize freeVL nn LL=FV at *
 generalize (keep5 nn LL).length=KL at *
 generalize vq (solveL nn LL).2=VS at *
 generalize (solveL nn LL).2.length=LS at *
 generalize (solveL nn LL).1=CD at *
 simp only [↓R0,R1,simprocAttr,-Int.reduceAbs,t0,t5,t7,t8,t9,ci',kB,ac_B,k_C,ac_C,k_D,ac_D,k_E,ac_E,k_F,ac_F,k_G,ac_G,dn,Bool.not_true,Bool.not_false]
 refine lp_parts (fun q tm hp nx=>∃ i:Nat,q+i=LS /\ tmget tm 0 = .int .i64 nn /\ tmget tm 10 = .slice aB KL KL /\ tmget tm 11 = .slice a_C LS LS /\ tmget tm 13 = .slice a_D LS LS /\ tmget tm 15 = .int .i64 i /\ H_G=hp /\ nx=M_G+0) ?_ LS
  ⟨0,by omega,?_,?_,?_,?_,?_,rfl,rfl⟩
 rotate_left
 all_goals first | (simp only [↓R0,R1,simprocAttr,-Int.reduceAbs,t0];done) | (simp only [↓R0,R1,simprocAttr,-Int.reduceAbs,t0];rfl) | skip
 clear t0 t5 t7 t8 t9
 rintro q tm hp2 nx ⟨i,hq,t0,t10,t11,t13,t15,hhp,hnx⟩
 subst hhp
 rw [hnx]
 clear hnx nx
 have wi:IntKind.i64.wrap ((i:Int)+1)=((i+1:Nat):Int):=by rw [i64_in _ (by omega)];omega
 by_cases c3:i < LS
 case neg=>
  have c3':((i:Int) < (LS:Int))=False:=eq_false (by omega)
  simp only [↓R0,R1,simprocAttr,-Int.reduceAbs,t0,t10,t11,t13,t15,c3',ole,Fin,isEnd,resL,res1]
  exact ⟨_,rfl,rfl,fin⟩
 have c3':((i:Int) < (LS:Int))=True:=eq_true (by omega)
 obtain ⟨k1,f1,B1,ea1,b1,q1,q2⟩:=rq_at vC c3
 obtain ⟨k2,f2,B2,ea2,b2,q3,q4⟩:=rq_at vD c3
 rw [ea1] at t11
 rw [ea2] at t13
 generalize rqAt VS i=PA at *
 have g1:PA.cells.length=3:=rfl
 have g2:PA.cells.all okCell=true:=rfl
 have g3:PA.cells.take 3=PA.cells:=rfl
 have g9:=ceq3 PA
 generalize PA.cells=CA at *
 simp only [↓R0,R1,simprocAttr,-Int.reduceAbs,t0,t10,t11,t13,t15,c3,c3',b1,b2,q1,q2,q3,q4,g1,g2,g3,g9,wi,Bool.not_true,Bool.not_false]
 refine ⟨q - 1,by omega,i+1,by omega,?_⟩
 rw [ea1,ea2]
 first | exact ⟨rfl,rfl⟩ | exact ⟨rfl,rfl,rfl⟩ | exact ⟨rfl,rfl,rfl,rfl⟩
theorem fr_L25red {h:Heap} {N:Nat} {n:Int} {a:Value} {la:List EqR} (z:-9223372036854775808 <= n /\ n <= 9223372036854775807) (ea:decRows h a=some la) (ma:la.length <= maxLen):rdS spL25red [.int .i64 n,a] h N=some (.bool true,[],0):=by
 unfold rdS spL25red
 simp only [ea]
 rw [if_pos ⟨z,Nat.le_trans ma (by decide)⟩];rfl
end Go.Eng
end
