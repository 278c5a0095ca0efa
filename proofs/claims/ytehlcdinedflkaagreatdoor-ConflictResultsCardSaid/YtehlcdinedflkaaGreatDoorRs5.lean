/-
  A part of the proof: the machine, the contracts of the functions and the plain laws, merged from smaller texts.
-/
import Derived.Test.YtehlcdinedflkaaGreatDoorRs4
import Derived.RowKit3
import Derived.ChangeSame
import Derived.ReadAgain
import Derived.Deep.Slices
import Derived.WideShapes
set_option linter.unusedVariables false
set_option linter.unusedSimpArgs false
set_option linter.unusedSectionVars false
section
set_option maxRecDepth 20000
namespace Go.Eng
open Go Go.Proofs Go.IntWalk
theorem eqNL_congr {n:Nat} {f g:Row} (h:∀ j,j <= n -> f j=g j):eqNL n f=eqNL n g:=by
 unfold eqNL
 rw [canE_congr h,fq_congr fun j hj=>h j (by omega)]
def outR (n:Nat) (l:List EqR):List Row:=l.map (rowE n)
theorem outR_len (n:Nat) (l:List EqR):(outR n l).length=l.length:=by unfold outR;rw [List.length_map]
theorem outR_at {n:Nat} {l:List EqR} {i:Nat} (h:i < l.length):rowAt (outR n l) i=rowE n (eqAt l i):=by
 unfold rowAt outR
 rw [List.getElem?_map,eqAt_some h];rfl
structure ClOK (n:Nat) (e:EqR) (l:List EqR):Prop where
 n8:n <= 8
 m8:l.length <= 8
 len:∀ d ∈ l,d.coef.length=n
 piv:PInv n (outR n l)
 ok:eqOk e 8589934591
 rb:∀ j,j <= n -> RB (rowE n e j) 6
 lok:∀ d ∈ l,eqOk d 8589934591
 lrb:∀ p,p < l.length -> ∀ j,j <= n -> RB (rowE n (eqAt l p) j) 119125776
def okAddr (h:Heap):List Value -> Prop
 | .slice none 0 0 :: _=>True
 | .slice (some ⟨k,0,none⟩) _ _ :: _=>hget h k ≠ none
 | _=>False
open Classical in
noncomputable def spClean24:List Value -> Heap -> Option NewL
 | [.agg ⟨cs⟩,sl],h=>match decEq h cs,decRows h sl with
  | some e,some l=>if l=[] then (if okAddr h cs then some ⟨0,fun _ => .agg ⟨cs⟩,fun _=>0,fun _=>0,fun _ _=>[]⟩ else none)
   else if ClOK e.coef.length e l then some (eqNL e.coef.length (cleanR e.coef.length (outR e.coef.length l) (rowE e.coef.length e))) else none
  | _,_=>none
 | _,_=>none
theorem okAddr_mono {h h':Heap} (hl:hle h h') {cs:List Value} (e:okAddr h cs):okAddr h' cs:=by
 unfold okAddr at e ⊢
 split at e
 ·trivial
 ·rename_i k _ _ _
  cases hb:hget h k with
  | none=>exact absurd hb e
  | some b=>rw [hl _ _ hb];simp
 ·exact e.elim
theorem okAddr_vr {h:Heap} {cs:List Value} {tl:List Value} {sl:Value} (hcs:cs=sl :: tl) (ht:tl.all isBase=true) (e:okAddr h cs) {β:Emb} (b2:∀ k,hget h k ≠ none -> β k=some ⟨k,0,[]⟩):VR β (.agg ⟨cs⟩) (.agg ⟨cs⟩):=by
 unfold okAddr at e
 split at e
 ·exact .agg _ _ (.cons _ _ _ _ (.base _ rfl) (VRs.of_base (by injection hcs with _ h;rw [h];exact ht)))
 ·rename_i k _ _ _
  exact .agg _ _ (.cons _ _ _ _ (VR.sl k 0 _ _ ⟨k,0,[]⟩ (b2 k e)) (VRs.of_base (by injection hcs with _ h;rw [h];exact ht)))
 ·exact e.elim
def HdE (M n:Nat) (hp:Heap) (rv:List Value) (e:EqR):Prop:=
 ∃ a c,rv = .slice a n c :: e.tl /\ e.coef.length=n /\ (∀ k off s,a=some ⟨k,off,s⟩ -> k < M) /\ ∀ hp',ExtL M hp hp' -> listAt 3 dec1 hp' (.slice a n c)=some e.coef
theorem times_of {h:Heap} {cs:List Value} {e:EqR} {q:RQ} {n:Nat} (hx:decEq h cs=some e) (hn:e.coef.length=n) (n8:n <= 100) (he:eqOk e 8589934592) (ho:q.ok 8589934592):spTimes [.agg ⟨cs⟩,.agg ⟨q.cells⟩] h=some (eqNL n (timesF e q)):=by
 have hq:dec1 q.cells=some q:=rfl
 unfold spTimes
 simp only [hx,hq]
 rw [hn]
 exact if_pos ⟨n8,he,ho⟩
theorem less_of {h:Heap} {cs ds:List Value} {e d:EqR} {n:Nat} (hx:decEq h cs=some e) (hy:decEq h ds=some d) (hn:e.coef.length=n) (hd:d.coef.length=n) (n8:n <= 100) (he:eqOk e 8589934591) (ho:eqOk d 8589934591):spLess24 [.agg ⟨cs⟩,.agg ⟨ds⟩] h=some (eqNL n (lessF e d)):=by
 unfold spLess24
 simp only [hx,hy]
 rw [hn]
 exact if_pos ⟨n8,hd,he,ho⟩
theorem canE_ok {n k:Nat} {f:Row} (h:∀ j,j <= n -> RB (f j) k):eqOk (canE n f) k:=⟨fq_ok fun j hj=>h j (by omega),RQ.of_ok (h n (Nat.le_refl _))⟩
theorem can_dec {h:Heap} {k e s n:Nat} {x:Bool} {f:Row} (hb:hget h k=some ⟨e,s,x,rqs (fq f n)⟩) (h0:0 < n):decEq h (.slice (some ⟨k,0,none⟩) n n :: (canE n f).tl)=some (canE n f):=
 decEq_of (rqs_list hb (fq_len _ _) h0)
def c93:ICode:=
 (.seq (.reg [qq 2 (.box 40 5 (.t 0)),qq 4 (.alloc 40 5 [(.slice none 0 0),(.bool false),e0,e0,(.int .i64 0)])]) (.seq (.seq (.reg [qq 5 (.mv (ci 0))]) (.block 0 (.loop (.seq (.seq (.reg [qq 7 (.mv (.t 5)),qq 8 (.mv (.t 1)),qq 9 (.lensl (.t 8)),qq 10 (.bin .lss (.t 7) (.t 9))]) (.cond (.t 10) .skip (.exit 0))) (.seq (.block 1 (.seq (.reg [qq 13 (.mv (.t 1)),qq 14 (.mv (.t 5)),qq 15 (.ixsl 5 (.t 13) (.t 14)),qq 16 (.faddr 0 (.t 15)),qq 17 (.load false 1 (.t 16)),qq 18 (.call 95 [(.t 17)]),qq 6 (.mv (.t 18))]) (.dreg [qu 19 (.load true 5 (.t 2)),qu 20 (.mv (.t 1)),qu 21 (.mv (.t 5)),qu 22 (.ixsl 5 (.t 20) (.t 21)),qu 23 (.load true 5 (.t 22)),qu 24 (.faddr 0 (.t 2)),qu 25 (.load false 1 (.t 24)),qu 26 (.mv (.t 6)),qu 27 (.ixsl 3 (.t 25) (.t 26)),qu 28 (.load true 3 (.t 27)),qu 29 (.call 94 [(.t 23),(.t 28)]),qu 30 (.call 98 [(.t 19),(.t 29)]),qm (.store 5 (.t 2) (.t 30))]))) (.reg [qq 11 (.mv (.t 5)),qq 12 (.bin .add (.t 11) (ci 1)),qq 5 (.mv (.t 12))])))))) (.seq (.reg [qq 31 (.load true 5 (.t 2)),qn (.store 5 (.t 4) (.t 31))]) .ret)))
theorem tr93:trFun Tryz.prog 93=some ⟨32,[.cell 4 true 5],c93⟩:=by kernel_rfl
set_option maxHeartbeats 16000000 in
theorem ok_clean24:SpecOK Tryz.prog 93 (nwL spClean24):=by
 refine newL_run (env_cons ok_lead24 (env_cons ok_times24 (env_cons ok_less24 (env_nil _)))) mixed tr93 ?_ ?_
 ·intro args h h' r hle e
  unfold spClean24 at e ⊢
  split at e
  ·split at e
   ·rename_i x y hb hc
    simp only [decEq_mono hle hb,decRows_mono hle hc]
    split at e
    ·rename_i z
     rw [if_pos z]
     split at e
     ·rename_i w;rw [if_pos (okAddr_mono hle w)];exact e
     ·cases e
    ·rename_i z
     rw [if_neg z];exact e
   ·cases e
  ·cases e
 intro args h N r hG hN
 unfold spClean24 at hG
 split at hG
 case h_2=>cases hG
 rename_i cs sv
 split at hG
 case h_2=>cases hG
 rename_i e l hx hy
 obtain ⟨sl,ecs,hl⟩:=decEq_eq hx
 have c5l:cs.length=5:=by rw [ecs];rfl
 have c5t:cs.take 5=cs:=List.take_of_length_le (by omega)
 have c5s:setR [.slice none 0 0,.bool false,.string ⟨⟨[]⟩⟩,.string ⟨⟨[]⟩⟩,.int .i64 0] 0 cs=cs:=by
  match cs,c5l with
  | [_,_,_,_,_],_=>rfl
 obtain ⟨b,dd,rfl⟩:=listAt_sl (dec:=decEq h) hy
 obtain ⟨a,cc,rfl⟩:=listAt_sl hl
 have c5o:cs.all okCell=true:=by rw [ecs];rfl
 by_cases z:l=[]
 ·rw [if_pos z] at hG
  split at hG
  case isFalse=>cases hG
  rename_i oa
  cases hG
  refine ⟨⟨fun β σ σ' _ b2=>okAddr_vr ecs rfl oa b2,fun β σ σ' _ _ i hi=>absurd hi (Nat.not_lt_zero i)⟩,by simp,?_⟩
  have hl0:l.length=0:=by rw [z];rfl
  have gN:(N+0=N)=True:=eq_true rfl
  clear ecs
  generalize cs=CS at *
  simp only [c93,G0,Nat.reduceAdd]
  simp only [↓R0,R1,simprocAttr,-Int.reduceAbs,c5l,c5o,hl0]
  refine lp_step ?_
  simp only [↓R0,R1,simprocAttr,-Int.reduceAbs,c5l,c5o,c5t,c5s,hl0,FinL,isEnd,resL,res1]
  refine ⟨fun i=>i,_,fun i hi=>absurd hi (Nat.not_lt_zero i),fun i j hi=>absurd hi (Nat.not_lt_zero i),rfl,rfl,fun i hi=>absurd hi (Nat.not_lt_zero i),fun q hq=>?_⟩
  have nb:∀ d,(N+d=q)=False:=fun d=>eq_false (by omega)
  simp only [↓R0,R1,simprocAttr,-Int.reduceAbs,nb]
 rw [if_neg z] at hG
 split at hG
 case isFalse=>cases hG
 rename_i hs
 cases hG
 generalize hn:e.coef.length=n at *
 refine ⟨eqNL_par _ _ _,by simp,?_⟩
 have m0:0 < l.length:=List.length_pos_iff.2 z
 have n0:0 < n:=by have:=hs.piv.lt 0 (by rw [outR_len];exact m0);omega
 have n8:=hs.n8
 have m8:=hs.m8
 obtain ⟨out,hout⟩:∃ out,out=outR n l:=⟨_,rfl⟩
 have ol:out.length=l.length:=by rw [hout,outR_len]
 have oat:∀ i,i < l.length -> rowAt out i=rowE n (eqAt l i):=fun i hi=>by rw [hout,outR_at hi]
 have piv:=hs.piv
 rw [<- hout] at piv ⊢
 have cB:=clean_RB piv hs.rb (B:=119125776) (fun p hp j hj=>by rw [oat p (by omega)];exact hs.lrb p (by omega) j hj)
 have cK:=clean_keep piv (rowE n e)
 have cS:=fun (t:Nat) (ht:t < l.length)=>clean_succ (n:=n) (out:=out) (rowE n e) (t:=t) (by omega)
 have hfin:cleanR n out (rowE n e)=cleanR n (out.take l.length) (rowE n e):=by rw [<- ol,List.take_length]
 rw [hfin]
 have z0:cleanR n (out.take 0) (rowE n e)=rowE n e:=by rw [List.take_zero];rfl
 generalize hR:(fun t=>cleanR n (out.take t) (rowE n e))=R at *
 have hRt:∀ t,cleanR n (out.take t) (rowE n e)=R t:=fun t=>by rw [<- hR]
 simp only [hRt] at cB cK cS z0 ⊢
 clear hRt
 have kb:∀ k off s,a=some ⟨k,off,s⟩ -> k < N:=fun k off s ea=>by
  obtain ⟨k1,f1,B1,e1,h1,_⟩:=rq_at hl n0
  rw [ea] at e1
  cases e1
  exact hN _ _ h1
 have gN:(N+0=N)=True:=eq_true rfl
 have g1:(N+1=N)=False:=eq_false (by omega)
 have g2:(N=N+1)=False:=eq_false (by omega)
 have ecs':=ecs
 clear ecs
 simp only [c93,G0,Nat.reduceAdd]
 simp only [↓R0,R1,simprocAttr,-Int.reduceAbs,c5l,c5o]
 refine lp_parts (fun c' tm hp nx=>∃ (i M:Nat) (rv:List Value) (d:EqR),c'+i=l.length /\ tmget tm 1 = .slice b l.length dd /\ tmget tm 2 = .pointer (some ⟨N,0,none⟩) /\ tmget tm 4 = .pointer (some ⟨N+1,0,none⟩) /\ tmget tm 5 = .int .i64 i /\
   (∃ x,hget hp N=some ⟨40,5,x,rv⟩) /\ (∃ x,hget hp (N+1)=some ⟨40,5,x,[.slice none 0 0,.bool false,.string ⟨⟨[]⟩⟩,.string ⟨⟨[]⟩⟩,.int .i64 0]⟩) /\ HdE M n hp rv d /\ (∀ j,j <= n -> rowE n d j=R i j) /\ eqOk d 8589934591 /\
   (0 < i -> ∃ kr y,rv = .slice (some ⟨kr,0,none⟩) n n :: (canE n (R i)).tl /\ hget hp kr=some ⟨38,3,y,rqs (fq (R i) n)⟩ /\ N+2 <= kr) /\ ExtL N h hp /\ N+2 <= M /\ nx=M+0) ?_ l.length
  ⟨0,N+2,cs,e,by omega,?_,?_,?_,?_,?_,?_,⟨a,cc,ecs',hn,fun k off s ea=>by have:=kb k off s ea;omega,fun hp' he=>ext_rats hN hl (fun q hq=>by
   have nb:∀ d,(N+d=q)=False:=fun d=>eq_false (by omega)
   rw [he q (by omega)]
   simp only [↓R0,R1,simprocAttr,-Int.reduceAbs,nb])⟩,fun j hj=>by rw [z0],hs.ok,fun h0=>absurd h0 (Nat.lt_irrefl 0),?_,Nat.le_refl _,rfl⟩
 rotate_left
 all_goals first | (simp only [↓R0,R1,simprocAttr,-Int.reduceAbs];done) | (simp only [↓R0,R1,simprocAttr,-Int.reduceAbs];rfl) | (refine ⟨true,?_⟩;simp only [↓R0,R1,simprocAttr,-Int.reduceAbs,gN,g1,g2];done) | skip
 ·intro q hq
  have nb:∀ d,(N+d=q)=False:=fun d=>eq_false (by omega)
  simp only [↓R0,R1,simprocAttr,-Int.reduceAbs,nb]
 rintro c' tm hp nx ⟨i,M,rv,d,hci,t1,t2,t4,t5,⟨x1,bA⟩,⟨x2,bB⟩,⟨ad,cd,erv,hdn,hdb,hdl⟩,hdR,hdo,hkr,hh,hM,hnx⟩
 rw [hnx]
 clear hnx nx
 have r5l:rv.length=5:=by rw [erv];rfl
 have r5o:rv.all okCell=true:=by rw [erv];rfl
 have r5t:rv.take 5=rv:=List.take_of_length_le (by omega)
 have r50:rv[0]?=some (.slice ad n cd):=by rw [erv];rfl
 have r5s:setR [.slice none 0 0,.bool false,.string ⟨⟨[]⟩⟩,.string ⟨⟨[]⟩⟩,.int .i64 0] 0 rv=rv:=by
  match rv,r5l with
  | [_,_,_,_,_],_=>rfl
 have nbq:∀ q,q < N -> ∀ d,(M+d=q)=False:=fun q hq d=>eq_false (by omega)
 by_cases c1:i < l.length
 case neg=>
  have ei:i=l.length:=by omega
  obtain ⟨kr,y,rfl,bk,hk⟩:=hkr (by omega)
  rw [ei] at bk t5
  unfold eqNL
  rw [if_neg (by omega)]
  have c1':((l.length:Int) < (l.length:Int))=False:=eq_false (by omega)
  have y1:(N+1=kr)=False:=eq_false (by omega)
  rw [ei] at r5l r5o r5t r5s bA
  generalize hCE:Value.slice (some ⟨kr,0,none⟩) n n :: (canE n (R l.length)).tl=CE at *
  simp only [↓R0,R1,simprocAttr,-Int.reduceAbs,t1,t2,t4,t5,c1',bA,bB,r5l,r5o,r5t,r5s,g1,g2,FinL,isEnd,resL,res1]
  refine ⟨fun _=>kr,_,fun i hi=>(by omega:N <= kr),fun i j (hi:i < 1) (hj:j < 1) _=>by omega,rfl,by rw [<- hCE];rfl,fun i hi=>⟨y,?_⟩,fun q hq=>?_⟩
  ·simp only [↓R0,R1,simprocAttr,-Int.reduceAbs,y1]
   exact bk
  ·have nb:∀ d,(N+d=q)=False:=fun d=>eq_false (by omega)
   simp only [↓R0,R1,simprocAttr,-Int.reduceAbs,nb]
   exact hh q hq
 have c1':((i:Int) < (l.length:Int))=True:=eq_true (by omega)
 have w1:IntKind.i64.wrap ((i:Int)+1)=((i+1:Nat):Int):=by rw [i64_in _ (by omega)];omega
 obtain ⟨k,off,blk,a',n',c'',rfl,hb,q1,q2,hn',hl'⟩:=eq_at hy c1
 have hk:=hN _ _ hb
 have hbb:hget hp k=some blk:=by rw [hh k hk];exact hb
 have nk:=nbq k hk
 have hem:=eqAt_mem c1
 have hln:=hs.len _ hem
 have hn'':n'=n:=hn'.trans hln
 subst hn''
 have ld:leadN n' (qsV (eqAt l i).coef)=leadN n' (rowAt out i):=by
  rw [oat i c1]
  exact lead_congr fun j hj=>(rowE_lt hj).symm
 obtain ⟨kk,hkk⟩:∃ kk,kk=leadN n' (rowAt out i):=⟨_,rfl⟩
 have kkn:kk < n':=by rw [hkk];exact piv.lt i (by omega)
 have hE5:(blk.cells.drop (off+i * 5))[0]?=some (.slice a' n' c''):=by
  rw [show (blk.cells.drop (off+i * 5))[0]?=((blk.cells.drop (off+i * 5)).take 5)[0]? by rw [List.getElem?_take,if_pos (by omega)],q2];rfl
 rw [List.getElem?_drop] at hE5
 have le:∀ {hp':Heap},ExtL N h hp' -> spLead [.slice a' n' c''] hp'=some (.int .i64 kk):=fun he=>by
  have:=lead_of (ext_rats hN hl' he) (by omega) (fun q hq=>⟨by have:=((hs.lok _ hem).1 q hq).1;omega,by have:=((hs.lok _ hem).1 q hq).2;omega⟩)
  rw [hln,ld,<- hkk] at this;exact this
 obtain ⟨k1,f1,B1,ead,b1,q3,q4⟩:=rq_at (hdl hp (fun _ _=>rfl)) kkn
 have hk1:=hdb _ _ _ ead
 subst ead
 have nk1:∀ d,(M+d=k1)=False:=fun d=>eq_false (by omega)
 have okq:(rqAt d.coef kk).ok 8589934592:=by
  have:=hdo.1 _ (rqAt_mem (i:=kk) (by omega))
  exact ⟨by have:=this.1;omega,by have:=this.2;omega⟩
 obtain ⟨F,hF⟩:∃ F,F=timesF (eqAt l i) (rqAt d.coef kk):=⟨_,rfl⟩
 have Fv:∀ j,j <= n' -> F j=rowAt out i j * R i kk:=fun j hj=>by
  rw [hF]
  unfold timesF
  rw [hln,oat i c1,<- hdR kk (by omega),rowE_lt kkn];rfl
 have Rk:R i kk=rowE n' e kk:=by
  have:=cK i (by omega) i (Nat.le_refl _) (by omega)
  rw [<- hkk] at this;exact this
 have FRB:∀ j,j <= n' -> RB (F j) (119125776+6):=fun j hj=>by
  rw [Fv j hj,Rk,oat i c1]
  exact (hs.lrb i c1 j hj).mul (hs.rb kk (by omega)) (Nat.le_refl _)
 have ti:∀ {hp':Heap},ExtL N h hp' -> spTimes [.agg ⟨Value.slice a' n' c'' :: (eqAt l i).tl⟩,.agg ⟨(rqAt d.coef kk).cells⟩] hp'=some ⟨1,fun σ => .agg ⟨.slice (some ⟨σ 0,0,none⟩) n' n' :: (canE n' F).tl⟩,fun _=>38,fun _=>3,fun _ _=>rqs (fq F n')⟩:=fun he=>by
  rw [times_of (decEq_of (ext_rats hN hl' he)) hln (by omega) ⟨fun q hq=>⟨by have:=((hs.lok _ hem).1 q hq).1;omega,by have:=((hs.lok _ hem).1 q hq).2;omega⟩,by have:=(hs.lok _ hem).2.1;omega,by have:=(hs.lok _ hem).2.2;omega⟩ okq,<- hF]
  unfold eqNL
  rw [if_neg (by omega)]
 have Rn:∀ j,j <= n' -> lessF d (canE n' F) j=R (i+1) j:=fun j hj=>by
  rw [cS i c1]
  unfold lessF clean1
  rw [hdn,rowE_can hj,hdR j hj,Fv j hj,<- hkk]
 have li:∀ {hp':Heap},hget hp' (M+0)=some ⟨38,3,false,rqs (fq F n')⟩ -> ExtL M hp hp' -> spLess24 [.agg ⟨rv⟩,.agg ⟨Value.slice (some ⟨M+0,0,none⟩) n' n' :: (canE n' F).tl⟩] hp'=some ⟨1,fun σ => .agg ⟨.slice (some ⟨σ 0,0,none⟩) n' n' :: (canE n' (R (i+1))).tl⟩,fun _=>38,fun _=>3,fun _ _=>rqs (fq (R (i+1)) n')⟩:=fun hb he=>by
  rw [erv,less_of (decEq_of (hdl _ he)) (can_dec hb (by omega)) hdn (fq_len _ _) (by omega) hdo (canE_ok fun j hj=>(FRB j hj).le (by omega)),eqNL_congr Rn]
  unfold eqNL
  rw [if_neg (by omega)]
 have xs:=fun j b hp'=>extL_ge (show N <= M by omega) j b h hp'
 have xh:ExtL N h hp=True:=eq_true hh
 have xm:=fun j b=>extL_cons M j b hp
 have xm0:ExtL M hp hp=True:=eq_true fun _ _=>rfl
 have e5l:(Value.slice a' n' c'' :: (eqAt l i).tl).length=5:=rfl
 have e5o:(Value.slice a' n' c'' :: (eqAt l i).tl).all okCell=true:=rfl
 have p1:(rqAt d.coef kk).cells.length=3:=rfl
 have p2:(rqAt d.coef kk).cells.all okCell=true:=rfl
 have kk':((kk:Int) < (n':Int))=True:=eq_true (by omega)
 have hs5:∀ v:List Value,v.length=5 -> setR rv 0 v=v:=fun v hv=>by
  match rv,r5l,v,hv with
  | [_,_,_,_,_],_,[_,_,_,_,_],_=>rfl
 have st:=hs5 (Value.slice (some ⟨M+1,0,none⟩) n' n' :: (canE n' (R (i+1))).tl) rfl
 have nw5:(Value.slice (some ⟨M+1,0,none⟩) n' n' :: (canE n' (R (i+1))).tl).length=5:=rfl
 have nw5o:(Value.slice (some ⟨M+1,0,none⟩) n' n' :: (canE n' (R (i+1))).tl).all okCell=true:=rfl
 have v0:∀ d,(M+d=N)=False:=fun d=>eq_false (by omega)
 have v1:∀ d,(N=M+d)=False:=fun d=>eq_false (by omega)
 have v2:∀ d,(M+d=N+1)=False:=fun d=>eq_false (by omega)
 have v3:∀ d,(N+1=M+d)=False:=fun d=>eq_false (by omega)
 have m00:M+0+0=M+0:=rfl
 have m10:M+1+0=M+1:=rfl
 have nwT:∀ (args:List Value) (hp:Heap) (k:Nat),nwL spTimes args hp k=(spTimes args hp).map fun r=>(r.val (k+·),newH r (k+·) r.m,r.m):=fun _ _ _=>rfl
 have nwS:∀ (args:List Value) (hp:Heap) (k:Nat),nwL spLess24 args hp k=(spLess24 args hp).map fun r=>(r.val (k+·),newH r (k+·) r.m,r.m):=fun _ _ _=>rfl
 generalize hNV:Value.slice (some ⟨M+1,0,none⟩) n' n' :: (canE n' (R (i+1))).tl=NV at *
 generalize hC5:Value.slice a' n' c'' :: (eqAt l i).tl=C5 at *
 generalize (rqAt d.coef kk).cells=PC at *
 simp only [↓R0,R1,simprocAttr,-Int.reduceAbs,rdS,t1,t2,t4,t5,c1,c1',bA,bB,hbb,nk,q1,q2,hE5,le,b1,nk1,q3,q4,kkn,kk',ti,li,nwT,nwS,newHL1,m00,m10,hNV,st,nw5,nw5o,e5l,e5o,p1,p2,r5l,r5o,r5t,r50,xs,xh,xm,xm0,v0,v1,v2,v3,g1,g2,w1]
 have g0:hget ((N,some ⟨40,5,x1,NV⟩) :: (M+1,some ⟨38,3,false,rqs (fq (R (i+1)) n')⟩) :: (M+0,some ⟨38,3,false,rqs (fq F n')⟩) :: hp) (M+1)=some ⟨38,3,false,rqs (fq (R (i+1)) n')⟩:=by
  simp only [↓R0,R1,simprocAttr,-Int.reduceAbs,v0,v1]
 refine ⟨c' - 1,by omega,i+1,M+2,NV,canE n' (R (i+1)),by omega,rfl,⟨_,rfl⟩,⟨_,rfl⟩,⟨some ⟨M+1,0,none⟩,n',hNV.symm,fq_len _ _,fun k off s e=>by cases e;omega,fun hp' he=>rqs_list (by rw [he (M+1) (by omega)];exact g0) (fq_len _ _) (by omega)⟩,fun j hj=>rowE_can hj,canE_ok (fun j hj=>(cB (i+1) (by omega) j hj).le (by have:(i+1) * (6+119125776+1) <= 8 * (6+119125776+1):=Nat.mul_le_mul_right _ (by omega);omega)),fun _=>⟨M+1,false,hNV.symm,?_,by omega⟩,fun q hq=>?_,by omega,rfl⟩
 ·simp only [↓R0,R1,simprocAttr,-Int.reduceAbs,v0,v1]
 ·have nb:=nbq q hq
  have nN:(N=q)=False:=eq_false (by omega)
  simp only [↓R0,R1,simprocAttr,-Int.reduceAbs,nb,nN]
  exact hh q hq
end Go.Eng
end
section
set_option maxRecDepth 20000
namespace Go.Eng
open Go Go.Proofs Go.IntWalk
def spR3From:List Value -> Option Value
 | [.int .i64 x]=>if -1000 <= x /\ x <= 1000 then some (.agg ⟨rE (x:Rat)⟩) else none
 | _=>none
def c21:ICode:=
 (.seq (.reg [qq 2 (.alloc 38 3 [(.bool false),e0,e0])]) (.seq (.reg [qq 6 (.mv (.t 0)),qq 7 (.call 47 [(.t 6)]),qq 8 (.call 48 []),qq 9 (.call 42 [(.t 7),(.t 8)]),qq 5 (.mv (.t 9)),qq 10 (.ext (.t 5) 0),qq 11 (.ext (.t 5) 1),qq 3 (.alloc 38 3 [(.bool false),e0,e0]),qn (.store 3 (.t 3) (.t 10)),qq 4 (.mv (.t 11))]) (.seq (.reg [qq 12 (.load true 3 (.t 3)),qn (.store 3 (.t 2) (.t 12))]) .ret)))
theorem tr21:trFun Tryz.prog 21=some ⟨13,[.cell 2 true 3],c21⟩:=by kernel_rfl
theorem ok_r3From:SpecOK Tryz.prog 21 (flat spR3From):=by
 refine flat_run (env_cons ok_r2From (env_cons ok_r3one (env_cons ok_r3Make (env_nil _)))) mixed tr21 ?_
 intro args v h N hG
 unfold spR3From at hG
 split at hG
 case h_2=>cases hG
 rename_i x
 split at hG
 case isFalse=>cases hG
 rename_i hl
 obtain ⟨h1,h2⟩:=hl
 cases hG
 refine ⟨rfl,by simp,?_⟩
 have g:-9223372036854775808 <= x /\ x <= 9223372036854775807:=⟨by omega,by omega⟩
 have o1:sv false (bl (Int.natAbs 1))=1:=by rw [sv_false,nl_bl];rfl
 have o2:(bl (Int.natAbs 1)).length <= 68719476736:=Nat.le_trans (bl_length_le (k:=1).2 (by decide)) (by omega)
 have o3:¬ (Int.natAbs 1=0):=by decide
 have o4:(bl x.natAbs).length <= 68719476736:=Nat.le_trans (bl_length_le (k:=2).2 (by omega)) (by omega)
 rw [<- divInt_one]
 simp only [c21,G0,Nat.reduceAdd]
 simp only [↓R0,R1,simprocAttr,-Int.reduceAbs,spI2From,spOne,spR3Make,g,o1,o2,o3,o4,sv_can,nl_bl,Fin,isEnd,resL,res1,iE,rE]
 exact ⟨_,rfl,rfl,fun k hk=>by simp only [ne_nb hk,if_false]⟩
theorem div3 {x y:Rat} {i j:Nat} (hx:RB x i) (hy:RB y j) (hi:i <= 8589934592) (hj:j <= 8589934592) (h0:y ≠ 0):spR3Div [.agg ⟨(RQ.of x).cells⟩,.agg ⟨(RQ.of y).cells⟩]=some (.tuple ⟨[.agg ⟨(RQ.of (x / y)).cells⟩,.bool true]⟩):=by
 have nz:¬ nl (RQ.of y).n=0:=by
  show ¬ nl (bl y.num.natAbs)=0
  rw [nl_bl]
  intro e
  exact h0 (Rat.num_eq_zero.1 (by omega))
 have h:spR3Div [.agg ⟨(RQ.of x).cells⟩,.agg ⟨(RQ.of y).cells⟩]=_:=if_pos ⟨hx.num hi,hx.den hi,hy.num hj,hy.den hj⟩
 rw [h,if_neg nz]
 show some (Value.tuple ⟨[.agg ⟨rE ((RQ.of x).v / (RQ.of y).v)⟩,.bool true]⟩)=_
 rw [RQ.of_v,RQ.of_v];rfl
theorem cleanR_congr {n:Nat}:∀ {out out':List Row},out.length=out'.length -> (∀ p,p < out.length -> ∀ j,j <= n -> rowAt out p j=rowAt out' p j) -> ∀ {r r':Row},(∀ j,j <= n -> r j=r' j) -> ∀ j,j <= n -> cleanR n out r j=cleanR n out' r' j
 | [],[],_,_,r,r',hr,j,hj=>hr j hj
 | [],_ :: _,hl,_,_,_,_,_,_=>by simp at hl
 | _ :: _,[],hl,_,_,_,_,_,_=>by simp at hl
 | o :: out,o' :: out',hl,ho,r,r',hr,j,hj=>by
  have h0:∀ j,j <= n -> o j=o' j:=ho 0 (by simp)
  have le:leadN n o=leadN n o':=lead_congr fun j hj=>h0 j (by omega)
  show cleanR n out (clean1 n r o) j=cleanR n out' (clean1 n r' o') j
  refine cleanR_congr (by simpa using hl) (fun p hp=>ho (p+1) (by simpa using hp)) (fun i hi=>?_) j hj
  unfold clean1
  rw [hr i hi,h0 i hi,<- le,hr _ (leadN_le n o)]
theorem piv_len {n:Nat} {out:List Row} (H:PInv n out):out.length <= n:=
 inj_le out.length n (fun p=>leadN n (rowAt out p)) H.lt fun p q hp hq e=>Classical.byContradiction fun c=>by
  have a:=H.col p q hp hq (fun x=>c x.symm)
  have b:=H.one q hq
  have e':leadN n (rowAt out p)=leadN n (rowAt out q):=e
  rw [e',b] at a
  exact absurd a (by decide)
theorem PInv.congr {n:Nat} {out out':List Row} (H:PInv n out) (hl:out'.length=out.length) (h:∀ p,p < out.length -> ∀ j,j <= n -> rowAt out' p j=rowAt out p j):PInv n out':=by
 have le:∀ p,p < out.length -> leadN n (rowAt out' p)=leadN n (rowAt out p):=fun p hp=>lead_congr fun j hj=>h p hp j (by omega)
 refine ⟨fun p hp=>by rw [le p (by omega)];exact H.lt p (by omega),fun p hp=>?_,fun p q hp hq hqp=>?_⟩
 ·rw [le p (by omega),h p (by omega) _ (leadN_le n _)];exact H.one p (by omega)
 ·rw [le p (by omega),h q (by omega) _ (leadN_le n _)];exact H.col p q (by omega) (by omega) hqp
def rB (p:Nat):Nat:=6+p * (6+oB p+1)
theorem oB_s (p:Nat):oB (p+1)=2 * oB p+2 * rB p+2:=by
 show 2 * oB p+2 * (6+p * (7+oB p))+2=_
 unfold rB
 rw [show 6+oB p+1=7+oB p by omega]
theorem rB_le {p:Nat} (h:p <= 8):rB p <= 953006270:=by
 have:=oB_le p h
 have:p * (6+oB p+1) <= 8 * (6+119125776+1):=Nat.mul_le_mul h (by omega)
 unfold rB;omega
def RdB (n:Nat) (out:List Row):Prop:=∀ p,p < out.length -> ∀ j,j <= n -> RB (rowAt out p j) (oB out.length)
theorem step_RB {n:Nat} {s:List Row × Bool} (H:PInv n s.1) (hB:RdB n s.1) {row:Row} (hr:∀ j,j <= n -> RB (row j) 6):RdB n (refStep n s row).1:=by
 unfold refStep
 simp only
 split
 ·exact hB
 ·rename_i hk
  have hkn:leadN n (cleanR n s.1 row) < n:=by have:=leadN_le n (cleanR n s.1 row);omega
  have nz:=leadN_ne hkn
  have cB:=clean_RB H hr hB s.1.length (Nat.le_refl _)
  rw [List.take_length] at cB
  have cB:∀ j,j <= n -> RB (cleanR n s.1 row j) (rB s.1.length):=cB
  generalize cleanR n s.1 row=r at *
  have R1:∀ j,j <= n -> RB (r j * (1 / r (leadN n r))) (2 * rB s.1.length+1):=fun j hj=>
   (cB j hj).mul (RB.one.div (cB _ (by omega)) (by unfold rB;omega) (k:=1+rB s.1.length) (Nat.le_refl _)) (by omega)
  have ln:(s.1.map (fun o j=>o j - r j * (1 / r (leadN n r)) * o (leadN n r)) ++ [fun j=>r j * (1 / r (leadN n r))]).length=s.1.length+1:=by simp
  intro p hp j hj
  rw [ln] at hp ⊢
  rw [oB_s]
  by_cases e:p=s.1.length
  ·rw [e,rowAt_last (f:=fun o j=>o j - r j * (1 / r (leadN n r)) * o (leadN n r))]
   exact (R1 j hj).le (by omega)
  ·rw [rowAt_map (f:=fun o j=>o j - r j * (1 / r (leadN n r)) * o (leadN n r)) (by omega)]
   exact (hB p (by omega) j hj).sub ((R1 j hj).mul (hB p (by omega) _ (by omega)) (Nat.le_refl _)) (by omega)
def PV (k n:Nat) (f:Row):List Value:=.slice (some ⟨k,0,none⟩) n n :: (canE n f).tl
theorem PV_len (k n:Nat) (f:Row):(PV k n f).length=5:=rfl
theorem PV_ok (k n:Nat) (f:Row):(PV k n f).all okCell=true:=rfl
theorem PV_tk (k n:Nat) (f:Row):(PV k n f).take 5=PV k n f:=rfl
theorem PV_0 (k n:Nat) (f:Row):(PV k n f)[0]?=some (.slice (some ⟨k,0,none⟩) n n):=rfl
theorem PV_1 (k n:Nat) (f:Row):((PV k n f).drop 1).take 3=(RQ.of (f n)).cells:=rfl
theorem PV_z (k n:Nat) (f:Row):setR [.slice none 0 0,.bool false,.string ⟨⟨[]⟩⟩,.string ⟨⟨[]⟩⟩,.int .i64 0] 0 (PV k n f)=PV k n f:=rfl
theorem PV_s (k n k':Nat) (f g:Row):setR (PV k n f) 0 (PV k' n g)=PV k' n g:=rfl
theorem PV_congr {k n:Nat} {f g:Row} (h:∀ j,j <= n -> f j=g j):PV k n f=PV k n g:=by unfold PV;rw [canE_congr h]
def pvF (ρ:Nat -> Nat) (n:Nat) (Rw:Nat -> Row) (j:Nat):List Value:=PV (ρ j) n (Rw j)
structure EqH (hp:Heap) (lo hi kO n p:Nat) (ρ:Nat -> Nat) (Rw:Nat -> Row):Prop where
 hd:∃ x,hget hp kO=some ⟨40,5,x,blkC (pvF ρ n Rw) p⟩
 row:∀ j,j < p -> ∃ y,hget hp (ρ j)=some ⟨38,3,y,rqs (fq (Rw j) n)⟩
 inj:∀ i j,i < p -> j < p -> ρ i=ρ j -> i=j
 ne:∀ j,j < p -> ρ j ≠ kO
 bd:∀ j,j < p -> lo <= ρ j /\ ρ j < hi
 kb:lo <= kO /\ kO < hi
theorem EqH.mono {hp hp':Heap} {lo hi hi' kO n p:Nat} {ρ:Nat -> Nat} {Rw:Nat -> Row} (H:EqH hp lo hi kO n p ρ Rw) (hh:hi <= hi') (he:∀ q,lo <= q -> q < hi -> hget hp' q=hget hp q):EqH hp' lo hi' kO n p ρ Rw where
 hd:=by obtain ⟨x,h⟩:=H.hd;exact ⟨x,by rw [he kO H.kb.1 H.kb.2];exact h⟩
 row:=fun j hj=>by obtain ⟨y,h⟩:=H.row j hj;exact ⟨y,by rw [he _ (H.bd j hj).1 (H.bd j hj).2];exact h⟩
 inj:=H.inj
 ne:=H.ne
 bd:=fun j hj=>by have:=H.bd j hj;omega
 kb:=by have:=H.kb;omega
theorem EqH.congr {hp:Heap} {lo hi kO n p:Nat} {ρ:Nat -> Nat} {Rw Rw':Nat -> Row} (H:EqH hp lo hi kO n p ρ Rw) (h:∀ j,j < p -> ∀ i,i <= n -> Rw' j i=Rw j i):EqH hp lo hi kO n p ρ Rw' where
 hd:=by
  obtain ⟨x,e⟩:=H.hd
  refine ⟨x,?_⟩
  rw [e,blkC_congr (f:=pvF ρ n Rw) (g:=pvF ρ n Rw') fun j hj=>PV_congr fun i hi=>(h j hj i hi).symm]
 row:=fun j hj=>by obtain ⟨y,e⟩:=H.row j hj;exact ⟨y,by rw [e,fq_congr fun i hi=>(h j hj i (by omega)).symm]⟩
 inj:=H.inj
 ne:=H.ne
 bd:=H.bd
 kb:=H.kb
def updW (Rw:Nat -> Row) (i:Nat) (f:Row):Nat -> Row:=fun q=>if q=i then f else Rw q
theorem updW_eq (Rw:Nat -> Row) (i:Nat) (f:Row):updW Rw i f i=f:=if_pos rfl
theorem updW_ne {Rw:Nat -> Row} {i j:Nat} {f:Row} (h:j ≠ i):updW Rw i f j=Rw j:=if_neg h
theorem EqH.upd {hp hp':Heap} {lo hi hi' kO n p i kN:Nat} {ρ:Nat -> Nat} {Rw:Nat -> Row} {f:Row} (H:EqH hp lo hi kO n p ρ Rw) (hi1:i < p) (hh:hi <= kN) (hk:kN < hi') {x y:Bool}
  (h1:hget hp' kO=some ⟨40,5,x,setR (blkC (pvF ρ n Rw) p) (i * 5) (PV kN n f)⟩) (h2:hget hp' kN=some ⟨38,3,y,rqs (fq f n)⟩) (he:∀ q,lo <= q -> q < hi -> q ≠ kO -> hget hp' q=hget hp q) :
  EqH hp' lo hi' kO n p (updN ρ i kN) (updW Rw i f) where
 hd:=by
  refine ⟨x,?_⟩
  rw [h1]
  have:=blkC_set (f:=pvF ρ n Rw) (w:=5) (o:=0) (xs:=PV kN n f) (n:=p) (j:=i) (by rw [PV_len];omega) (fun _ _=>rfl) hi1
  rw [Nat.add_zero] at this
  rw [this]
  refine congrArg (fun c=>some (⟨40,5,x,c⟩:Blk)) (blkC_congr fun q hq=>?_)
  unfold pvF
  by_cases e:q=i
  ·rw [e,if_pos rfl,updW_eq,updN_eq];rfl
  ·rw [if_neg e,updW_ne e,updN_ne e]
 row:=fun j hj=>by
  by_cases e:j=i
  ·rw [e,updW_eq,updN_eq];exact ⟨y,h2⟩
  ·rw [updW_ne e,updN_ne e]
   obtain ⟨z,h⟩:=H.row j hj
   exact ⟨z,by rw [he _ (H.bd j hj).1 (H.bd j hj).2 (H.ne j hj)];exact h⟩
 inj:=fun a b ha hb e=>by
  by_cases ea:a=i
  ·by_cases eb:b=i
   ·rw [ea,eb]
   ·rw [ea,updN_eq,updN_ne eb] at e
    have:=(H.bd b hb).2;omega
  ·by_cases eb:b=i
   ·rw [eb,updN_eq,updN_ne ea] at e
    have:=(H.bd a ha).2;omega
   ·rw [updN_ne ea,updN_ne eb] at e;exact H.inj a b ha hb e
 ne:=fun j hj=>by
  by_cases e:j=i
  ·rw [e,updN_eq];have:=H.kb;omega
  ·rw [updN_ne e];exact H.ne j hj
 bd:=fun j hj=>by
  by_cases e:j=i
  ·rw [e,updN_eq];have:=H.kb;omega
  ·rw [updN_ne e];have:=H.bd j hj;omega
 kb:=by have:=H.kb;omega
theorem EqH.push {hp hp':Heap} {lo hi hi' kO n p kN kr:Nat} {ρ:Nat -> Nat} {Rw Rw':Nat -> Row} {f:Row} (H:EqH hp lo hi kO n p ρ Rw) (hk:hi <= kN) (hk':kN < hi') (hr:hi <= kr) (hr':kr < hi') (hne:kr ≠ kN) {x y:Bool}
  (h1:hget hp' kN=some ⟨40,5,x,blkC (pvF ρ n Rw) p ++ PV kr n f⟩) (h2:hget hp' kr=some ⟨38,3,y,rqs (fq f n)⟩) (he:∀ q,lo <= q -> q < hi -> q ≠ kO -> hget hp' q=hget hp q)
  (hw:∀ j,j < p -> Rw' j=Rw j) (hw':Rw' p=f):EqH hp' lo hi' kN n (p+1) (updN ρ p kr) Rw' where
 hd:=by
  refine ⟨x,?_⟩
  rw [h1]
  refine congrArg (fun c=>some (⟨40,5,x,c⟩:Blk)) ?_
  rw [blkC]
  congr 1
  ·exact blkC_congr fun q hq=>by unfold pvF;rw [updN_ne (by omega),hw q hq]
  ·unfold pvF;rw [updN_eq,hw']
 row:=fun j hj=>by
  by_cases e:j=p
  ·rw [e,updN_eq,hw'];exact ⟨y,h2⟩
  ·rw [updN_ne e,hw j (by omega)]
   obtain ⟨z,h⟩:=H.row j (by omega)
   exact ⟨z,by rw [he _ (H.bd j (by omega)).1 (H.bd j (by omega)).2 (H.ne j (by omega))];exact h⟩
 inj:=fun a b ha hb e=>by
  by_cases ea:a=p
  ·by_cases eb:b=p
   ·rw [ea,eb]
   ·rw [ea,updN_eq,updN_ne eb] at e
    have:=(H.bd b (by omega)).2;omega
  ·by_cases eb:b=p
   ·rw [eb,updN_eq,updN_ne ea] at e
    have:=(H.bd a (by omega)).2;omega
   ·rw [updN_ne ea,updN_ne eb] at e;exact H.inj a b (by omega) (by omega) e
 ne:=fun j hj=>by
  by_cases e:j=p
  ·rw [e,updN_eq];exact hne
  ·rw [updN_ne e];have:=(H.bd j (by omega)).2;omega
 bd:=fun j hj=>by
  by_cases e:j=p
  ·rw [e,updN_eq];have:=H.kb;omega
  ·rw [updN_ne e];have:=H.bd j (by omega);omega
 kb:=by have:=H.kb;omega
def canL (n p:Nat) (Rw:Nat -> Row):List EqR:=(List.range p).map fun j=>canE n (Rw j)
theorem canL_len (n p:Nat) (Rw:Nat -> Row):(canL n p Rw).length=p:=by unfold canL;rw [List.length_map,List.length_range]
theorem canL_at {n p j:Nat} {Rw:Nat -> Row} (h:j < p):eqAt (canL n p Rw) j=canE n (Rw j):=by
 unfold eqAt canL
 rw [List.getElem?_map,List.getElem?_range h];rfl
theorem EqH.rows {hp:Heap} {lo hi kO n p:Nat} {ρ:Nat -> Nat} {Rw:Nat -> Row} (H:EqH hp lo hi kO n p ρ Rw) (h0:0 < p -> 0 < n):decRows hp (.slice (some ⟨kO,0,none⟩) p p)=some (canL n p Rw):=by
 obtain ⟨x,hb⟩:=H.hd
 refine rows_blk hb (canL_len _ _ _) fun i hi=>?_
 obtain ⟨y,hr⟩:=H.row i hi
 rw [canL_at hi]
 exact ⟨_,rfl,rqs_list hr (fq_len _ _) (h0 (by omega))⟩
def redNL (n : Nat) (s : List Row × Bool) : NewL :=
  ⟨1 + s.1.length, fun σ => .tuple ⟨[.slice (some ⟨σ 0, 0, none⟩) s.1.length s.1.length, .bool s.2]⟩,
   fun i => if i = 0 then 40 else 38, fun i => if i = 0 then 5 else 3,
   fun σ i => if i = 0 then blkC (pvF (fun j => σ (j + 1)) n (rowAt s.1)) s.1.length else rqs (fq (rowAt s.1 (i - 1)) n)⟩
theorem redNL_par (n:Nat) (s:List Row × Bool) (h:Heap):(redNL n s).Par h:=by
 refine ⟨fun β σ σ' b1 _ => .tup _ _ (.cons _ _ _ _ (VR.sl (σ 0) 0 _ _ ⟨σ' 0,0,[]⟩ (b1 0 (by show 0 < 1+_;omega))) (.cons _ _ _ _ (.base _ rfl) .nil)),fun β σ σ' b1 _ i hi=>?_⟩
 show VRs β (if i=0 then _ else _) (if i=0 then _ else _)
 split
 ·have key:∀ p,p <= s.1.length -> VRs β (blkC (pvF (fun j=>σ (j+1)) n (rowAt s.1)) p) (blkC (pvF (fun j=>σ' (j+1)) n (rowAt s.1)) p):=by
   intro p
   induction p with
   | zero=>intro _;exact .nil
   | succ p ih=>
    intro hp
    exact VRs.append (ih (by omega)) (.cons _ _ _ _ (VR.sl (σ (p+1)) 0 _ _ ⟨σ' (p+1),0,[]⟩ (b1 (p+1) (by show p+1 < 1+_;omega))) (VRs.of_base rfl))
  exact key _ (Nat.le_refl _)
 ·exact VRs.of_base (rqs_base _)
def RedOK (n:Nat) (l:List EqR):Prop:=n <= 8 /\ l.length <= 100 /\ (∀ e ∈ l,e.coef.length=n) /\ ∀ e ∈ l,eqOk e 4
instance {n:Nat} {l:List EqR}:Decidable (RedOK n l):=by unfold RedOK;infer_instance
def spReduced:List Value -> Heap -> Option NewL
 | [.int .i64 n,sl],h=>match decRows h sl with
  | some l=>if 0 <= n /\ RedOK n.toNat l then some (redNL n.toNat (refRed n.toNat (outR n.toNat l))) else none
  | none=>none
 | _,_=>none
theorem red_take {n:Nat} {rows:List Row} {t:Nat} (ht:t < rows.length):refRed n (rows.take (t+1))=refStep n (refRed n (rows.take t)) (rowAt rows t):=by
 have e:rows.take (t+1)=rows.take t ++ [rowAt rows t]:=by rw [List.take_add_one,rowAt_some ht];rfl
 rw [e]
 unfold refRed
 rw [List.foldl_append];rfl
theorem red_piv (n:Nat) (rows:List Row):PInv n (refRed n rows).1:=
 (foldl_ref (n:=n) (X:=fun _=>0) rows ([],true) ⟨fun p hp=>absurd hp (Nat.not_lt_zero p),fun p hp=>absurd hp (Nat.not_lt_zero p),fun p q hp=>absurd hp (Nat.not_lt_zero p)⟩).1
def spRow:List Value -> Heap -> Option ((Nat -> Value) × Blk)
 | [.int .i64 r,.slice (some ⟨k,0,none⟩) 2 2],h=>match hget h k with
  | some ⟨_,_,_,[.int .i64 x,.int .i64 y]⟩=>if (-1000 <= r /\ r <= 1000) /\ (-1000 <= x /\ x <= 1000) /\ -1000 <= y /\ y <= 1000 then
    some (fun k => .agg ⟨eqV k 2 r⟩,⟨38,3,false,ratC [(x:Rat),(y:Rat)]⟩) else none
  | _=>none
 | _,_=>none
theorem r3From_of {x:Int} (h:-1000 <= x /\ x <= 1000):spR3From [.int .i64 x]=some (.agg ⟨rE (x:Rat)⟩):=if_pos (by omega)
def eqV0 (r:Rat):List Value:=.slice none 0 0 :: (eqOf [] r).tl
theorem eqV_b0 (r:Rat):setR [.slice none 0 0,.bool false,.string ⟨⟨[]⟩⟩,.string ⟨⟨[]⟩⟩,.int .i64 0] 1 (rE r)=eqV0 r:=rfl
theorem eqV_s0 (r:Rat):setR [.slice none 0 0,.bool false,.string ⟨⟨[]⟩⟩,.string ⟨⟨[]⟩⟩,.int .i64 0] 0 (eqV0 r)=eqV0 r:=rfl
theorem eqV_g0 (r:Rat):(eqV0 r)[0]?=some (.slice none 0 0):=rfl
theorem eqV_p0 (k n:Nat) (r:Rat):(eqV0 r).set 0 (.slice (some ⟨k,0,none⟩) n n)=eqV k n r:=rfl
theorem eqV_l0 (r:Rat):(eqV0 r).length=5:=rfl
theorem eqV_o0 (r:Rat):(eqV0 r).all okCell=true:=rfl
theorem eqV_g (k n:Nat) (r:Rat):(eqV k n r)[0]?=some (.slice (some ⟨k,0,none⟩) n n):=rfl
theorem eqV_p (k n k' n':Nat) (r:Rat):(eqV k n r).set 0 (.slice (some ⟨k',0,none⟩) n' n')=eqV k' n' r:=rfl
def c25:ICode:=
 (.seq (.reg [qq 4 (.alloc 40 5 [(.slice none 0 0),(.bool false),e0,e0,(.int .i64 0)])]) (.seq (.reg [qq 7 (.mv (.t 0)),qq 8 (.call 21 [(.t 7)]),qq 9 (.build [(.slice none 0 0),(.bool false),e0,e0,(.int .i64 0)] [(1,3,(.t 8))]),qq 5 (.alloc 40 5 [(.slice none 0 0),(.bool false),e0,e0,(.int .i64 0)]),qn (.store 5 (.t 5) (.t 9))]) (.seq (.seq (.reg [qq 6 (.mv (ci 0))]) (.block 0 (.loop (.seq (.seq (.reg [qq 10 (.mv (.t 6)),qq 11 (.mv (.t 1)),qq 12 (.lensl (.t 11)),qq 13 (.bin .lss (.t 10) (.t 12))]) (.cond (.t 13) .skip (.exit 0))) (.seq (.block 1 (.dreg [qu 16 (.faddr 0 (.t 5)),qu 17 (.load false 1 (.t 16)),qu 18 (.mv (.t 1)),qu 19 (.mv (.t 6)),qu 20 (.ixsl 1 (.t 18) (.t 19)),qu 21 (.load false 1 (.t 20)),qu 22 (.call 21 [(.t 21)]),qu 23 (.bslice 38 3 1 [(.bool false),e0,e0] [(0,3,(.t 22))]),qu 24 (.app 38 3 40 (.t 17) (.t 23)),qu 25 (.faddr 0 (.t 5)),qm (.store 1 (.t 25) (.t 24))])) (.reg [qq 14 (.mv (.t 6)),qq 15 (.bin .add (.t 14) (ci 1)),qq 6 (.mv (.t 15))])))))) (.seq (.reg [qq 26 (.load true 5 (.t 5)),qn (.store 5 (.t 4) (.t 26))]) .ret))))
theorem tr25:trFun Tryz.prog 25=some ⟨27,[.cell 4 true 5],c25⟩:=by kernel_rfl
set_option maxHeartbeats 4000000 in
theorem ok_row:SpecOK Tryz.prog 25 (nwS spRow):=by
 refine nw_run (env_cons ok_r3From (env_nil _)) mixed tr25 ?_ ?_
 ·intro args h h' r hle e
  unfold spRow at e ⊢
  split at e
  ·split at e
   ·rename_i b1
    simp only [hle _ _ b1];exact e
   ·cases e
  ·cases e
 intro args vf b h N hG hN
 unfold spRow at hG
 split at hG
 case h_2=>cases hG
 rename_i r k
 split at hG
 case h_2=>cases hG
 rename_i el sz xb x y hb
 split at hG
 case isFalse=>cases hG
 rename_i hl
 cases hG
 have nk:=hN _ _ hb
 refine ⟨rfl,ratC_base _,fun β i j hβ => .agg _ _ (.cons _ _ _ _ (VR.sl i 0 _ _ ⟨j,0,[]⟩ hβ) (VRs.of_base rfl)),by simp,?_⟩
 have Nk:∀ j,(N+j=k)=False:=fun j=>eq_false (by omega)
 have f1:=r3From_of hl.1
 have f2:=r3From_of hl.2.1
 have f3:=r3From_of hl.2.2
 have p1:=eqV_b0 (r:Rat)
 have p2:=eqV_s0 (r:Rat)
 have p3:=eqV_g0 (r:Rat)
 have p4:=fun k n=>eqV_p0 k n (r:Rat)
 have p5:=eqV_l0 (r:Rat)
 have p6:=fun k n=>eqV_g k n (r:Rat)
 have p7:=fun k n k' n'=>eqV_p k n k' n' (r:Rat)
 have p8:=fun k n=>eqV_len k n (r:Rat)
 have p9:=fun k n=>eqV_tk k n (r:Rat)
 have pA:=fun k n=>eqV_s k n (r:Rat)
 have pB:=fun k n=>eqV_ok k n (r:Rat)
 have pC:=eqV_o0 (r:Rat)
 have rc:rE (x:Rat) ++ rE (y:Rat)=ratC [(x:Rat),(y:Rat)]:=rfl
 have t3:∀ q:Rat,(rE q).take 3=rE q:=fun _=>rfl
 have s3:∀ q:Rat,setR [.bool false,.string ⟨⟨[]⟩⟩,.string ⟨⟨[]⟩⟩] 0 (rE q)=rE q:=fun _=>rfl
 generalize (r:Rat)=r' at *
 generalize (x:Rat)=x' at *
 generalize (y:Rat)=y' at *
 generalize eqV0 r'=E0 at *
 simp only [c25,G0,Nat.reduceAdd]
 simp only [↓R0,R1,simprocAttr,-Int.reduceAbs,flat,Nk,hb,f1,f2,f3,setR_length,rE_l3',rE_o3',p1,p2,p3,p4,p5,p6,p7,p8,p9,pA,pB,pC,s3,t3]
 refine lp_step ?_
 simp only [↓R0,R1,simprocAttr,-Int.reduceAbs,flat,Nk,hb,f1,f2,f3,setR_length,rE_l3',rE_o3',p1,p2,p3,p4,p5,p6,p7,p8,p9,pA,pB,pC,s3,t3]
 refine lp_step ?_
 simp only [↓R0,R1,simprocAttr,-Int.reduceAbs,flat,Nk,hb,f1,f2,f3,setR_length,rE_l3',rE_o3',p1,p2,p3,p4,p5,p6,p7,p8,p9,pA,pB,pC,s3,t3,rc]
 refine lp_step ?_
 simp only [↓R0,R1,simprocAttr,-Int.reduceAbs,flat,Nk,hb,f1,f2,f3,setR_length,rE_l3',rE_o3',p1,p2,p3,p4,p5,p6,p7,p8,p9,pA,pB,pC,s3,t3,rc,FinN,isEnd,resL,res1]
 refine ⟨_,N+5,false,rfl,rfl,by omega,?_,fun q hq=>?_⟩
 ·simp only [↓R0,R1,simprocAttr,-Int.reduceAbs]
 ·have nb:∀ d,(N+d=q)=False:=fun d=>eq_false (by omega)
  simp only [↓R0,R1,simprocAttr,-Int.reduceAbs,nb]
def spSame5:List Value -> Heap -> Option Value
 | [.slice a n c,.slice b m d],h=>match listAt 1 decN h (.slice a n c),listAt 1 decN h (.slice b m d) with
  | some l,some l'=>if n <= 1000 /\ m <= 1000 then some (.bool (decide (l=l'))) else none
  | _,_=>none
 | _,_=>none
def c11:ICode:=
 (.seq (.reg [qq 4 (.mv (.c (.bool false)))]) (.seq (.seq (.reg [qq 6 (.mv (.t 0)),qq 7 (.lensl (.t 6)),qq 8 (.mv (.t 1)),qq 9 (.lensl (.t 8)),qq 10 (.bin .neq (.t 7) (.t 9))]) (.cond (.t 10) (.seq (.reg [qq 4 (.mv (.c (.bool false)))]) .ret) .skip)) (.seq (.seq (.reg [qq 5 (.mv (ci 0))]) (.block 0 (.loop (.seq (.seq (.reg [qq 11 (.mv (.t 5)),qq 12 (.mv (.t 0)),qq 13 (.lensl (.t 12)),qq 14 (.bin .lss (.t 11) (.t 13))]) (.cond (.t 14) .skip (.exit 0))) (.seq (.block 1 (.seq (.dreg [qu 17 (.mv (.t 0)),qu 18 (.mv (.t 5)),qu 19 (.ixsl 1 (.t 17) (.t 18)),qu 20 (.load false 1 (.t 19)),qu 21 (.mv (.t 1)),qu 22 (.mv (.t 5)),qu 23 (.ixsl 1 (.t 21) (.t 22)),qu 24 (.load false 1 (.t 23)),qu 25 (.bin .neq (.t 20) (.t 24))]) (.cond (.t 25) (.seq (.reg [qq 4 (.mv (.c (.bool false)))]) .ret) .skip))) (.reg [qq 15 (.mv (.t 5)),qq 16 (.bin .add (.t 15) (ci 1)),qq 5 (.mv (.t 16))])))))) (.seq (.reg [qq 4 (.mv (.c (.bool true)))]) .ret))))
theorem tr11:trFun Tryz.prog 11=some ⟨26,[.t 4],c11⟩:=by kernel_rfl
set_option maxHeartbeats 4000000 in
theorem ok_same5:SpecOK Tryz.prog 11 (rdS spSame5):=by
 refine rd_run (env_nil _) mixed tr11 ?_ ?_
 ·intro args h h' v hle e
  unfold spSame5 at e ⊢
  split at e
  ·split at e
   ·rename_i l l' h1 h2
    simp only [listAt_mono hle (fun _ _ e=>e) h1,listAt_mono hle (fun _ _ e=>e) h2];exact e
   ·cases e
  ·cases e
 intro args v h N hG hN
 unfold spSame5 at hG
 split at hG
 case h_2=>cases hG
 rename_i a n c b m d
 split at hG
 case h_2=>cases hG
 rename_i l l' h1 h2
 split at hG
 case isFalse=>cases hG
 rename_i hs
 cases hG
 have e1:l.length=n:=by obtain ⟨_,_,e⟩:=listAt_sl h1;cases e;rfl
 have e2:l'.length=m:=by obtain ⟨_,_,e⟩:=listAt_sl h2;cases e;rfl
 subst e1
 subst e2
 refine ⟨by rfl,by simp,?_⟩
 by_cases ll:l.length=l'.length
 case neg=>
  have ll':((l.length:Int)=(l'.length:Int))=False:=eq_false (by omega)
  rw [decide_eq_false (fun e=>ll (by rw [e]))]
  simp only [c11,G0,Nat.reduceAdd]
  simp only [↓R0,R1,simprocAttr,-Int.reduceAbs,ll',Bool.not_false,Bool.not_true,Fin,isEnd,resL,res1]
  exact ⟨_,rfl,rfl,fun k hk=>by simp only [ne_nb hk,if_false]⟩
 have ll':((l.length:Int)=(l'.length:Int))=True:=eq_true (by omega)
 simp only [c11,G0,Nat.reduceAdd]
 simp only [↓R0,R1,simprocAttr,-Int.reduceAbs,ll',Bool.not_false,Bool.not_true]
 refine lp_parts (fun q tm hp nx=>∃ (i M:Nat),q+i=l.length /\ tmget tm 0 = .slice a l.length c /\ tmget tm 1 = .slice b l'.length d /\ tmget tm 5 = .int .i64 i /\ (∀ j,j < i -> l[j]?=l'[j]?) /\ (∀ q,q < N -> hget hp q=hget h q) /\ N <= M /\ nx=M+0) ?_ l.length
  ⟨0,N,by omega,?_,?_,?_,fun j hj=>absurd hj (Nat.not_lt_zero _),?_,Nat.le_refl _,rfl⟩
 rotate_left
 all_goals first | (simp only [↓R0,R1,simprocAttr,-Int.reduceAbs];done) | (simp only [↓R0,R1,simprocAttr,-Int.reduceAbs];rfl) | skip
 ·exact fun q _=>rfl
 rintro q tm hp nx ⟨i,M,hq,t0,t1,t5,hall,hh,hM,hnx⟩
 rw [hnx]
 clear hnx nx
 have wi:IntKind.i64.wrap ((i:Int)+1)=((i+1:Nat):Int):=by rw [i64_in _ (by omega)];omega
 by_cases ci:i < l.length
 case neg=>
  have ei:i=l.length:=by omega
  subst ei
  have ci':((l.length:Int) < (l.length:Int))=False:=eq_false (by omega)
  rw [decide_eq_true (List.ext_getElem? fun j=>by
   by_cases hj:j < l.length
   ·exact hall j hj
   ·rw [List.getElem?_eq_none (by omega),List.getElem?_eq_none (by omega)])]
  simp only [↓R0,R1,simprocAttr,-Int.reduceAbs,t0,t1,t5,ci',Fin,isEnd,resL,res1]
  exact ⟨_,rfl,rfl,hh⟩
 have ci':((i:Int) < (l.length:Int))=True:=eq_true (by omega)
 have cj':((i:Int) < (l'.length:Int))=True:=eq_true (by omega)
 have cj:i < l'.length:=by omega
 have HL:hle h hp:=fun q b e=>by rw [hh q (hN _ _ e)];exact e
 obtain ⟨z,pt⟩:∃ z,l[i]?=some z:=⟨_,List.getElem?_eq_getElem ci⟩
 obtain ⟨z',pt'⟩:∃ z,l'[i]?=some z:=⟨_,List.getElem?_eq_getElem cj⟩
 obtain ⟨k1,f1,B1,ea,hb1,_,_,hat1⟩:=listAt_get h1 (by omega)
 obtain ⟨k2,f2,B2,eb,hb2,_,_,hat2⟩:=listAt_get h2 (by omega)
 obtain ⟨p1,p2⟩:=hat1 i z pt
 obtain ⟨p3,p4⟩:=hat2 i z' pt'
 have p2:=cell1_of (decN_eq p2)
 have p4:=cell1_of (decN_eq p4)
 rw [Nat.mul_one] at p2 p4
 subst ea
 subst eb
 have g1:=HL _ _ hb1
 have g2:=HL _ _ hb2
 by_cases ez:z=z'
 ·have ez':(z=z')=True:=eq_true ez
  have hall':∀ j,j < i+1 -> l[j]?=l'[j]?:=fun j hj=>by
   by_cases e:j=i
   ·subst e;rw [pt,pt',ez]
   ·exact hall j (by omega)
  simp only [↓R0,R1,simprocAttr,-Int.reduceAbs,t0,t1,t5,ci,cj,ci',cj',g1,g2,p1,p2,p3,p4,ez',wi,Bool.not_true]
  exact ⟨q - 1,by omega,i+1,M,by omega,rfl,hall',hh,hM,rfl⟩
 ·have ez':(z=z')=False:=eq_false ez
  rw [decide_eq_false (fun e=>by rw [e,pt'] at pt;exact ez (Option.some.inj pt).symm)]
  simp only [↓R0,R1,simprocAttr,-Int.reduceAbs,t0,t1,t5,ci,cj,ci',cj',g1,g2,p1,p2,p3,p4,ez',Bool.not_false,Fin,isEnd,resL,res1]
  exact ⟨_,rfl,rfl,hh⟩
abbrev exL (L:List (List Rat × Rat)):List EqR:=L.map fun x=>eqOf x.1 x.2
theorem tog_con {n:Nat} {l:List EqR} (c:chkL n l=0):togL n l=true ↔ ConP n (ZL n l):=by
 have O:=solL_out c
 unfold togL
 rw [decide_eq_true_eq]
 constructor
 ·intro h
  exact Classical.byContradiction fun x=>h (O.c x).1
 ·intro x
  by_cases d:∀ k,k < n -> DetP n (ZL n l) k
  ·rw [(O.s x d).1];decide
  ·rw [(O.o x d).1];decide
theorem tog_cc (n:Nat) (L:List (List Rat × Rat)) (c:chkL n (exL L)=0):togL n (exL L)=!decide (clashM n L.length (redK L.length (ccM n L) n)):=by
 have h:=(tog_con c).trans (conL (n:=n) (l:=exL L))
 unfold lsOf at h
 rw [eqM_cc,List.length_map] at h
 by_cases x:clashM n L.length (redK L.length (ccM n L) n)
 ·rw [decide_eq_true x]
  cases e:togL n (exL L) with
  | false=>rfl
  | true=>exact absurd x (h.1 e)
 ·rw [decide_eq_false x,h.2 x];rfl
def exA:List (List Rat × Rat):=[([1,0],1),([0,1],2),([1,1],4)]
def exB:List (List Rat × Rat):=[([1,0],1),([2,0],2),([0,1],0),([1,0],3)]
theorem tA (L:List (List Rat × Rat)) (b:Bool) (c:chkL 2 (exL L)=0) (h:(!decide (clashM 2 L.length (redK L.length (ccM 2 L) 2)))=b):togL 2 (exL L)=b:=(tog_cc 2 L c).trans h
theorem bump_of (c:List Rat) (r:Rat):bump (eqOf c r)=eqOf c (r+1):=by
 unfold bump eqOf
 rw [RQ.of_v]
theorem minA:minS 2 (exL exA) 3=([0,1,2],0):=by
 have t0:togL 2 (exL [([0,1],2),([1,1],4)])=true:=tA _ _ (by decide) (by decide +kernel)
 have t1:togL 2 (exL [([1,0],1),([1,1],4)])=true:=tA _ _ (by decide) (by decide +kernel)
 have t2:togL 2 (exL [([1,0],1),([0,1],2)])=true:=tA _ _ (by decide) (by decide +kernel)
 have s0:minS 2 (exL exA) 0=([0,1,2],0):=rfl
 have s1:minS 2 (exL exA) 1=([0,1,2],0):=by
  show (if togL 2 (selL (exL exA) (delL 0 (minS 2 (exL exA) 0).1))=true then _ else _)=_
  rw [s0]
  exact if_pos t0
 have s2:minS 2 (exL exA) 2=([0,1,2],0):=by
  show (if togL 2 (selL (exL exA) (delL 1 (minS 2 (exL exA) 1).1))=true then _ else _)=_
  rw [s1]
  exact if_pos t1
 show (if togL 2 (selL (exL exA) (delL 2 (minS 2 (exL exA) 2).1))=true then _ else _)=_
 rw [s2]
 exact if_pos t2
theorem togA:togL 2 (exL exA)=false:=tA _ _ (by decide) (by decide +kernel)
theorem togB:togL 2 (exL exB)=false:=tA _ _ (by decide) (by decide +kernel)
theorem minB:minS 2 (exL exB) 4=([1,3],1):=by
 have t0:togL 2 (exL [([2,0],2),([0,1],0),([1,0],3)])=false:=tA _ _ (by decide) (by decide +kernel)
 have t1:togL 2 (exL [([0,1],0),([1,0],3)])=true:=tA _ _ (by decide) (by decide +kernel)
 have t2:togL 2 (exL [([2,0],2),([1,0],3)])=false:=tA _ _ (by decide) (by decide +kernel)
 have t3:togL 2 (exL [([2,0],2)])=true:=tA _ _ (by decide) (by decide +kernel)
 have s0:minS 2 (exL exB) 0=([0,1,2,3],0):=rfl
 have s1:minS 2 (exL exB) 1=([1,2,3],1):=by
  show (if togL 2 (selL (exL exB) (delL 0 (minS 2 (exL exB) 0).1))=true then _ else _)=_
  rw [s0]
  exact if_neg (by rw [show togL 2 (selL (exL exB) (delL 0 [0,1,2,3]))=false from t0];simp)
 have s2:minS 2 (exL exB) 2=([1,2,3],1):=by
  show (if togL 2 (selL (exL exB) (delL 1 (minS 2 (exL exB) 1).1))=true then _ else _)=_
  rw [s1]
  exact if_pos t1
 have s3:minS 2 (exL exB) 3=([1,3],1):=by
  show (if togL 2 (selL (exL exB) (delL 2 (minS 2 (exL exB) 2).1))=true then _ else _)=_
  rw [s2]
  exact if_neg (by rw [show togL 2 (selL (exL exB) (delL 2 [1,2,3]))=false from t2];simp)
 show (if togL 2 (selL (exL exB) (delL 3 (minS 2 (exL exB) 3).1))=true then _ else _)=_
 rw [s3]
 exact if_pos t3
theorem redB:redL 2 (exL exB)=[1]:=by
 have t0:togL 2 (exL [])=true:=tA _ _ (by decide) (by decide +kernel)
 have t1:togL 2 (exL [([1,0],1)])=true:=tA _ _ (by decide) (by decide +kernel)
 have b1:togL 2 (exL [([1,0],1+1)])=true:=tA _ _ (by decide) (by decide +kernel)
 have t2:togL 2 (exL [([1,0],1),([2,0],2)])=true:=tA _ _ (by decide) (by decide +kernel)
 have b2:togL 2 (exL [([1,0],1),([2,0],2+1)])=false:=tA _ _ (by decide) (by decide +kernel)
 have t3:togL 2 (exL [([1,0],1),([2,0],2),([0,1],0)])=true:=tA _ _ (by decide) (by decide +kernel)
 have b3:togL 2 (exL [([1,0],1),([2,0],2),([0,1],0+1)])=true:=tA _ _ (by decide) (by decide +kernel)
 have f0:folL 2 [] (eqOf [1,0] 1)=false:=by
  unfold folL
  rw [bump_of]
  show (togL 2 (exL [([1,0],1)]) && !togL 2 (exL [([1,0],1+1)]))=_
  rw [t1,b1];rfl
 have f1:folL 2 (exL [([1,0],1)]) (eqOf [2,0] 2)=true:=by
  unfold folL
  rw [bump_of]
  show (togL 2 (exL [([1,0],1),([2,0],2)]) && !togL 2 (exL [([1,0],1),([2,0],2+1)]))=_
  rw [t2,b2];rfl
 have f2:folL 2 (exL [([1,0],1),([2,0],2)]) (eqOf [0,1] 0)=false:=by
  unfold folL
  rw [bump_of]
  show (togL 2 (exL [([1,0],1),([2,0],2),([0,1],0)]) && !togL 2 (exL [([1,0],1),([2,0],2),([0,1],0+1)]))=_
  rw [t3,b3];rfl
 have f3:folL 2 (exL [([1,0],1),([2,0],2),([0,1],0)]) (eqOf [1,0] 3)=false:=by
  unfold folL
  show (togL 2 (exL exB) && _)=_
  rw [togB];rfl
 have step:∀ (i:Nat) (out:List Nat),redS 2 (exL exB) i=(out,false) -> togL 2 ((exL exB).take i)=true -> redS 2 (exL exB) (i+1)=(if folL 2 ((exL exB).take i) (eqAt (exL exB) i)=true then out ++ [i] else out,false):=fun i out h1 h2=>by
  show (if (redS 2 (exL exB) i).2=true then _ else _)=_
  rw [h1,h2]
  rfl
 have s0:redS 2 (exL exB) 0=([],false):=rfl
 have s1:redS 2 (exL exB) 1=([],false):=(step 0 [] s0 t0).trans (by rw [show folL 2 ((exL exB).take 0) (eqAt (exL exB) 0)=false from f0];rfl)
 have s2:redS 2 (exL exB) 2=([1],false):=(step 1 [] s1 t1).trans (by rw [show folL 2 ((exL exB).take 1) (eqAt (exL exB) 1)=true from f1];rfl)
 have s3:redS 2 (exL exB) 3=([1],false):=(step 2 [1] s2 t2).trans (by rw [show folL 2 ((exL exB).take 2) (eqAt (exL exB) 2)=false from f2];rfl)
 have s4:redS 2 (exL exB) 4=([1],false):=(step 3 [1] s3 t3).trans (by rw [show folL 2 ((exL exB).take 3) (eqAt (exL exB) 3)=false from f3];rfl)
 show (redS 2 (exL exB) 4).1=_
 rw [s4]
structure EqsOK (n:Nat) (l:List EqR):Prop where
 n8:n <= 8
 len:l.length <= 50
 co:∀ e ∈ l,e.coef.length=n /\ (∀ q ∈ e.coef,q.ok 100) /\ e.rhs.ok 100
theorem EqsOK.sys {n:Nat} {l l':List EqR} (H:EqsOK n l) (hl:l'.length <= 100) (h:∀ e ∈ l',e ∈ l \/ ∃ e0 ∈ l,e=bump e0):SysOK n l':=fun _=>by
 have all:∀ e ∈ l',e.coef.length=n /\ (∀ q ∈ e.coef,q.ok 100) /\ e.rhs.ok 120:=fun e he=>by
  rcases h e he with h | ⟨e0,h,rfl⟩
  ·obtain ⟨a,b,c⟩:=H.co e h
   exact ⟨a,b,c.le (by omega)⟩
  ·obtain ⟨a,b,c⟩:=H.co e0 h
   exact ⟨a,b,(RQ.of_ok ((c.rb.add (RB.int (z:=1) (k:=1) (bl_length_le.2 (by decide)) (Nat.le_refl _)) (k:=120) (by omega)))).le (by omega)⟩
 refine ⟨by omega,by have:=H.n8;omega,hl,fun e he=>?_,fun e he=>⟨fun q hq=>((all e he).2.1 q hq).le (by omega),(all e he).2.2.le (by omega)⟩⟩
 rw [Int.toNat_natCast]
 exact (all e he).1
theorem selL_mem {l:List EqR} {ps:List Int} (h:∀ p ∈ ps,0 <= p /\ p.toNat < l.length):∀ e ∈ selL l ps,e ∈ l:=by
 intro e he
 unfold selL at he
 obtain ⟨p,hp,rfl⟩:=List.mem_map.1 he
 exact eqAt_mem (h p hp).2
theorem tog_nil {n:Nat} (hn:n <= 8):togL n []=true:=by
 have c:chkL n []=0:=chk0_of (by omega) (by simp) (by simp)
 rw [tog_con c]
 exact ⟨fun j=>if j=n then -1 else 0,fun i hi=>absurd hi (Nat.not_lt_zero _),if_pos rfl⟩
theorem EqsOK.min {n:Nat} {l:List EqR} (H:EqsOK n l):MinOK n l where
 len:=by have:=H.len;omega
 sys:=H.sys (by have:=H.len;omega) fun e he => .inl he
 sub:=fun ps hp hl=>H.sys (by unfold selL;rw [List.length_map];have:=H.len;omega) fun e he => .inl (selL_mem hp e he)
 nil:=tog_nil H.n8
theorem EqsOK.red {n:Nat} {l:List EqR} (H:EqsOK n l):RdnOK n l where
 len:=by have:=H.len;omega
 sys:=fun i hi=>H.sys (by rw [List.length_take];have:=H.len;omega) fun e he => .inl (List.mem_of_mem_take he)
 fol:=fun i hi=>by
  have hr:=(H.co _ (eqAt_mem hi)).2.2
  have hl:=H.len
  refine ⟨by rw [List.length_take];omega,H.sys (by rw [List.length_append,List.length_take,List.length_singleton];omega) fun e he=>?_,H.sys (by rw [List.length_append,List.length_take,List.length_singleton];omega) fun e he=>?_,Nat.le_trans hr.1 (by omega),Nat.le_trans hr.2 (by omega)⟩
  ·rw [List.mem_append,List.mem_singleton] at he
   rcases he with he | rfl
   ·exact .inl (List.mem_of_mem_take he)
   ·exact .inl (eqAt_mem hi)
  ·rw [List.mem_append,List.mem_singleton] at he
   rcases he with he | rfl
   ·exact .inl (List.mem_of_mem_take he)
   ·exact .inr ⟨_,eqAt_mem hi,rfl⟩
theorem flat5:∀ {css:List (List Value)} {i:Nat} {ec:List Value},(∀ c ∈ css,c.length=5) -> css[i]?=some ec -> (css.flatten.drop (i * 5)).take 5=ec
 | [],i,ec,_,e=>by simp at e
 | c :: css,0,ec,h,e=>by
  simp only [List.getElem?_cons_zero,Option.some.injEq] at e
  subst e
  have:=h c (by simp)
  rw [List.flatten_cons,Nat.zero_mul,List.drop_zero,List.take_append_of_le_length (by omega),List.take_of_length_le (by omega)]
 | c :: css,i+1,ec,h,e=>by
  simp only [List.getElem?_cons_succ] at e
  have:=h c (by simp)
  rw [List.flatten_cons,Nat.succ_mul,List.drop_append,List.drop_of_length_le (by omega),this,List.nil_append,Nat.add_sub_cancel]
  exact flat5 (fun c hc=>h c (by simp [hc])) e
theorem flat5_len:∀ {css:List (List Value)},(∀ c ∈ css,c.length=5) -> css.flatten.length=css.length * 5
 | [],_=>rfl
 | c :: css,h=>by
  rw [List.flatten_cons,List.length_append,h c (by simp),flat5_len (fun c hc=>h c (by simp [hc])),List.length_cons];omega
theorem RowsS.lit {hp:Heap} {k0 e s c:Nat} {x:Bool} {css:List (List Value)} {l:List EqR} (hk:hget hp k0=some ⟨e,s,x,css.flatten⟩) (hc:l.length <= c) (hl:css.length=l.length)
  (hd:∀ (i:Nat) (ec:List Value) (q:EqR),css[i]?=some ec -> l[i]?=some q -> decEq hp ec=some q) (hs:∀ ec ∈ css,ec.all (selfOK hp)=true) (h5:∀ c ∈ css,c.length=5) :
  RowsS hp (.slice (some ⟨k0,0,none⟩) l.length c) l css.flatten:=by
 have fl:=flat5_len h5
 rw [hl] at fl
 have la:Go.Eng.lay 5 hp (.slice (some ⟨k0,0,none⟩) l.length c)=some css.flatten:=by
  unfold Go.Eng.lay
  cases e:l.length with
  | zero=>
   rw [e] at fl hc
   simp only [hk]
   rw [if_pos ⟨hc,by omega⟩,List.drop_zero,List.take_of_length_le (by omega)]
  | succ n=>
   rw [e] at fl hc
   simp only [hk]
   rw [if_pos ⟨hc,by omega⟩,List.drop_zero,List.take_of_length_le (by omega)]
 refine ⟨la,?_,?_⟩
 ·unfold decRows listAt
  rw [la,Option.bind_some]
  refine many_some rfl fun i q hq=>?_
  have hi:i < css.length:=by rw [hl];exact (List.getElem?_eq_some_iff.1 hq).1
  rw [flat5 h5 (List.getElem?_eq_getElem hi)]
  exact hd i _ q (List.getElem?_eq_getElem hi) hq
 ·rw [List.all_eq_true]
  intro v hv
  obtain ⟨ec,h1,h2⟩:=List.mem_flatten.1 hv
  have:=hs ec h1
  rw [List.all_eq_true] at this
  exact this v h2
theorem eqV_self {hp:Heap} {k n:Nat} {r:Rat} {b:Blk} (hk:hget hp k=some b):(eqV k n r).all (selfOK hp)=true:=by
 show (selfOK hp (.slice (some ⟨k,0,none⟩) n n) && (eqOf [] r).tl.all (selfOK hp))=true
 rw [Bool.and_eq_true]
 refine ⟨?_,rfl⟩
 simp [selfOK,slOK,hk]
theorem exOK {l:List (List Rat × Rat)} (hl:l.length <= 50) (h:∀ x ∈ l,x.1.length=2 /\ (∀ q ∈ x.1,RB q 4) /\ RB x.2 4):EqsOK 2 (exL l) where
 n8:=by omega
 len:=by unfold exL;rw [List.length_map];exact hl
 co:=fun e he=>by
  obtain ⟨x,hx,rfl⟩:=List.mem_map.1 he
  obtain ⟨a,b,c⟩:=h x hx
  refine ⟨by unfold eqOf;rw [List.length_map];exact a,fun q hq=>?_,(RQ.of_ok c).le (by omega)⟩
  obtain ⟨y,hy,rfl⟩:=List.mem_map.1 hq
  exact (RQ.of_ok (b y hy)).le (by omega)
theorem okA:EqsOK 2 (exL exA):=exOK (by decide) (by decide +kernel)
theorem okB:EqsOK 2 (exL exB):=exOK (by decide) (by decide +kernel)
theorem rowsA {hp:Heap} {k k1 k2 k3:Nat} (h:hget hp k=some ⟨40,5,true,eqV k1 2 1 ++ (eqV k2 2 2 ++ eqV k3 2 4)⟩) (h1:hget hp k1=some ⟨38,3,false,ratC [1,0]⟩) (h2:hget hp k2=some ⟨38,3,false,ratC [0,1]⟩) (h3:hget hp k3=some ⟨38,3,false,ratC [1,1]⟩) :
  RowsS hp (.slice (some ⟨k,0,none⟩) 3 3) (exL exA) (eqV k1 2 1 ++ (eqV k2 2 2 ++ eqV k3 2 4)):=by
 have:=RowsS.lit (css:=[eqV k1 2 1,eqV k2 2 2,eqV k3 2 4]) (l:=exL exA) (c:=3) (k0:=k) (hp:=hp) (e:=40) (s:=5) (x:=true) (by rw [h];rfl) (by decide) rfl ?_ ?_ ?_
 ·exact this
 ·intro i ec q e1 e2
  match i with
  | 0=>cases e1;cases e2;exact decEq_V (c:=[1,0]) h1 (by simp)
  | 1=>cases e1;cases e2;exact decEq_V (c:=[0,1]) h2 (by simp)
  | 2=>cases e1;cases e2;exact decEq_V (c:=[1,1]) h3 (by simp)
  | i+3=>cases e1
 ·intro ec he
  simp only [List.mem_cons,List.not_mem_nil,or_false] at he
  rcases he with rfl | rfl | rfl
  ·exact eqV_self h1
  ·exact eqV_self h2
  ·exact eqV_self h3
 ·intro ec he
  simp only [List.mem_cons,List.not_mem_nil,or_false] at he
  rcases he with rfl | rfl | rfl <;> rfl
theorem rowsB {hp:Heap} {k k1 k2 k3 k4:Nat} (h:hget hp k=some ⟨40,5,true,eqV k1 2 1 ++ (eqV k2 2 2 ++ (eqV k3 2 0 ++ eqV k4 2 3))⟩) (h1:hget hp k1=some ⟨38,3,false,ratC [1,0]⟩) (h2:hget hp k2=some ⟨38,3,false,ratC [2,0]⟩) (h3:hget hp k3=some ⟨38,3,false,ratC [0,1]⟩) (h4:hget hp k4=some ⟨38,3,false,ratC [1,0]⟩) :
  RowsS hp (.slice (some ⟨k,0,none⟩) 4 4) (exL exB) (eqV k1 2 1 ++ (eqV k2 2 2 ++ (eqV k3 2 0 ++ eqV k4 2 3))):=by
 have:=RowsS.lit (css:=[eqV k1 2 1,eqV k2 2 2,eqV k3 2 0,eqV k4 2 3]) (l:=exL exB) (c:=4) (k0:=k) (hp:=hp) (e:=40) (s:=5) (x:=true) (by rw [h];rfl) (by decide) rfl ?_ ?_ ?_
 ·exact this
 ·intro i ec q e1 e2
  match i with
  | 0=>cases e1;cases e2;exact decEq_V (c:=[1,0]) h1 (by simp)
  | 1=>cases e1;cases e2;exact decEq_V (c:=[2,0]) h2 (by simp)
  | 2=>cases e1;cases e2;exact decEq_V (c:=[0,1]) h3 (by simp)
  | 3=>cases e1;cases e2;exact decEq_V (c:=[1,0]) h4 (by simp)
  | i+4=>cases e1
 ·intro ec he
  simp only [List.mem_cons,List.not_mem_nil,or_false] at he
  rcases he with rfl | rfl | rfl | rfl
  ·exact eqV_self h1
  ·exact eqV_self h2
  ·exact eqV_self h3
  ·exact eqV_self h4
 ·intro ec he
  simp only [List.mem_cons,List.not_mem_nil,or_false] at he
  rcases he with rfl | rfl | rfl | rfl <;> rfl
theorem row_at {h:Heap} {k el sz:Nat} {xb:Bool} {r x y:Int} {r' x' y':Rat} (hb:hget h k=some ⟨el,sz,xb,[.int .i64 x,.int .i64 y]⟩) (hl:(-1000 <= r /\ r <= 1000) /\ (-1000 <= x /\ x <= 1000) /\ -1000 <= y /\ y <= 1000) (e1:(r:Rat)=r') (e2:(x:Rat)=x') (e3:(y:Rat)=y') :
  spRow [.int .i64 r,.slice (some ⟨k,0,none⟩) 2 2] h=some (fun k => .agg ⟨eqV k 2 r'⟩,⟨38,3,false,ratC [x',y']⟩):=by
 subst e1;subst e2;subst e3
 unfold spRow
 simp only [hb]
 exact if_pos hl
theorem same_at {h:Heap} {k k' e s e' s' c c':Nat} {x x':Bool} {L Z:List Int} (h1:hget h k=some ⟨e,s,x,intZ (L ++ Z)⟩) (h2:hget h k'=some ⟨e',s',x',intZ L⟩) (hc:L.length <= c) (hc':L.length <= c') (hl:L.length <= 1000) :
  spSame5 [.slice (some ⟨k,0,none⟩) L.length c,.slice (some ⟨k',0,none⟩) L.length c'] h=some (.bool true):=by
 unfold spSame5
 simp only [intZ_list h1 hc,intZ_list (Z:=[]) (by rw [List.append_nil];exact h2) hc']
 rw [if_pos ⟨hl,hl⟩]
 simp
def spAlive5:List Value -> Option Value
 | []=>some (.bool true)
 | _=>none
def c9:ICode:=
 (.seq (.reg [qq 0 (.mv (.c (.bool false)))]) (.seq (.reg [qq 3 (.bslice 2 1 2 [(.int .i64 0),(.int .i64 0)] [(0,1,(ci 1)),(1,1,(ci 0))]),qq 4 (.call 25 [(ci 1),(.t 3)]),qq 5 (.bslice 2 1 2 [(.int .i64 0),(.int .i64 0)] [(0,1,(ci 0)),(1,1,(ci 1))]),qq 6 (.call 25 [(ci 2),(.t 5)]),qq 7 (.bslice 2 1 2 [(.int .i64 0),(.int .i64 0)] [(0,1,(ci 1)),(1,1,(ci 1))]),qq 8 (.call 25 [(ci 4),(.t 7)]),qq 9 (.bslice 40 5 3 [(.slice none 0 0),(.bool false),e0,e0,(.int .i64 0),(.slice none 0 0),(.bool false),e0,e0,(.int .i64 0),(.slice none 0 0),(.bool false),e0,e0,(.int .i64 0)] [(0,5,(.t 4)),(5,5,(.t 6)),(10,5,(.t 8))]),qq 10 (.call 12 [(ci 2),(.t 9)]),qq 1 (.mv (.t 10))]) (.seq (.reg [qq 11 (.bslice 2 1 2 [(.int .i64 0),(.int .i64 0)] [(0,1,(ci 1)),(1,1,(ci 0))]),qq 12 (.call 25 [(ci 1),(.t 11)]),qq 13 (.bslice 2 1 2 [(.int .i64 0),(.int .i64 0)] [(0,1,(ci 2)),(1,1,(ci 0))]),qq 14 (.call 25 [(ci 2),(.t 13)]),qq 15 (.bslice 2 1 2 [(.int .i64 0),(.int .i64 0)] [(0,1,(ci 0)),(1,1,(ci 1))]),qq 16 (.call 25 [(ci 0),(.t 15)]),qq 17 (.bslice 2 1 2 [(.int .i64 0),(.int .i64 0)] [(0,1,(ci 1)),(1,1,(ci 0))]),qq 18 (.call 25 [(ci 3),(.t 17)]),qq 19 (.bslice 40 5 4 [(.slice none 0 0),(.bool false),e0,e0,(.int .i64 0),(.slice none 0 0),(.bool false),e0,e0,(.int .i64 0),(.slice none 0 0),(.bool false),e0,e0,(.int .i64 0),(.slice none 0 0),(.bool false),e0,e0,(.int .i64 0)] [(0,5,(.t 12)),(5,5,(.t 14)),(10,5,(.t 16)),(15,5,(.t 18))]),qq 2 (.mv (.t 19))]) (.seq (.reg [qq 20 (.mv (.t 1)),qq 21 (.bslice 3 1 3 [(.int .i64 0),(.int .i64 0),(.int .i64 0)] [(0,1,(ci 0)),(1,1,(ci 1)),(2,1,(ci 2))]),qq 22 (.call 11 [(.t 20),(.t 21)]),qq 23 (.mv (.t 22)),⟨(some 24),(some (23,true)),(.mv (.t 2))⟩,⟨(some 25),(some (23,true)),(.call 14 [(ci 2),(.t 24)])⟩,⟨(some 26),(some (23,true)),(.bslice 3 1 1 [(.int .i64 0)] [(0,1,(ci 1))])⟩,⟨(some 27),(some (23,true)),(.call 11 [(.t 25),(.t 26)])⟩,qq 28 (.pick (.t 23) (.t 27) (.c (.bool false))),qq 29 (.mv (.t 28)),⟨(some 30),(some (29,true)),(.mv (.t 2))⟩,⟨(some 31),(some (29,true)),(.call 12 [(ci 2),(.t 30)])⟩,⟨(some 32),(some (29,true)),(.bslice 3 1 2 [(.int .i64 0),(.int .i64 0)] [(0,1,(ci 1)),(1,1,(ci 3))])⟩,⟨(some 33),(some (29,true)),(.call 11 [(.t 31),(.t 32)])⟩,qq 34 (.pick (.t 29) (.t 33) (.c (.bool false))),qq 0 (.mv (.t 34))]) .ret))))
theorem tr9:trFun Tryz.prog 9=some ⟨35,[.t 0],c9⟩:=by kernel_rfl
set_option maxHeartbeats 16000000 in
theorem ok_alive5:SpecOK Tryz.prog 9 (flat spAlive5):=by
 refine flat_run (env_cons ok_row (env_cons ok_min (env_cons ok_same5 (env_cons ok_red (env_nil _))))) mixed tr9 ?_
 intro args v h N hG
 unfold spAlive5 at hG
 split at hG
 case h_2=>cases hG
 cases hG
 refine ⟨rfl,by simp,?_⟩
 have r1:∀ hp k,hget hp k=some ⟨2,1,true,[.int .i64 1,.int .i64 0]⟩ -> spRow [.int .i64 1,.slice (some ⟨k,0,none⟩) 2 2] hp=some (fun k => .agg ⟨eqV k 2 1⟩,⟨38,3,false,ratC [1,0]⟩):=fun hp k hk=>row_at hk (by omega) rfl rfl rfl
 have r2:∀ hp k,hget hp k=some ⟨2,1,true,[.int .i64 0,.int .i64 1]⟩ -> spRow [.int .i64 2,.slice (some ⟨k,0,none⟩) 2 2] hp=some (fun k => .agg ⟨eqV k 2 2⟩,⟨38,3,false,ratC [0,1]⟩):=fun hp k hk=>row_at hk (by omega) rfl rfl rfl
 have r3:∀ hp k,hget hp k=some ⟨2,1,true,[.int .i64 1,.int .i64 1]⟩ -> spRow [.int .i64 4,.slice (some ⟨k,0,none⟩) 2 2] hp=some (fun k => .agg ⟨eqV k 2 4⟩,⟨38,3,false,ratC [1,1]⟩):=fun hp k hk=>row_at hk (by omega) rfl rfl rfl
 have r4:∀ hp k,hget hp k=some ⟨2,1,true,[.int .i64 2,.int .i64 0]⟩ -> spRow [.int .i64 2,.slice (some ⟨k,0,none⟩) 2 2] hp=some (fun k => .agg ⟨eqV k 2 2⟩,⟨38,3,false,ratC [2,0]⟩):=fun hp k hk=>row_at hk (by omega) rfl rfl rfl
 have r5:∀ hp k,hget hp k=some ⟨2,1,true,[.int .i64 0,.int .i64 1]⟩ -> spRow [.int .i64 0,.slice (some ⟨k,0,none⟩) 2 2] hp=some (fun k => .agg ⟨eqV k 2 0⟩,⟨38,3,false,ratC [0,1]⟩):=fun hp k hk=>row_at hk (by omega) rfl rfl rfl
 have r6:∀ hp k,hget hp k=some ⟨2,1,true,[.int .i64 1,.int .i64 0]⟩ -> spRow [.int .i64 3,.slice (some ⟨k,0,none⟩) 2 2] hp=some (fun k => .agg ⟨eqV k 2 3⟩,⟨38,3,false,ratC [1,0]⟩):=fun hp k hk=>row_at hk (by omega) rfl rfl rfl
 have z3:∀ a b c:List Value,a.length=5 -> b.length=5 -> c.length=5 -> setR (setR (setR [.slice none 0 0,.bool false,.string ⟨⟨[]⟩⟩,.string ⟨⟨[]⟩⟩,.int .i64 0,.slice none 0 0,.bool false,.string ⟨⟨[]⟩⟩,.string ⟨⟨[]⟩⟩,.int .i64 0,.slice none 0 0,.bool false,.string ⟨⟨[]⟩⟩,.string ⟨⟨[]⟩⟩,.int .i64 0] 0 a) 5 b) 10 c=a ++ (b ++ c):=fun a b c ha hb hc=>by
  match a,ha,b,hb,c,hc with
  | [_,_,_,_,_],_,[_,_,_,_,_],_,[_,_,_,_,_],_=>rfl
 have z4:∀ a b c d:List Value,a.length=5 -> b.length=5 -> c.length=5 -> d.length=5 -> setR (setR (setR (setR [.slice none 0 0,.bool false,.string ⟨⟨[]⟩⟩,.string ⟨⟨[]⟩⟩,.int .i64 0,.slice none 0 0,.bool false,.string ⟨⟨[]⟩⟩,.string ⟨⟨[]⟩⟩,.int .i64 0,.slice none 0 0,.bool false,.string ⟨⟨[]⟩⟩,.string ⟨⟨[]⟩⟩,.int .i64 0,.slice none 0 0,.bool false,.string ⟨⟨[]⟩⟩,.string ⟨⟨[]⟩⟩,.int .i64 0] 0 a) 5 b) 10 c) 15 d=a ++ (b ++ (c ++ d)):=fun a b c d ha hb hc hd=>by
  match a,ha,b,hb,c,hc,d,hd with
  | [_,_,_,_,_],_,[_,_,_,_,_],_,[_,_,_,_,_],_,[_,_,_,_,_],_=>rfl
 simp only [c9,G0,Nat.reduceAdd]
 simp only [↓R0,R1,simprocAttr,-Int.reduceAbs,nwS,r1,r2,r3,r4,r5,r6,eqV_len,eqV_ok,setR_length,z3,z4]
 have km:∀ hp k,hget hp (N+6)=some ⟨40,5,true,eqV (N+1) 2 1 ++ (eqV (N+3) 2 2 ++ eqV (N+5) 2 4)⟩ -> hget hp (N+1)=some ⟨38,3,false,ratC [1,0]⟩ -> hget hp (N+3)=some ⟨38,3,false,ratC [0,1]⟩ -> hget hp (N+5)=some ⟨38,3,false,ratC [1,1]⟩ ->
   nwL spMin [.int .i64 2,.slice (some ⟨N+6,0,none⟩) 3 3] hp k=some (.slice (some ⟨k,0,none⟩) 3 3,[(k,some ⟨3,1,false,intZ [0,1,2]⟩)],1):=fun hp k g0 g1 g2 g3=>by
  have e:=min_of (n:=((2:Nat):Int)) (rowsA g0 g1 g2 g3) okA.min
  unfold nwL
  rw [show spMin [.int .i64 2,.slice (some ⟨N+6,0,none⟩) 3 3] hp=some (minNL 2 (exL exA)) from e]
  unfold minNL
  rw [if_neg (by rw [togA];simp),show (exL exA).length=3 from rfl,minA]
  rfl
 have kb:∀ hp k,hget hp (N+16)=some ⟨40,5,true,eqV (N+9) 2 1 ++ (eqV (N+11) 2 2 ++ (eqV (N+13) 2 0 ++ eqV (N+15) 2 3))⟩ -> hget hp (N+9)=some ⟨38,3,false,ratC [1,0]⟩ -> hget hp (N+11)=some ⟨38,3,false,ratC [2,0]⟩ -> hget hp (N+13)=some ⟨38,3,false,ratC [0,1]⟩ -> hget hp (N+15)=some ⟨38,3,false,ratC [1,0]⟩ ->
   nwL spMin [.int .i64 2,.slice (some ⟨N+16,0,none⟩) 4 4] hp k=some (.slice (some ⟨k,0,none⟩) 2 3,[(k,some ⟨3,1,false,intZ [1,3,0]⟩)],1):=fun hp k g0 g1 g2 g3 g4=>by
  have e:=min_of (n:=((2:Nat):Int)) (rowsB g0 g1 g2 g3 g4) okB.min
  unfold nwL
  rw [show spMin [.int .i64 2,.slice (some ⟨N+16,0,none⟩) 4 4] hp=some (minNL 2 (exL exB)) from e]
  unfold minNL
  rw [if_neg (by rw [togB];simp),show (exL exB).length=4 from rfl,minB]
  rfl
 have kr:∀ hp k,hget hp (N+16)=some ⟨40,5,true,eqV (N+9) 2 1 ++ (eqV (N+11) 2 2 ++ (eqV (N+13) 2 0 ++ eqV (N+15) 2 3))⟩ -> hget hp (N+9)=some ⟨38,3,false,ratC [1,0]⟩ -> hget hp (N+11)=some ⟨38,3,false,ratC [2,0]⟩ -> hget hp (N+13)=some ⟨38,3,false,ratC [0,1]⟩ -> hget hp (N+15)=some ⟨38,3,false,ratC [1,0]⟩ ->
   nwL spRed [.int .i64 2,.slice (some ⟨N+16,0,none⟩) 4 4] hp k=some (.slice (some ⟨k,0,none⟩) 1 1,[(k,some ⟨3,1,false,intZ [1]⟩)],1):=fun hp k g0 g1 g2 g3 g4=>by
  have e:=red_of (n:=((2:Nat):Int)) (rowsB g0 g1 g2 g3 g4) okB.red
  unfold nwL
  rw [show spRed [.int .i64 2,.slice (some ⟨N+16,0,none⟩) 4 4] hp=some (intNL (redL 2 (exL exB))) from e,redB]
  rfl
 have k1:∀ hp,hget hp (N+7)=some ⟨3,1,false,intZ [0,1,2]⟩ -> hget hp (N+17)=some ⟨3,1,true,[.int .i64 0,.int .i64 1,.int .i64 2]⟩ -> spSame5 [.slice (some ⟨N+7,0,none⟩) 3 3,.slice (some ⟨N+17,0,none⟩) 3 3] hp=some (.bool true):=fun hp g0 g1=>
  same_at (L:=[0,1,2]) (Z:=[]) g0 g1 (by decide) (by decide) (by decide)
 have k2:∀ hp,hget hp (N+18)=some ⟨3,1,false,intZ [1]⟩ -> hget hp (N+19)=some ⟨3,1,true,[.int .i64 1]⟩ -> spSame5 [.slice (some ⟨N+18,0,none⟩) 1 1,.slice (some ⟨N+19,0,none⟩) 1 1] hp=some (.bool true):=fun hp g0 g1=>
  same_at (L:=[1]) (Z:=[]) g0 g1 (by decide) (by decide) (by decide)
 have k3:∀ hp,hget hp (N+20)=some ⟨3,1,false,intZ [1,3,0]⟩ -> hget hp (N+21)=some ⟨3,1,true,[.int .i64 1,.int .i64 3]⟩ -> spSame5 [.slice (some ⟨N+20,0,none⟩) 2 3,.slice (some ⟨N+21,0,none⟩) 2 2] hp=some (.bool true):=fun hp g0 g1=>
  same_at (L:=[1,3]) (Z:=[0]) g0 g1 (by decide) (by decide) (by decide)
 simp only [↓R0,R1,simprocAttr,-Int.reduceAbs,nwS,rdS,r1,r2,r3,r4,r5,r6,eqV_len,eqV_ok,setR_length,z3 (eqV (N+1) 2 1) (eqV (N+3) 2 2) (eqV (N+5) 2 4) rfl rfl rfl,z4 (eqV (N+9) 2 1) (eqV (N+11) 2 2) (eqV (N+13) 2 0) (eqV (N+15) 2 3) rfl rfl rfl rfl,km,kb,kr,k1,k2,k3,Fin,isEnd,resL,res1]
 exact ⟨_,rfl,rfl,fun k hk=>by simp only [ne_nb hk,if_false]⟩
def fitE (n:Int) (e:EqR):Prop:=(e.coef.length:Int)=n /\ smallQ e.rhs /\ ∀ q ∈ e.coef,smallQ q
def fitS (n:Int) (l:List EqR):Prop:=0 <= n /\ n <= 8 /\ l.length <= 14 /\ ∀ e ∈ l,fitE n e
noncomputable instance {n:Int} {l:List EqR}:Decidable (fitS n l):=Classical.propDecidable _
noncomputable def spFits:List Value -> Heap -> Option Value
 | [.int .i64 n,sl],h=>match decRows h sl with
  | some l=>if l.length <= 9223372036854775807 then some (.int .i64 (if fitS n l then 1 else 0)) else none
  | none=>none
 | _,_=>none
theorem cell_at {cs L:List Value} {o m i:Nat} (h:(cs.drop o).take m=L) (hi:i < m):cs[o+i]?=L[i]?:=by
 rw [<- h,List.getElem?_take_of_lt hi,List.getElem?_drop]
def c26:ICode:=
 (.seq (.reg [qq 4 (.mv (ci 0))]) (.seq (.seq (.reg [qq 7 (.mv (.t 0)),qq 8 (.bin .lss (.t 7) (ci 0)),qq 9 (.mv (.t 8)),⟨(some 10),(some (9,false)),(.mv (.t 0))⟩,⟨(some 11),(some (9,false)),(.bin .gtr (.t 10) (ci 8))⟩,qq 12 (.pick (.t 9) (.c (.bool true)) (.t 11)),qq 13 (.mv (.t 12)),⟨(some 14),(some (13,false)),(.mv (.t 1))⟩,⟨(some 15),(some (13,false)),(.lensl (.t 14))⟩,⟨(some 16),(some (13,false)),(.bin .gtr (.t 15) (ci 14))⟩,qq 17 (.pick (.t 13) (.c (.bool true)) (.t 16))]) (.cond (.t 17) (.seq (.reg [qq 4 (.mv (ci 0))]) .ret) .skip)) (.seq (.seq (.reg [qq 5 (.mv (ci 0))]) (.block 0 (.loop (.seq (.seq (.reg [qq 18 (.mv (.t 5)),qq 19 (.mv (.t 1)),qq 20 (.lensl (.t 19)),qq 21 (.bin .lss (.t 18) (.t 20))]) (.cond (.t 21) .skip (.exit 0))) (.seq (.block 1 (.seq (.seq (.reg [qq 24 (.mv (.t 1)),qq 25 (.mv (.t 5)),qq 26 (.ixsl 5 (.t 24) (.t 25)),qq 27 (.faddr 0 (.t 26)),qq 28 (.load false 1 (.t 27)),qq 29 (.lensl (.t 28)),qq 30 (.mv (.t 0)),qq 31 (.bin .neq (.t 29) (.t 30)),qq 32 (.mv (.t 31)),⟨(some 33),(some (32,false)),(.mv (.t 1))⟩,⟨(some 34),(some (32,false)),(.mv (.t 5))⟩,⟨(some 35),(some (32,false)),(.ixsl 5 (.t 33) (.t 34))⟩,⟨(some 36),(some (32,false)),(.faddr 1 (.t 35))⟩,⟨(some 37),(some (32,false)),(.faddr 1 (.t 36))⟩,⟨(some 38),(some (32,false)),(.load false 1 (.t 37))⟩,⟨(some 39),(some (32,false)),(.lens (.t 38))⟩,⟨(some 40),(some (32,false)),(.bin .gtr (.t 39) (ci 4))⟩,qq 41 (.pick (.t 32) (.c (.bool true)) (.t 40)),qq 42 (.mv (.t 41)),⟨(some 43),(some (42,false)),(.mv (.t 1))⟩,⟨(some 44),(some (42,false)),(.mv (.t 5))⟩,⟨(some 45),(some (42,false)),(.ixsl 5 (.t 43) (.t 44))⟩,⟨(some 46),(some (42,false)),(.faddr 1 (.t 45))⟩,⟨(some 47),(some (42,false)),(.faddr 2 (.t 46))⟩,⟨(some 48),(some (42,false)),(.load false 1 (.t 47))⟩,⟨(some 49),(some (42,false)),(.lens (.t 48))⟩,⟨(some 50),(some (42,false)),(.bin .gtr (.t 49) (ci 4))⟩,qq 51 (.pick (.t 42) (.c (.bool true)) (.t 50))]) (.cond (.t 51) (.seq (.reg [qq 4 (.mv (ci 0))]) .ret) .skip)) (.seq (.reg [qq 6 (.mv (ci 0))]) (.block 2 (.loop (.seq (.seq (.reg [qq 52 (.mv (.t 6)),qq 53 (.mv (.t 0)),qq 54 (.bin .lss (.t 52) (.t 53))]) (.cond (.t 54) .skip (.exit 2))) (.seq (.block 3 (.seq (.reg [qq 57 (.mv (.t 1)),qq 58 (.mv (.t 5)),qq 59 (.ixsl 5 (.t 57) (.t 58)),qq 60 (.faddr 0 (.t 59)),qq 61 (.load false 1 (.t 60)),qq 62 (.mv (.t 6)),qq 63 (.ixsl 3 (.t 61) (.t 62)),qq 64 (.faddr 1 (.t 63)),qq 65 (.load false 1 (.t 64)),qq 66 (.lens (.t 65)),qq 67 (.bin .gtr (.t 66) (ci 4)),qq 68 (.mv (.t 67)),⟨(some 69),(some (68,false)),(.mv (.t 1))⟩,⟨(some 70),(some (68,false)),(.mv (.t 5))⟩,⟨(some 71),(some (68,false)),(.ixsl 5 (.t 69) (.t 70))⟩,⟨(some 72),(some (68,false)),(.faddr 0 (.t 71))⟩,⟨(some 73),(some (68,false)),(.load false 1 (.t 72))⟩,⟨(some 74),(some (68,false)),(.mv (.t 6))⟩,⟨(some 75),(some (68,false)),(.ixsl 3 (.t 73) (.t 74))⟩,⟨(some 76),(some (68,false)),(.faddr 2 (.t 75))⟩,⟨(some 77),(some (68,false)),(.load false 1 (.t 76))⟩,⟨(some 78),(some (68,false)),(.lens (.t 77))⟩,⟨(some 79),(some (68,false)),(.bin .gtr (.t 78) (ci 4))⟩,qq 80 (.pick (.t 68) (.c (.bool true)) (.t 79))]) (.cond (.t 80) (.seq (.reg [qq 4 (.mv (ci 0))]) .ret) .skip))) (.reg [qq 55 (.mv (.t 6)),qq 56 (.bin .add (.t 55) (ci 1)),qq 6 (.mv (.t 56))])))))))) (.reg [qq 22 (.mv (.t 5)),qq 23 (.bin .add (.t 22) (ci 1)),qq 5 (.mv (.t 23))])))))) (.seq (.reg [qq 4 (.mv (ci 1))]) .ret))))
theorem tr26:trFun Tryz.prog 26=some ⟨81,[.t 4],c26⟩:=by kernel_rfl
set_option maxHeartbeats 16000000 in
theorem ok_fits:SpecOK Tryz.prog 26 (rdS spFits):=by
 refine rd_run (env_nil _) mixed tr26 ?_ ?_
 ·intro args h h' v hle e
  unfold spFits at e ⊢
  split at e
  ·split at e
   ·rename_i l hb
    simp only [decRows_mono hle hb];exact e
   ·cases e
  ·cases e
 intro args v h N hG hN
 unfold spFits at hG
 split at hG
 case h_2=>cases hG
 rename_i n sl
 split at hG
 case h_2=>cases hG
 rename_i l hx
 split at hG
 case isFalse=>cases hG
 rename_i hm
 cases hG
 obtain ⟨a,cc,rfl⟩:=listAt_sl (dec:=decEq h) hx
 refine ⟨by rfl,by simp,?_⟩
 by_cases b1:n < 0
 ·rw [if_neg (fun e:fitS n l=>by have:=e.1;omega)]
  have g1:(n < 0)=True:=eq_true b1
  simp only [c26,G0,Nat.reduceAdd]
  simp only [↓R0,R1,simprocAttr,-Int.reduceAbs,g1,Fin,isEnd,resL,res1]
  exact ⟨_,rfl,rfl,fun k hk=>by simp only [ne_nb hk,if_false]⟩
 have g1:(n < 0)=False:=eq_false b1
 by_cases b2:n > 8
 ·rw [if_neg (fun e:fitS n l=>by have:=e.2.1;omega)]
  have g2:(n > 8)=True:=eq_true b2
  simp only [c26,G0,Nat.reduceAdd]
  simp only [↓R0,R1,simprocAttr,-Int.reduceAbs,g1,g2,Fin,isEnd,resL,res1]
  exact ⟨_,rfl,rfl,fun k hk=>by simp only [ne_nb hk,if_false]⟩
 have g2:(n > 8)=False:=eq_false b2
 by_cases b3:l.length > 14
 ·rw [if_neg (fun e:fitS n l=>by have:=e.2.2.1;omega)]
  have g3:((l.length:Int) > 14)=True:=eq_true (by omega)
  simp only [c26,G0,Nat.reduceAdd]
  simp only [↓R0,R1,simprocAttr,-Int.reduceAbs,g1,g2,g3,Fin,isEnd,resL,res1]
  exact ⟨_,rfl,rfl,fun k hk=>by simp only [ne_nb hk,if_false]⟩
 have g3:((l.length:Int) > 14)=False:=eq_false (by omega)
 have bad:∀ {i:Nat},i < l.length -> ¬ fitE n (eqAt l i) -> ¬ fitS n l:=fun hi h e=>h (e.2.2.2 _ (eqAt_mem hi))
 simp only [c26,G0,Nat.reduceAdd]
 simp only [↓R0,R1,simprocAttr,-Int.reduceAbs,g1,g2,g3]
 refine lp_parts (fun q tm hp nx=>∃ i:Nat,q+i=l.length /\ tmget tm 0 = .int .i64 n /\ tmget tm 1 = .slice a l.length cc /\ tmget tm 5 = .int .i64 i /\ (∀ j e,j < i -> l[j]?=some e -> fitE n e) /\ h=hp /\ nx=N+0) ?_ l.length
  ⟨0,by omega,?_,?_,?_,fun j e hj=>absurd hj (Nat.not_lt_zero j),rfl,rfl⟩
 rotate_left
 all_goals first | (simp only [↓R0,R1,simprocAttr,-Int.reduceAbs];done) | (simp only [↓R0,R1,simprocAttr,-Int.reduceAbs];rfl) | skip
 rintro q tm hp nx ⟨i,hq,t0,t1,t5,hall,hhp,hnx⟩
 subst hhp
 rw [hnx]
 clear hnx nx
 have wi:IntKind.i64.wrap ((i:Int)+1)=((i+1:Nat):Int):=by rw [i64_in _ (by omega)];omega
 by_cases c1:i < l.length
 case neg=>
  have e:i=l.length:=by omega
  subst e
  have c1':((l.length:Int) < (l.length:Int))=False:=eq_false (by omega)
  have fs:fitS n l:=⟨by omega,by omega,by omega,fun e he=>by
   obtain ⟨j,hj⟩:=List.getElem?_of_mem he
   exact hall j e (List.getElem?_eq_some_iff.1 hj).1 hj⟩
  rw [if_pos fs]
  simp only [↓R0,R1,simprocAttr,-Int.reduceAbs,t0,t1,t5,c1',Fin,isEnd,resL,res1]
  exact ⟨_,rfl,rfl,fun q _=>trivial⟩
 have c1':((i:Int) < (l.length:Int))=True:=eq_true (by omega)
 obtain ⟨k,off,blk,a',n',c',ea,hb,q1,q2,hn',hl'⟩:=eq_at hx c1
 subst ea
 have ee:=eqAt_some c1
 have k0:blk.cells[off+i * 5+0]?=some (.slice a' n' c'):=by have:=cell_at (i:=0) q2 (by omega);rw [this];rfl
 have k2:blk.cells[off+i * 5+1+1]?=some (.string ⟨⟨(eqAt l i).rhs.n⟩⟩):=by have:=cell_at (i:=2) q2 (by omega);rw [show off+i * 5+1+1=off+i * 5+2 by omega,this];rfl
 have k3:blk.cells[off+i * 5+1+2]?=some (.string ⟨⟨(eqAt l i).rhs.d⟩⟩):=by have:=cell_at (i:=3) q2 (by omega);rw [show off+i * 5+1+2=off+i * 5+3 by omega,this];rfl
 by_cases d1:(n':Int)=n
 case neg=>
  have d1':((n':Int)=n)=False:=eq_false d1
  rw [if_neg (bad c1 fun e=>d1 (by rw [hn'];exact e.1))]
  simp only [↓R0,R1,simprocAttr,-Int.reduceAbs,t0,t1,t5,c1,c1',hb,k0,d1',Bool.not_false,Fin,isEnd,resL,res1]
  exact ⟨_,rfl,rfl,fun q _=>trivial⟩
 have d1':((n':Int)=n)=True:=eq_true d1
 by_cases d2:(eqAt l i).rhs.n.length > 4
 ·have d2':(((eqAt l i).rhs.n.length:Int) > 4)=True:=eq_true (by omega)
  rw [if_neg (bad c1 fun e=>by have:=e.2.1.1;omega)]
  simp only [↓R0,R1,simprocAttr,-Int.reduceAbs,t0,t1,t5,c1,c1',hb,k0,k2,d1',d2',Bool.not_true,Bool.not_false,Fin,isEnd,resL,res1]
  exact ⟨_,rfl,rfl,fun q _=>trivial⟩
 have d2':(((eqAt l i).rhs.n.length:Int) > 4)=False:=eq_false (by omega)
 by_cases d3:(eqAt l i).rhs.d.length > 4
 ·have d3':(((eqAt l i).rhs.d.length:Int) > 4)=True:=eq_true (by omega)
  rw [if_neg (bad c1 fun e=>by have:=e.2.1.2;omega)]
  simp only [↓R0,R1,simprocAttr,-Int.reduceAbs,t0,t1,t5,c1,c1',hb,k0,k2,k3,d1',d2',d3',Bool.not_true,Bool.not_false,Fin,isEnd,resL,res1]
  exact ⟨_,rfl,rfl,fun q _=>trivial⟩
 have d3':(((eqAt l i).rhs.d.length:Int) > 4)=False:=eq_false (by omega)
 have nn:n=((eqAt l i).coef.length:Int):=by rw [<- d1,hn']
 simp only [↓R0,R1,simprocAttr,-Int.reduceAbs,t0,t1,t5,c1,c1',hb,k0,k2,k3,d1',d2',d3',Bool.not_true,Bool.not_false]
 refine lp_parts (fun d tm hp nx=>∃ j:Nat,d+j=(eqAt l i).coef.length /\ tmget tm 0 = .int .i64 n /\ tmget tm 1 = .slice (some ⟨k,off,none⟩) l.length cc /\ tmget tm 5 = .int .i64 i /\ tmget tm 6 = .int .i64 j /\ (∀ j',j' < j -> smallQ (rqAt (eqAt l i).coef j')) /\ h=hp /\ nx=N+0) ?_ (eqAt l i).coef.length
  ⟨0,by omega,?_,?_,?_,?_,fun j hj=>absurd hj (Nat.not_lt_zero j),rfl,rfl⟩
 rotate_left
 all_goals first | (simp only [↓R0,R1,simprocAttr,-Int.reduceAbs,t0,t1,t5];done) | (simp only [↓R0,R1,simprocAttr,-Int.reduceAbs,t0,t1,t5];rfl) | skip
 clear t0 t1 t5
 rintro d tm hp nx ⟨j,hd,t0,t1,t5,t6,hall2,hhp,hnx⟩
 subst hhp
 rw [hnx]
 clear hnx nx
 have wj:IntKind.i64.wrap ((j:Int)+1)=((j+1:Nat):Int):=by rw [i64_in _ (by omega)];omega
 by_cases cj:j < (eqAt l i).coef.length
 case neg=>
  have cj':((j:Int) < n)=False:=eq_false (by omega)
  have fe:fitE n (eqAt l i):=⟨nn.symm,⟨by omega,by omega⟩,fun q hq=>by
   obtain ⟨j',hj'⟩:=List.getElem?_of_mem hq
   have hlt:=(List.getElem?_eq_some_iff.1 hj').1
   have:=hall2 j' (by omega)
   unfold rqAt at this
   rw [hj'] at this
   exact this⟩
  simp only [↓R0,R1,simprocAttr,-Int.reduceAbs,t0,t1,t5,t6,cj',wi]
  refine ⟨q - 1,by omega,i+1,by omega,rfl,fun j' e hj he=>?_⟩
  by_cases x:j'=i
  ·subst x;rw [ee] at he;cases he;exact fe
  ·exact hall j' e (by omega) he
 have cj':((j:Int) < n)=True:=eq_true (by omega)
 have cjn:((j:Int) < (n':Int))=True:=eq_true (by omega)
 have cjn2:j < n':=by omega
 rw [hn'] at hl'
 obtain ⟨kk,f2,B2,ea2,b2,q3,q4⟩:=rq_at hl' cj
 subst ea2
 rw [<- hn'] at hl'
 have r1:B2.cells[f2+j * 3+1]?=some (.string ⟨⟨(rqAt (eqAt l i).coef j).n⟩⟩):=by have:=cell_at (i:=1) q4 (by omega);rw [this];rfl
 have r2:B2.cells[f2+j * 3+2]?=some (.string ⟨⟨(rqAt (eqAt l i).coef j).d⟩⟩):=by have:=cell_at (i:=2) q4 (by omega);rw [this];rfl
 have qm:rqAt (eqAt l i).coef j ∈ (eqAt l i).coef:=by unfold rqAt;rw [List.getElem?_eq_getElem cj];exact List.getElem_mem cj
 by_cases s1:(rqAt (eqAt l i).coef j).n.length > 4
 ·have s1':(((rqAt (eqAt l i).coef j).n.length:Int) > 4)=True:=eq_true (by omega)
  rw [if_neg (bad c1 fun e=>by have:=(e.2.2 _ qm).1;omega)]
  simp only [↓R0,R1,simprocAttr,-Int.reduceAbs,t0,t1,t5,t6,c1,c1',cj',cjn,cjn2,hb,k0,b2,r1,s1',Fin,isEnd,resL,res1]
  exact ⟨_,rfl,rfl,fun q _=>trivial⟩
 have s1':(((rqAt (eqAt l i).coef j).n.length:Int) > 4)=False:=eq_false (by omega)
 by_cases s2:(rqAt (eqAt l i).coef j).d.length > 4
 ·have s2':(((rqAt (eqAt l i).coef j).d.length:Int) > 4)=True:=eq_true (by omega)
  rw [if_neg (bad c1 fun e=>by have:=(e.2.2 _ qm).2;omega)]
  simp only [↓R0,R1,simprocAttr,-Int.reduceAbs,t0,t1,t5,t6,c1,c1',cj',cjn,cjn2,hb,k0,b2,r1,r2,s1',s2',Fin,isEnd,resL,res1]
  exact ⟨_,rfl,rfl,fun q _=>trivial⟩
 have s2':(((rqAt (eqAt l i).coef j).d.length:Int) > 4)=False:=eq_false (by omega)
 simp only [↓R0,R1,simprocAttr,-Int.reduceAbs,t0,t1,t5,t6,c1,c1',cj',cjn,cjn2,hb,k0,b2,r1,r2,s1',s2',wj]
 refine ⟨d - 1,by omega,j+1,by omega,rfl,fun j' hj'=>?_⟩
 by_cases x:j'=j
 ·subst x;exact ⟨by omega,by omega⟩
 ·exact hall2 j' (by omega)
def nmE (e:EqR):EqR:=⟨e.coef.map fun q=>RQ.of q.v,RQ.of e.rhs.v,e.line⟩
def nmL (l:List EqR):List EqR:=l.map nmE
theorem nmL_len (l:List EqR):(nmL l).length=l.length:=by unfold nmL;rw [List.length_map]
theorem nmL_at {l:List EqR} {i:Nat} (h:i < l.length):eqAt (nmL l) i=nmE (eqAt l i):=by
 unfold eqAt nmL
 rw [List.getElem?_map,List.getElem?_eq_getElem h];rfl
def nmCo (n:Nat) (ρ:Nat -> Nat) (j:Nat):Value:=if n=0 then .slice none 0 0 else .slice (some ⟨ρ j,0,none⟩) n n
def nmF (n:Nat) (ρ:Nat -> Nat) (l:List EqR) (j:Nat):List Value:=nmCo n ρ j :: (eqAt l j).tl
def nmNL (n:Nat) (l:List EqR):NewL:=
 if l=[] then ⟨0,fun _ => .tuple ⟨[.slice none 0 0,.bool true]⟩,fun _=>0,fun _=>0,fun _ _=>[]⟩
 else ⟨if n=0 then 1 else l.length+1,fun σ => .tuple ⟨[.slice (some ⟨σ 0,0,none⟩) l.length l.length,.bool true]⟩,fun i=>if i=0 then 40 else 38,fun i=>if i=0 then 5 else 3,
  fun σ i=>if i=0 then blkC (nmF n (fun j=>σ (j+1)) l) l.length else rqs (eqAt l (i - 1)).coef⟩
noncomputable def spNormed:List Value -> Heap -> Option NewL
 | [.int .i64 n,sl],h=>match decRows h sl with
  | some l=>if l.length <= 9223372036854775807 then (if fitS n l then some (nmNL n.toNat (nmL l)) else some ⟨0,fun _ => .tuple ⟨[.slice none 0 0,.bool false]⟩,fun _=>0,fun _=>0,fun _ _=>[]⟩) else none
  | none=>none
 | _,_=>none
theorem VRs.blk {β:Emb} {f g:Nat -> List Value}:∀ {m:Nat},(∀ j,j < m -> VRs β (f j) (g j)) -> VRs β (blkC f m) (blkC g m)
 | 0,_ => .nil
 | m+1,h=>(VRs.blk fun j hj=>h j (by omega)).append (h m (by omega))
theorem nmNL_par (n:Nat) (l:List EqR) (h:Heap):(nmNL n l).Par h:=by
 unfold nmNL
 split
 ·exact ⟨fun β σ σ' _ _ => .tup _ _ (.cons _ _ _ _ (.base _ rfl) (.cons _ _ _ _ (.base _ rfl) .nil)),fun β σ σ' _ _ i hi=>absurd hi (Nat.not_lt_zero i)⟩
 ·refine ⟨fun β σ σ' b1 _ => .tup _ _ (.cons _ _ _ _ (VR.sl (σ 0) 0 _ _ ⟨σ' 0,0,[]⟩ (b1 0 (by show 0 < if n=0 then 1 else l.length+1;split <;> omega))) (.cons _ _ _ _ (.base _ rfl) .nil)),fun β σ σ' b1 _ i hi=>?_⟩
  match i with
  | 0=>
   show VRs β (blkC (nmF n (fun j=>σ (j+1)) l) l.length) (blkC (nmF n (fun j=>σ' (j+1)) l) l.length)
   refine VRs.blk fun j hj => .cons _ _ _ _ ?_ (VRs.of_base rfl)
   unfold nmCo
   by_cases z:n=0
   ·rw [if_pos z,if_pos z];exact .base _ rfl
   ·rw [if_neg z,if_neg z]
    exact VR.sl (σ (j+1)) 0 _ _ ⟨σ' (j+1),0,[]⟩ (b1 (j+1) (by show j+1 < if n=0 then 1 else l.length+1;rw [if_neg z];omega))
  | i+1=>
   show VRs β (rqs (eqAt l i).coef) (rqs (eqAt l i).coef)
   exact VRs.of_base (rqs_base _)
def NmS (hp:Heap) (N M n:Nat) (l:List EqR) (i:Nat) (sl:Value):Prop:=
 (i=0 /\ sl = .slice none 0 0) \/ (0 < i /\ ∃ (kL:Nat) (x:Bool) (ρ:Nat -> Nat),sl = .slice (some ⟨kL,0,none⟩) i i /\ hget hp kL=some ⟨40,5,x,blkC (nmF n ρ l) i⟩ /\ N <= kL /\ kL < M /\
  (n ≠ 0 -> (∀ j,j < i -> (∃ y,hget hp (ρ j)=some ⟨38,3,y,rqs (eqAt l j).coef⟩) /\ N <= ρ j /\ ρ j < M /\ ρ j ≠ kL) /\ ∀ j j',j < i -> j' < i -> ρ j=ρ j' -> j=j'))
def CoS (hp:Heap) (N M:Nat) (cs:List RQ) (j:Nat) (co:Value):Prop:=
 (j=0 /\ co = .slice none 0 0) \/ (0 < j /\ ∃ (kk:Nat) (x:Bool),co = .slice (some ⟨kk,0,none⟩) j j /\ hget hp kk=some ⟨38,3,x,rqs (cs.take j)⟩ /\ N <= kk /\ kk < M)
theorem updF (ρ:Nat -> Nat) (i v:Nat):∃ ρ':Nat -> Nat,ρ' i=v /\ ∀ j,j ≠ i -> ρ' j=ρ j:=⟨fun j=>if j=i then v else ρ j,if_pos rfl,fun j hj=>if_neg hj⟩
theorem NmS.push {hp hp':Heap} {N M M0 M' n i kN:Nat} {l:List EqR} {x:Bool} {sl co:Value} (S:NmS hp N M n l i sl) (keep:∀ q,q < M -> q ≠ (match sl with | .slice (some ⟨k,_,_⟩) _ _=>k | _=>M) -> hget hp' q=hget hp q)
  (hm:M <= M0) (hco:CoS hp' M0 M' (eqAt l i).coef n co) (hl:(eqAt l i).coef.length=n) (hk:hget hp' kN=some ⟨40,5,x,(match sl with | .slice (some ⟨k,_,_⟩) _ _=>(match hget hp k with | some b=>b.cells | none=>[]) | _=>[]) ++ (co :: (eqAt l i).tl)⟩)
  (h1:M <= kN) (h2:kN < M') (h3:∀ k,co = .slice (some ⟨k,0,none⟩) n n -> k ≠ kN) (hN:N <= M) (hM':M <= M'):NmS hp' N M' n l (i+1) (.slice (some ⟨kN,0,none⟩) (i+1) (i+1)):=by
 have main:∀ (ρ:Nat -> Nat),(n ≠ 0 -> (∀ j,j < i -> (∃ y,hget hp' (ρ j)=some ⟨38,3,y,rqs (eqAt l j).coef⟩) /\ N <= ρ j /\ ρ j < M) /\ ∀ j j',j < i -> j' < i -> ρ j=ρ j' -> j=j') ->
   hget hp' kN=some ⟨40,5,x,blkC (nmF n ρ l) i ++ (co :: (eqAt l i).tl)⟩ -> NmS hp' N M' n l (i+1) (.slice (some ⟨kN,0,none⟩) (i+1) (i+1)):=by
  intro ρ hρ hk
  rcases hco with ⟨z,rfl⟩ | ⟨z,kk,y,rfl,c1,c2,c3⟩
  ·subst z
   refine .inr ⟨by omega,kN,x,ρ,rfl,?_,by omega,h2,fun z=>absurd rfl z⟩
   rw [hk]
   rfl
  ·obtain ⟨ρ',p1,p2⟩:=updF ρ i kk
   obtain ⟨g1,g2⟩:=hρ (by omega)
   refine .inr ⟨by omega,kN,x,ρ',rfl,?_,by omega,h2,fun _=>⟨fun j hj=>?_,fun j j' hj hj' e=>?_⟩⟩
   ·rw [hk]
    congr 2
    show _=blkC _ i ++ _
    congr 1
    ·exact blkC_congr fun j hj=>by unfold nmF nmCo;rw [p2 j (by omega)]
    ·unfold nmF nmCo;rw [p1,if_neg (by omega)]
   ·by_cases e:j=i
    ·subst e
     rw [p1]
     rw [List.take_of_length_le (by omega)] at c1
     exact ⟨⟨y,c1⟩,by omega,c3,h3 _ rfl⟩
    ·rw [p2 j e]
     obtain ⟨a,b,c⟩:=g1 j (by omega)
     exact ⟨a,b,by omega,by omega⟩
   ·by_cases e1:j=i
    ·subst e1
     by_cases e2:j'=j
     ·exact e2.symm
     ·rw [p1,p2 j' e2] at e
      have:=(g1 j' (by omega)).2.2
      omega
    ·by_cases e2:j'=i
     ·subst e2
      rw [p1,p2 j e1] at e
      have:=(g1 j (by omega)).2.2
      omega
     ·rw [p2 j e1,p2 j' e2] at e
      exact g2 j j' (by omega) (by omega) e
 rcases S with ⟨z,rfl⟩ | ⟨z,kL,y,ρ,rfl,a1,a2,a3,a4⟩
 ·subst z
  exact main (fun _=>0) (fun _=>⟨fun j hj=>absurd hj (Nat.not_lt_zero _),fun j j' hj=>absurd hj (Nat.not_lt_zero _)⟩) hk
 ·simp only [a1] at hk
  refine main ρ (fun hn=>⟨fun j hj=>?_,(a4 hn).2⟩) hk
  obtain ⟨⟨y,b1⟩,b2,b3,b4⟩:=(a4 hn).1 j hj
  exact ⟨⟨y,by rw [keep _ b3 b4];exact b1⟩,b2,b3⟩
theorem nmE_cells (e:EqR):setR (setR [.slice none 0 0,.bool false,.string ⟨⟨[]⟩⟩,.string ⟨⟨[]⟩⟩,.int .i64 0] 1 (rE e.rhs.v)) 4 [.int .i64 e.line] = .slice none 0 0 :: (nmE e).tl:=rfl
def c10:ICode:=
 (.seq (.reg [qq 4 (.mv (.c (.slice none 0 0))),qq 5 (.mv (.c (.bool false)))]) (.seq (.seq (.reg [qq 10 (.mv (.t 0)),qq 11 (.mv (.t 1)),qq 12 (.call 26 [(.t 10),(.t 11)]),qq 13 (.bin .eql (.t 12) (ci 0))]) (.cond (.t 13) (.seq (.reg [qq 4 (.mv (.c (.slice none 0 0))),qq 5 (.mv (.c (.bool false)))]) .ret) .skip)) (.seq (.reg [qq 6 (.mv (.c (.slice none 0 0)))]) (.seq (.seq (.reg [qq 7 (.mv (ci 0))]) (.block 0 (.loop (.seq (.seq (.reg [qq 14 (.mv (.t 7)),qq 15 (.mv (.t 1)),qq 16 (.lensl (.t 15)),qq 17 (.bin .lss (.t 14) (.t 16))]) (.cond (.t 17) .skip (.exit 0))) (.seq (.block 1 (.seq (.dreg [qu 20 (.mv (.t 1)),qu 21 (.mv (.t 7)),qu 22 (.ixsl 5 (.t 20) (.t 21)),qu 23 (.faddr 1 (.t 22)),qu 24 (.load true 3 (.t 23)),qu 25 (.call 27 [(.t 24)]),qu 26 (.mv (.t 1)),qu 27 (.mv (.t 7)),qu 28 (.ixsl 5 (.t 26) (.t 27)),qu 29 (.faddr 4 (.t 28)),qv 30 [5] (.load false 1 (.t 29)),qu 31 (.build [(.slice none 0 0),(.bool false),e0,e0,(.int .i64 0)] [(1,3,(.t 25)),(4,1,(.t 30))]),qu 8 (.alloc 40 5 [(.slice none 0 0),(.bool false),e0,e0,(.int .i64 0)]),qm (.store 5 (.t 8) (.t 31))]) (.seq (.seq (.reg [qq 9 (.mv (ci 0))]) (.block 2 (.loop (.seq (.seq (.reg [qq 32 (.mv (.t 9)),qq 33 (.mv (.t 0)),qq 34 (.bin .lss (.t 32) (.t 33))]) (.cond (.t 34) .skip (.exit 2))) (.seq (.block 3 (.dreg [qu 37 (.faddr 0 (.t 8)),qu 38 (.load false 1 (.t 37)),qu 39 (.mv (.t 1)),qu 40 (.mv (.t 7)),qu 41 (.ixsl 5 (.t 39) (.t 40)),qu 42 (.faddr 0 (.t 41)),qu 43 (.load false 1 (.t 42)),qu 44 (.mv (.t 9)),qu 45 (.ixsl 3 (.t 43) (.t 44)),qu 46 (.load true 3 (.t 45)),qu 47 (.call 27 [(.t 46)]),qu 48 (.bslice 38 3 1 [(.bool false),e0,e0] [(0,3,(.t 47))]),qu 49 (.app 38 3 40 (.t 38) (.t 48)),qu 50 (.faddr 0 (.t 8)),qm (.store 1 (.t 50) (.t 49))])) (.reg [qq 35 (.mv (.t 9)),qq 36 (.bin .add (.t 35) (ci 1)),qq 9 (.mv (.t 36))])))))) (.reg [qq 51 (.mv (.t 6)),qq 52 (.load true 5 (.t 8)),qq 53 (.bslice 40 5 1 [(.slice none 0 0),(.bool false),e0,e0,(.int .i64 0)] [(0,5,(.t 52))]),qq 54 (.app 40 5 72 (.t 51) (.t 53)),qq 6 (.mv (.t 54))])))) (.reg [qq 18 (.mv (.t 7)),qq 19 (.bin .add (.t 18) (ci 1)),qq 7 (.mv (.t 19))])))))) (.seq (.reg [qq 55 (.mv (.t 6)),qq 4 (.mv (.t 55)),qq 5 (.mv (.c (.bool true)))]) .ret)))))
theorem tr10:trFun Tryz.prog 10=some ⟨56,[.t 4,.t 5],c10⟩:=by kernel_rfl
set_option maxHeartbeats 32000000 in
theorem ok_normed:SpecOK Tryz.prog 10 (nwL spNormed):=by
 refine newL_run (env_cons ok_fits (env_cons ok_r3Norm (env_nil _))) mixed tr10 ?_ ?_
 ·intro args h h' r hle e
  unfold spNormed at e ⊢
  split at e
  ·split at e
   ·rename_i l hb
    simp only [decRows_mono hle hb];exact e
   ·cases e
  ·cases e
 intro args h N r hG hN
 unfold spNormed at hG
 split at hG
 case h_2=>cases hG
 rename_i n sl
 split at hG
 case h_2=>cases hG
 rename_i l hx
 split at hG
 case isFalse=>cases hG
 rename_i hm
 obtain ⟨a,cc,rfl⟩:=listAt_sl (dec:=decEq h) hx
 have fx:spFits [.int .i64 n,.slice a l.length cc] h=some (.int .i64 (if fitS n l then 1 else 0)):=by
  unfold spFits
  simp only [hx]
  exact if_pos hm
 split at hG
 case isFalse=>
  rename_i nf
  cases hG
  refine ⟨⟨fun β σ σ' _ _ => .tup _ _ (.cons _ _ _ _ (.base _ rfl) (.cons _ _ _ _ (.base _ rfl) .nil)),fun β σ σ' _ _ i hi=>absurd hi (Nat.not_lt_zero i)⟩,by simp,?_⟩
  rw [if_neg nf] at fx
  simp only [c10,G0,Nat.reduceAdd]
  simp only [↓R0,R1,simprocAttr,-Int.reduceAbs,rdS,fx,FinL,isEnd,resL,res1]
  exact ⟨fun i=>i,_,fun i hi=>absurd hi (Nat.not_lt_zero i),fun i j hi=>absurd hi (Nat.not_lt_zero i),rfl,rfl,fun i hi=>absurd hi (Nat.not_lt_zero i),fun k _=>trivial⟩
 rename_i ft
 cases hG
 rw [if_pos ft] at fx
 obtain ⟨n0,n8,m14,hfit⟩:=ft
 obtain ⟨n,rfl⟩:=Int.eq_ofNat_of_zero_le n0
 rw [Int.toNat_natCast]
 refine ⟨nmNL_par _ _ _,by simp,?_⟩
 have hL:=nmL_len l
 simp only [c10,G0,Nat.reduceAdd]
 simp only [↓R0,R1,simprocAttr,-Int.reduceAbs,rdS,fx]
 refine lp_parts (fun q tm hp nx=>∃ (i M:Nat) (o:Value),q+i=l.length /\ tmget tm 0 = .int .i64 n /\ tmget tm 1 = .slice a l.length cc /\ tmget tm 7 = .int .i64 i /\ tmget tm 6=o /\ NmS hp N M n (nmL l) i o /\ ExtL N h hp /\ N <= M /\ nx=M+0) ?_ l.length
  ⟨0,N,.slice none 0 0,by omega,?_,?_,?_,?_,.inl ⟨rfl,rfl⟩,fun q _=>rfl,Nat.le_refl _,rfl⟩
 rotate_left
 all_goals first | (simp only [↓R0,R1,simprocAttr,-Int.reduceAbs];done) | (simp only [↓R0,R1,simprocAttr,-Int.reduceAbs];rfl) | skip
 rintro q tm hp nx ⟨i,M,o,hq,t0,t1,t7,t6,hS,hh,hM,hnx⟩
 rw [hnx]
 clear hnx nx
 have wi:IntKind.i64.wrap ((i:Int)+1)=((i+1:Nat):Int):=by rw [i64_in _ (by omega)];omega
 by_cases c1:i < l.length
 case neg=>
  have e:i=l.length:=by omega
  subst e
  have c1':((l.length:Int) < (l.length:Int))=False:=eq_false (by omega)
  unfold nmNL
  rcases hS with ⟨z,rfl⟩ | ⟨z,kL,x,ρ,rfl,a1,a2,a3,a4⟩
  ·rw [if_pos (List.eq_nil_of_length_eq_zero (by rw [hL];exact z))]
   simp only [↓R0,R1,simprocAttr,-Int.reduceAbs,t0,t1,t7,t6,c1',FinL,isEnd,resL,res1]
   exact ⟨fun i=>i,_,fun i hi=>absurd hi (Nat.not_lt_zero i),fun i j hi=>absurd hi (Nat.not_lt_zero i),rfl,rfl,fun i hi=>absurd hi (Nat.not_lt_zero i),hh⟩
  ·rw [if_neg (fun e=>by rw [e] at hL;simp at hL;omega),hL]
   simp only [↓R0,R1,simprocAttr,-Int.reduceAbs,t0,t1,t7,t6,c1',FinL,isEnd,resL,res1]
   by_cases zn:n=0
   ·subst zn
    refine ⟨fun _=>kL,_,fun i hi=>(by omega:N <= kL),fun i j hi hj _=>?_,rfl,rfl,fun i hi=>⟨x,?_⟩,hh⟩
    ·simp at hi hj;omega
    ·simp at hi
     subst hi
     exact a1
   ·obtain ⟨b1,b2⟩:=a4 zn
    refine ⟨fun i=>if i=0 then kL else ρ (i - 1),_,fun i hi=>?_,fun i j hi hj e=>?_,rfl,rfl,fun i hi=>?_,hh⟩
    ·show N <= if i=0 then kL else ρ (i - 1)
     rw [if_neg zn] at hi
     split
     ·omega
     ·exact (b1 (i - 1) (by omega)).2.1
    ·rw [if_neg zn] at hi hj
     simp only at e
     by_cases e1:i=0
     ·by_cases e2:j=0
      ·omega
      ·rw [if_pos e1,if_neg e2] at e
       exact absurd e.symm (b1 (j - 1) (by omega)).2.2.2
     ·by_cases e2:j=0
      ·rw [if_neg e1,if_pos e2] at e
       exact absurd e (b1 (i - 1) (by omega)).2.2.2
      ·rw [if_neg e1,if_neg e2] at e
       have:=b2 _ _ (by omega) (by omega) e
       omega
    ·rw [if_neg zn] at hi
     match i with
     | 0=>exact ⟨x,a1⟩
     | i+1=>
      obtain ⟨⟨y,g⟩,_⟩:=b1 i (by omega)
      exact ⟨y,g⟩
 have c1':((i:Int) < (l.length:Int))=True:=eq_true (by omega)
 obtain ⟨k,off,blk,a',n',c',ea,hb,q1,q2,hn',hl'⟩:=eq_at hx c1
 subst ea
 have fe:=hfit _ (eqAt_mem c1)
 have hnn:n'=n:=by have:=fe.1;omega
 subst hnn
 have nk:=hN _ _ hb
 have hbb:hget hp k=some blk:=by rw [hh k nk];exact hb
 have Mk:∀ d,(M+d=k)=False:=fun d=>eq_false (by omega)
 have e51:(blk.cells.drop (off+i * 5+1)).take 3=(eqAt l i).rhs.cells:=by
  have:=congrArg (fun y=>(y.drop 1).take 3) q2
  simp only [List.drop_take,List.take_take,List.drop_drop] at this
  exact this
 have q3:off+i * 5+1+3 <= blk.cells.length:=by omega
 have k4:blk.cells[off+i * 5+4]?=some (.int .i64 (eqAt l i).line):=by have:=cell_at (i:=4) q2 (by omega);rw [this];rfl
 have k0:blk.cells[off+i * 5+0]?=some (.slice a' n' c'):=by have:=cell_at (i:=0) q2 (by omega);rw [this];rfl
 have rn:∀ q:RQ,smallQ q -> spR3Norm [.agg ⟨q.cells⟩]=some (.agg ⟨rE q.v⟩):=fun q hq=>if_pos ⟨by have:=hq.1;omega,by have:=hq.2;omega⟩
 have rn1:=rn _ fe.2.1
 have E1:=nmE_cells (eqAt l i)
 have E2:(Value.slice none 0 0 :: (nmE (eqAt l i)).tl).length=5:=rfl
 have E3:setR [.slice none 0 0,.bool false,.string ⟨⟨[]⟩⟩,.string ⟨⟨[]⟩⟩,.int .i64 0] 0 (Value.slice none 0 0 :: (nmE (eqAt l i)).tl)=Value.slice none 0 0 :: (nmE (eqAt l i)).tl:=rfl
 have E4:(Value.slice none 0 0 :: (nmE (eqAt l i)).tl).all okCell=true:=rfl
 have T1:(nmE (eqAt l i)).tl.length=4:=rfl
 have T2:(nmE (eqAt l i)).tl.all okCell=true:=rfl
 have T3:(nmE (eqAt l i)).tl.take 4=(nmE (eqAt l i)).tl:=rfl
 have T4:∀ v,setR [v,.bool false,.string ⟨⟨[]⟩⟩,.string ⟨⟨[]⟩⟩,.int .i64 0] 1 (nmE (eqAt l i)).tl=v :: (nmE (eqAt l i)).tl:=fun _=>rfl
 have T5:(eqAt (nmL l) i).tl=(nmE (eqAt l i)).tl:=by rw [nmL_at c1]
 have rl:(eqAt l i).rhs.cells.length=3:=rfl
 generalize (eqAt l i).rhs.cells=RH at *
 generalize eT:(nmE (eqAt l i)).tl=TL at *
 simp only [↓R0,R1,simprocAttr,-Int.reduceAbs,flat,t0,t1,t7,t6,c1,c1',hbb,q1,q3,Mk,e51,k4,rn1,setR_length,rE_l3',rE_o3',E1,E2,E3,E4]
 have hC:=fe.2.2
 have hD:(nmE (eqAt l i)).coef=(eqAt l i).coef.map fun q=>RQ.of q.v:=rfl
 have hDl:(nmE (eqAt l i)).coef.length=n':=by rw [hD,List.length_map];omega
 refine lp_parts (fun d tm hp2 nx=>∃ (j M2:Nat) (co:Value),d+j=n' /\ tmget tm 0 = .int .i64 n' /\ tmget tm 1 = .slice (some ⟨k,off,none⟩) l.length cc /\ tmget tm 6=o /\ tmget tm 7 = .int .i64 i /\ tmget tm 8 = .pointer (some ⟨M+0,0,none⟩) /\ tmget tm 9 = .int .i64 j /\
   hget hp2 (M+0)=some ⟨40,5,true,co :: TL⟩ /\ CoS hp2 (M+1) M2 (nmE (eqAt l i)).coef j co /\ (∀ q,q < M -> hget hp2 q=hget hp q) /\ M+1 <= M2 /\ nx=M2+0) ?_ n'
  ⟨0,M+1,.slice none 0 0,by omega,?_,?_,?_,?_,?_,?_,?_,.inl ⟨rfl,rfl⟩,?_,Nat.le_refl _,rfl⟩
 rotate_left
 all_goals first | (simp only [↓R0,R1,simprocAttr,-Int.reduceAbs,t0,t1,t6,t7];done) | (simp only [↓R0,R1,simprocAttr,-Int.reduceAbs,t0,t1,t6,t7];rfl) | skip
 ·intro q hq
  have nb:∀ d,(M+d=q)=False:=fun d=>eq_false (by omega)
  simp only [↓R0,R1,simprocAttr,-Int.reduceAbs,nb]
 clear t0 t1 t6 t7
 rintro d tm hp2 nx ⟨j,M2,co,hd,t0,t1,t6,t7,t8,t9,bx,hco,hh2,hM2,hnx⟩
 rw [hnx]
 clear hnx nx
 have wj:IntKind.i64.wrap ((j:Int)+1)=((j+1:Nat):Int):=by rw [i64_in _ (by omega)];omega
 have hbb2:hget hp2 k=some blk:=by rw [hh2 k (by omega)];exact hbb
 have Mk2:∀ d,(M2+d=k)=False:=fun d=>eq_false (by omega)
 have Mx:∀ d,(M2+d=M+0)=False:=fun d=>eq_false (by omega)
 have My:∀ d,(M+0=M2+d)=False:=fun d=>eq_false (by omega)
 have Mk3:(M+0=k)=False:=eq_false (by omega)
 by_cases cj:j < n'
 case pos=>
  have cj':((j:Int) < (n':Int))=True:=eq_true (by omega)
  obtain ⟨kk,f2,B2,ea2,b2,p3,p4⟩:=rq_at hl' cj
  have nk2:=hN _ _ b2
  have b2':hget hp2 kk=some B2:=by rw [hh2 kk (by omega),hh kk nk2];exact b2
  have Nk1:∀ d,(M2+d=kk)=False:=fun d=>eq_false (by omega)
  have Nk2:(M+0=kk)=False:=eq_false (by omega)
  rw [ea2] at k0
  have qm:rqAt (eqAt l i).coef j ∈ (eqAt l i).coef:=by unfold rqAt;rw [List.getElem?_eq_getElem (by omega)];exact List.getElem_mem (by omega)
  have rn2:=rn _ (hC _ qm)
  have Dj:(nmE (eqAt l i)).coef[j]?=some (RQ.of (rqAt (eqAt l i).coef j).v):=by
   rw [hD,List.getElem?_map]
   unfold rqAt
   rw [List.getElem?_eq_getElem (by omega)];rfl
  have Ds:rqs ((nmE (eqAt l i)).coef.take (j+1))=rqs ((nmE (eqAt l i)).coef.take j) ++ rE (rqAt (eqAt l i).coef j).v:=by
   rw [List.take_add_one,Dj]
   exact (rqs_app _ _).symm
  have Dl:(rqs ((nmE (eqAt l i)).coef.take j)).length=j * 3:=by rw [rqs_len,List.length_take,hDl,Nat.min_eq_left (by omega)]
  have s3:setR [.bool false,.string ⟨⟨[]⟩⟩,.string ⟨⟨[]⟩⟩] 0 (rE (rqAt (eqAt l i).coef j).v)=rE (rqAt (eqAt l i).coef j).v:=rfl
  have u3:(rE (rqAt (eqAt l i).coef j).v).take 3=rE (rqAt (eqAt l i).coef j).v:=rfl
  have ql:(rqAt (eqAt l i).coef j).cells.length=3:=rfl
  have r3:=rE_l3' (rqAt (eqAt l i).coef j).v
  have r4:=rE_o3' (rqAt (eqAt l i).coef j).v
  generalize (rqAt (eqAt l i).coef j).cells=QC at *
  generalize eRE:rE (rqAt (eqAt l i).coef j).v=RE at *
  rcases hco with ⟨z,rfl⟩ | ⟨z,kc,y,rfl,g1,g2,g3⟩
  ·have D0:rqs ((nmE (eqAt l i)).coef.take j)=[]:=List.eq_nil_of_length_eq_zero (by rw [Dl,z])
   rw [D0,List.nil_append] at Ds
   simp only [↓R0,R1,simprocAttr,-Int.reduceAbs,flat,t0,t1,t6,t7,t8,t9,c1,c1',cj,cj',hbb2,bx,k0,b2',p3,p4,Mk2,Mk3,Mx,My,Nk1,Nk2,rn2,s3,u3,r3,r4,ql,T1,T2,wj,setR_length]
   refine ⟨d - 1,by omega,j+1,M2+2,.slice (some ⟨M2+1,0,none⟩) 1 1,by omega,rfl,rfl,.inr ⟨by omega,M2+1,false,by rw [z],?_,by omega,by omega⟩,fun q hq=>?_,by omega,rfl⟩
   ·rw [Ds]
    simp only [↓R0,R1,simprocAttr,-Int.reduceAbs,Mx,My]
   ·have nb:∀ d,(M2+d=q)=False:=fun d=>eq_false (by omega)
    have nc:(M+0=q)=False:=eq_false (by omega)
    simp only [↓R0,R1,simprocAttr,-Int.reduceAbs,nb,nc]
    exact hh2 q hq
  ·have v1:∀ d,(M2+d=kc)=False:=fun d=>eq_false (by omega)
   have v2:∀ d,(kc=M2+d)=False:=fun d=>eq_false (by omega)
   have v3:(M+0=kc)=False:=eq_false (by omega)
   have v4:(kc=M+0)=False:=eq_false (by omega)
   have nler:(j+1 <= j)=False:=eq_false (by omega)
   have ovr:((j+1) * 40 <= 140737488355328)=True:=eq_true (by omega)
   generalize eDT:rqs ((nmE (eqAt l i)).coef.take j)=DT at *
   simp only [↓R0,R1,simprocAttr,-Int.reduceAbs,flat,t0,t1,t6,t7,t8,t9,c1,c1',cj,cj',hbb2,bx,k0,b2',p3,p4,Mk2,Mk3,Mx,My,Nk1,Nk2,rn2,s3,u3,r3,r4,ql,T1,T2,wj,setR_length,g1,Dl,nler,ovr,v1,v2,v3,v4]
   refine ⟨d - 1,by omega,j+1,M2+2,.slice (some ⟨M2+1,0,none⟩) (j+1) (j+1),by omega,rfl,rfl,.inr ⟨by omega,M2+1,false,rfl,?_,by omega,by omega⟩,fun q hq=>?_,by omega,rfl⟩
   ·rw [Ds]
    simp only [↓R0,R1,simprocAttr,-Int.reduceAbs,Mx,My,v1,v2,v3,v4]
   ·have nb:∀ d,(M2+d=q)=False:=fun d=>eq_false (by omega)
    have nc:(M+0=q)=False:=eq_false (by omega)
    have nq:(kc=q)=False:=eq_false (by omega)
    simp only [↓R0,R1,simprocAttr,-Int.reduceAbs,nb,nc,nq]
    exact hh2 q hq
 have ej:j=n':=by omega
 subst ej
 have cj':((j:Int) < (j:Int))=False:=eq_false (by omega)
 have cok:okCell co=true:=by rcases hco with ⟨_,rfl⟩ | ⟨_,kc,y,rfl,_⟩ <;> rfl
 have nlr:(i+1 <= i)=False:=eq_false (by omega)
 have ov2:((i+1) * 72 <= 140737488355328)=True:=eq_true (by omega)
 rcases hS with ⟨z,rfl⟩ | ⟨z,kL,x,ρ,rfl,a1,a2,a3,a4⟩
 ·simp only [↓R0,R1,simprocAttr,-Int.reduceAbs,t0,t1,t6,t7,t8,t9,cj',bx,Mx,My,T1,T2,T3,T4,cok,wi,setR_length]
  refine ⟨q - 1,by omega,i+1,M2+2,.slice (some ⟨M2+1,0,none⟩) 1 1,by omega,rfl,rfl,?_,?_,by omega,rfl⟩
  ·have P:=NmS.push (hp:=hp) (hp':=(M2+1,some ⟨40,5,false,co :: TL⟩) :: (M2+0,some ⟨40,5,true,co :: TL⟩) :: hp2) (N:=N) (M:=M) (M0:=M+1) (M':=M2+2) (n:=j) (i:=i) (kN:=M2+1) (l:=nmL l) (x:=false) (sl:=.slice none 0 0) (co:=co) (.inl ⟨z,rfl⟩) ?_ (by omega) ?_ ?_ ?_ (by omega) (by omega) ?_ hM (by omega)
   ·rw [show Value.slice (some ⟨M2+1,0,none⟩) 1 1 = .slice (some ⟨M2+1,0,none⟩) (i+1) (i+1) by rw [z]]
    exact P
   ·intro q hq _
    have nb:∀ d,(M2+d=q)=False:=fun d=>eq_false (by omega)
    simp only [↓R0,R1,simprocAttr,-Int.reduceAbs,nb]
    exact hh2 q hq
   ·rw [nmL_at c1]
    rcases hco with ⟨z,rfl⟩ | ⟨z,kc,y,rfl,g1,g2,g3⟩
    ·exact .inl ⟨z,rfl⟩
    ·have nb:∀ d,(M2+d=kc)=False:=fun d=>eq_false (by omega)
     exact .inr ⟨z,kc,y,rfl,by simp only [↓R0,R1,simprocAttr,-Int.reduceAbs,nb];exact g1,g2,by omega⟩
   ·rw [nmL_at c1];exact hDl
   ·rw [T5]
    simp only [↓R0,R1,simprocAttr,-Int.reduceAbs]
   ·intro kc e
    rcases hco with ⟨z,rfl⟩ | ⟨z,kc',y,rfl,g1,g2,g3⟩
    ·cases e
    ·cases e;omega
  ·intro q hq
   have nb:∀ d,(M2+d=q)=False:=fun d=>eq_false (by omega)
   simp only [↓R0,R1,simprocAttr,-Int.reduceAbs,nb]
   rw [hh2 q (by omega)];exact hh q hq
 ·have a1':hget hp2 kL=some ⟨40,5,x,blkC (nmF j ρ (nmL l)) i⟩:=by rw [hh2 kL (by omega)];exact a1
  have v1:∀ d,(M2+d=kL)=False:=fun d=>eq_false (by omega)
  have v2:∀ d,(kL=M2+d)=False:=fun d=>eq_false (by omega)
  have v3:(M+0=kL)=False:=eq_false (by omega)
  have bl5:(blkC (nmF j ρ (nmL l)) i).length=i * 5:=blkC_len fun _ _=>rfl
  have Sx:NmS hp N M j (nmL l) i (.slice (some ⟨kL,0,none⟩) i i):=.inr ⟨z,kL,x,ρ,rfl,a1,a2,a3,a4⟩
  generalize eBK:blkC (nmF j ρ (nmL l)) i=BK at *
  simp only [↓R0,R1,simprocAttr,-Int.reduceAbs,t0,t1,t6,t7,t8,t9,cj',bx,Mx,My,T1,T2,T3,T4,cok,wi,setR_length,a1',bl5,nlr,ov2,v1,v2,v3]
  refine ⟨q - 1,by omega,i+1,M2+2,.slice (some ⟨M2+1,0,none⟩) (i+1) (i+1),by omega,rfl,rfl,?_,?_,by omega,rfl⟩
  ·refine NmS.push (hp:=hp) (M0:=M+1) (x:=false) (co:=co) Sx ?_ (by omega) ?_ ?_ ?_ (by omega) (by omega) ?_ hM (by omega)
   ·intro q hq hne
    have nb:∀ d,(M2+d=q)=False:=fun d=>eq_false (by omega)
    have nq:(kL=q)=False:=eq_false (fun e=>hne e.symm)
    simp only [↓R0,R1,simprocAttr,-Int.reduceAbs,nb,nq]
    exact hh2 q hq
   ·rw [nmL_at c1]
    rcases hco with ⟨z,rfl⟩ | ⟨z,kc,y,rfl,g1,g2,g3⟩
    ·exact .inl ⟨z,rfl⟩
    ·have nb:∀ d,(M2+d=kc)=False:=fun d=>eq_false (by omega)
     have nq:(kL=kc)=False:=eq_false (by omega)
     exact .inr ⟨z,kc,y,rfl,by simp only [↓R0,R1,simprocAttr,-Int.reduceAbs,nb,nq];exact g1,g2,by omega⟩
   ·rw [nmL_at c1];exact hDl
   ·rw [T5]
    simp only [a1]
    simp only [↓R0,R1,simprocAttr,-Int.reduceAbs,v1,v2]
   ·intro kc e
    rcases hco with ⟨z,rfl⟩ | ⟨z,kc',y,rfl,g1,g2,g3⟩
    ·cases e
    ·cases e;omega
  ·intro q hq
   have nb:∀ d,(M2+d=q)=False:=fun d=>eq_false (by omega)
   have nq:(kL=q)=False:=eq_false (by omega)
   simp only [↓R0,R1,simprocAttr,-Int.reduceAbs,nb,nq]
   rw [hh2 q (by omega)];exact hh q hq
end Go.Eng
end
section
namespace Go.Eng
theorem null_comb {N m:Nat} {M:Mat} {X Y:Nat -> Rat} (c:Rat) (hX:nullM N m M X) (hY:nullM N m M Y):nullM N m M (fun j=>X j+c * Y j):=fun i hi=>by
 rw [lin_addv,hX i hi,hY i hi];grind
theorem null_zero {n m:Nat} {M:Mat} {X:Nat -> Rat} (h:∀ j,j < n+1 -> X j=0):nullM (n+1) m M X:=fun i _=>by
 unfold lin
 exact sm_zero fun j hj=>by rw [h j hj,Rat.mul_zero]
theorem sub_eq {n m m':Nat} {M M':Mat} (sub:∀ X,nullM (n+1) m' M' X -> nullM (n+1) m M X) (con:ConP n (nullM (n+1) m' M'))
  (hd:∀ k,k < n -> HeadP n (nullM (n+1) m' M') k -> HeadP n (nullM (n+1) m M) k):∀ X,nullM (n+1) m M X -> nullM (n+1) m' M' X:=by
 have key:∀ (t:Nat),t <= n -> ∀ X,nullM (n+1) m M X -> X n=0 -> (∀ j,t <= j -> j < n -> X j=0) -> nullM (n+1) m' M' X:=by
  intro t
  induction t with
  | zero=>
   intro _ X hX hn hz
   exact null_zero fun j hj=>by
    by_cases e:j=n
    ·rw [e];exact hn
    ·exact hz j (Nat.zero_le _) (by omega)
  | succ t ih=>
   intro ht X hX hn hz
   by_cases x:X t=0
   ·exact ih (by omega) X hX hn fun j h1 h2=>by
     by_cases e:j=t
     ·rw [e];exact x
     ·exact hz j (by omega) h2
   ·have nh:¬ HeadP n (nullM (n+1) m M) t:=fun h=>x (h X hX hn fun j h1 h2=>hz j (by omega) h2)
    have nh':¬ HeadP n (nullM (n+1) m' M') t:=fun h=>nh (hd t (by omega) h)
    unfold HeadP at nh'
    obtain ⟨V,hV⟩:=Classical.not_forall.1 nh'
    obtain ⟨hV,h'⟩:=Classical.not_imp.1 hV
    obtain ⟨hVn,h'⟩:=Classical.not_imp.1 h'
    obtain ⟨hVz,hVt⟩:=Classical.not_imp.1 h'
    have g:=ih (by omega) (fun j=>X j+(- (X t / V t)) * V j) (null_comb _ hX (sub V hV)) (by show X n+(- (X t / V t)) * V n=0;rw [hn,hVn];grind) fun j h1 h2=>by
     show X j+(- (X t / V t)) * V j=0
     by_cases e:j=t
     ·subst e;grind
     ·rw [hz j (by omega) h2,hVz j (by omega) h2];grind
    have g2:=null_comb (X t / V t) g hV
    have e:(fun j=>(X j+(- (X t / V t)) * V j)+X t / V t * V j)=X:=by funext j;grind
    rw [e] at g2
    exact g2
 intro X hX
 obtain ⟨W,hW,hWn⟩:=con
 have g:=key n (Nat.le_refl _) (fun j=>X j+X n * W j) (null_comb _ hX (sub W hW)) (by show X n+X n * W n=0;rw [hWn];grind) (fun j h1 h2=>absurd h2 (by omega))
 have g2:=null_comb (- X n) g hW
 have e:(fun j=>(X j+X n * W j)+- X n * W j)=X:=by funext j;grind
 rw [e] at g2
 exact g2
theorem rank_lt {n r r':Nat} {Z Z':(Nat -> Rat) -> Prop} {R R':Mat} {h h':Nat -> Nat} {cl cl':Prop} (S:SysS n Z r R h cl) (S':SysS n Z' r' R' h' cl') (H:∀ k,k < n -> HeadP n Z k -> HeadP n Z' k)
  {k:Nat} (hk:k < n) (h1:HeadP n Z' k) (h2:¬ HeadP n Z k):r+1 <= r':=by
 have ch:∀ p,p < r -> ∃ q,q < r' /\ h' q=h p:=fun p hp=>(S'.head (S.lt p hp)).2 (H _ (S.lt p hp) ((S.head (S.lt p hp)).1 ⟨p,hp,rfl⟩))
 obtain ⟨k0,hk0,ek0⟩:=(S'.head hk).2 h1
 have ne:∀ p,p < r -> h p ≠ k:=fun p hp e=>h2 ((S.head hk).1 ⟨p,hp,e⟩)
 refine inj_le (r+1) r' (fun p=>if p=r then k0 else (hIdx h' r' (h p)).getD 0) (fun p hp=>?_) (fun p q hp hq x=>?_)
 ·show (if p=r then k0 else (hIdx h' r' (h p)).getD 0) < r'
  split
  ·exact hk0
  ·obtain ⟨p',hp',e⟩:=ch p (by omega)
   rw [<- e,S'.idx hp'];exact hp'
 ·change (if p=r then k0 else (hIdx h' r' (h p)).getD 0)=(if q=r then k0 else (hIdx h' r' (h q)).getD 0) at x
  by_cases ep:p=r
  ·by_cases eq:q=r
   ·omega
   ·rw [if_pos ep,if_neg eq] at x
    obtain ⟨q',hq',e'⟩:=ch q (by omega)
    rw [<- e',S'.idx hq'] at x
    change k0=q' at x
    exact absurd (by rw [<- e',<- x,ek0]) (ne q (by omega))
  ·by_cases eq:q=r
   ·rw [if_neg ep,if_pos eq] at x
    obtain ⟨p',hp',e⟩:=ch p (by omega)
    rw [<- e,S'.idx hp'] at x
    change p'=k0 at x
    exact absurd (by rw [<- e,x,ek0]) (ne p (by omega))
   ·rw [if_neg ep,if_neg eq] at x
    obtain ⟨p',hp',e⟩:=ch p (by omega)
    obtain ⟨q',hq',e'⟩:=ch q (by omega)
    rw [<- e,<- e',S'.idx hp',S'.idx hq'] at x
    change p'=q' at x
    exact S.inj p q (by omega) (by omega) (by rw [<- e,<- e',x])
theorem rank_up {n m m':Nat} {M M':Mat} (sub:∀ X,nullM (n+1) m' M' X -> nullM (n+1) m M X) (con:ConP n (nullM (n+1) m' M')) {X0:Nat -> Rat} (h1:nullM (n+1) m M X0) (h2:¬ nullM (n+1) m' M' X0) :
  (redK m M n).hs.length+1 <= (redK m' M' n).hs.length:=by
 have S:=red_sys n m M
 have S':=red_sys n m' M'
 have H:∀ k,k < n -> HeadP n (nullM (n+1) m M) k -> HeadP n (nullM (n+1) m' M') k:=fun k hk h X hX h3 h4=>h X (sub X hX) h3 h4
 have ex:∃ k,k < n /\ HeadP n (nullM (n+1) m' M') k /\ ¬ HeadP n (nullM (n+1) m M) k:=Classical.byContradiction fun c=>h2 (sub_eq sub con (fun k hk hh=>Classical.byContradiction fun y=>c ⟨k,hk,hh,y⟩) X0 h1)
 obtain ⟨k,hk,a,b⟩:=ex
 exact rank_lt S S' H hk a b
end Go.Eng
end
section
set_option maxRecDepth 20000
namespace Go.Eng
open Go Go.Proofs Go.IntWalk
def Sat (n:Nat) (e:EqR) (X:Row):Prop:=lin n (qsV e.coef) X=e.rhs.v
def Cns (n:Nat) (l:List EqR):Prop:=∃ X:Row,∀ e ∈ l,Sat n e X
theorem ZL_sat {n:Nat} {l:List EqR} (c:chkL n l=0) {X:Row} (hX:X n=-1):ZL n l X ↔ ∀ e ∈ l,Sat n e X:=by
 rw [ZL_iff (chk0_nat c) X]
 refine forall_congr' fun e=>forall_congr' fun _=>?_
 unfold Sat
 rw [hX]
 constructor <;> intro h <;> grind
def hom (n:Nat) (X:Row):Row:=fun j=>if j=n then -1 else X j
theorem hom_n (n:Nat) (X:Row):hom n X n=-1:=if_pos rfl
theorem sat_hom {n:Nat} {e:EqR} {X:Row}:Sat n e (hom n X) ↔ Sat n e X:=by
 unfold Sat
 rw [lin_congr (r':=qsV e.coef) (x':=X) (x:=hom n X) (fun _ _=>rfl) (fun j hj=>if_neg (by omega))]
theorem tog_sat {n:Nat} {l:List EqR} (c:chkL n l=0):togL n l=true ↔ Cns n l:=by
 rw [tog_con c]
 constructor
 ·rintro ⟨X,h1,h2⟩
  exact ⟨X,(ZL_sat c h2).1 h1⟩
 ·rintro ⟨X,h⟩
  exact ⟨hom n X,(ZL_sat c (hom_n n X)).2 fun e he=>sat_hom.2 (h e he),hom_n n X⟩
theorem tog_not {n:Nat} {l:List EqR} (c:chkL n l=0):togL n l=false ↔ ¬ Cns n l:=by
 rw [<- tog_sat c];simp
theorem Cns.sub {n:Nat} {l l':List EqR} (h:Cns n l) (hs:∀ e ∈ l',e ∈ l):Cns n l':=by
 obtain ⟨X,hX⟩:=h
 exact ⟨X,fun e he=>hX e (hs e he)⟩
theorem chk_sub {n:Nat} {l l':List EqR} (c:chkL n l=0) (hl:l'.length <= 100) (hs:∀ e ∈ l',e ∈ l):chkL n l'=0:=
 chk0_of (by have:=(chk0 c).2.1;omega) hl fun e he=>chk0_nat c e (hs e he)
theorem EqsOK.chk {n:Nat} {l:List EqR} (H:EqsOK n l):chkL n l=0:=
 chk0_of (by have:=H.n8;omega) (by have:=H.len;omega) fun e he=>(H.co e he).1
theorem eqAt_take {l:List EqR} {i j:Nat} (h:j < i):eqAt (l.take i) j=eqAt l j:=by
 unfold eqAt
 rw [List.getElem?_take_of_lt h]
theorem indep_le {n:Nat} {l:List EqR} (c:chkL n l=0) (con:Cns n l) (h:∀ i,i < l.length -> ∃ X,(∀ e ∈ l.take i,Sat n e X) /\ ¬ Sat n (eqAt l i) X):l.length <= n:=by
 have cl:=(chk0 c).2.2.1
 have key:∀ i,i <= l.length -> i <= (redK (l.take i).length (eqM n (l.take i)) n).hs.length:=by
  intro i
  induction i with
  | zero=>exact fun _=>Nat.zero_le _
  | succ i ih=>
   intro hi
   have g:=ih (by omega)
   obtain ⟨X,h1,h2⟩:=h i (by omega)
   have c1:chkL n (l.take i)=0:=chk_sub c (by rw [List.length_take];omega) fun e he=>List.mem_of_mem_take he
   have c2:chkL n (l.take (i+1))=0:=chk_sub c (by rw [List.length_take];omega) fun e he=>List.mem_of_mem_take he
   have hm:eqAt l i ∈ l.take (i+1):=by
    have:=eqAt_mem (l:=l.take (i+1)) (i:=i) (by rw [List.length_take];omega)
    rwa [eqAt_take (by omega)] at this
   have:=rank_up (n:=n) (m:=(l.take i).length) (m':=(l.take (i+1)).length) (M:=eqM n (l.take i)) (M':=eqM n (l.take (i+1))) (X0:=hom n X) (fun Y hY=>?_) ?_ ?_ ?_
   ·omega
   ·have h0:=(ZL_iff (chk0_nat c2) Y).1 hY
    refine (ZL_iff (chk0_nat c1) Y).2 fun e he=>h0 e ?_
    rw [List.take_add_one]
    exact List.mem_append_left _ he
   ·exact (tog_con c2).1 ((tog_sat c2).2 (con.sub fun e he=>List.mem_of_mem_take he))
   ·exact (ZL_sat c1 (hom_n n X)).2 fun e he=>sat_hom.2 (h1 e he)
   ·intro x
    exact h2 (sat_hom.1 ((ZL_sat c2 (hom_n n X)).1 x _ hm))
 have g:=key l.length (Nat.le_refl _)
 have f:=(red_sys n (l.take l.length).length (eqM n (l.take l.length))).full.1
 omega
theorem minS_sorted (n:Int) (l:List EqR):∀ i,(minS n l i).1.Pairwise (· < ·)
 | 0=>by
  unfold minS
  rw [List.pairwise_map]
  exact List.Pairwise.imp (fun h=>by omega) List.pairwise_lt_range
 | i+1=>by
  unfold minS
  split
  ·exact minS_sorted n l i
  ·exact (minS_sorted n l i).filter _
theorem delL_mem {x p:Int} {L:List Int}:p ∈ delL x L ↔ p ∈ L /\ p ≠ x:=by
 unfold delL
 rw [List.mem_filter]
 constructor
 ·rintro ⟨a,b⟩
  exact ⟨a,fun e=>by rw [e] at b;simp at b⟩
 ·rintro ⟨a,b⟩
  exact ⟨a,by simp;exact fun e=>b e.symm⟩
theorem selL_sub {l:List EqR} {ps qs:List Int} (h:∀ p ∈ ps,p ∈ qs):∀ e ∈ selL l ps,e ∈ selL l qs:=by
 intro e he
 unfold selL at he ⊢
 obtain ⟨p,hp,rfl⟩:=List.mem_map.1 he
 exact List.mem_map.2 ⟨p,h p hp,rfl⟩
theorem selL_chk {n:Nat} {l:List EqR} (c:chkL n l=0) {ps:List Int} (hp:∀ p ∈ ps,0 <= p /\ p.toNat < l.length) (hl:ps.length <= 100):chkL n (selL l ps)=0:=
 chk_sub c (by unfold selL;rw [List.length_map];exact hl) (selL_mem hp)
theorem minS_min {n:Nat} {l:List EqR} (c:chkL n l=0):∀ i,∀ x ∈ (minS n l i).1,x < (i:Int) -> togL n (selL l (delL x (minS n l i).1))=true
 | 0,x,hx,hi=>by
  have:=(minS_mem n l 0 x hx).1
  omega
 | i+1,x,hx,hi=>by
  have cl:=(chk0 c).2.2.1
  have ml:=minS_len n l i
  have mm:=minS_mem n l i
  have ck:∀ y z:Int,chkL n (selL l (delL y (delL z (minS n l i).1)))=0:=fun y z=>selL_chk c (fun p hp=>mm p (delL_mem.1 (delL_mem.1 hp).1).1) (by
   have h1:=delL_len y (delL z (minS n l i).1)
   have h2:=delL_len z (minS n l i).1
   omega)
  have ck1:∀ z:Int,chkL n (selL l (delL z (minS n l i).1))=0:=fun z=>selL_chk c (fun p hp=>mm p (delL_mem.1 hp).1) (by
   have h2:=delL_len z (minS n l i).1
   omega)
  have e:minS n l (i+1)=if togL n (selL l (delL i (minS n l i).1))=true then minS n l i else (delL i (minS n l i).1,(minS n l i).1.length - (delL i (minS n l i).1).length):=rfl
  rw [e] at hx ⊢
  by_cases t:togL n (selL l (delL i (minS n l i).1))=true
  ·rw [if_pos t] at hx ⊢
   by_cases xi:x=(i:Int)
   ·rw [xi];exact t
   ·exact minS_min c i x hx (by omega)
  ·rw [if_neg t] at hx ⊢
   have hx2:=delL_mem.1 hx
   have h0:=minS_min c i x hx2.1 (by have:=hx2.2;omega)
   rw [tog_sat (ck x i)]
   exact ((tog_sat (ck1 x)).1 h0).sub (selL_sub fun p hp=>by
    have h1:=delL_mem.1 hp
    have h2:=delL_mem.1 h1.1
    exact delL_mem.2 ⟨h2.1,h1.2⟩)
def minF (n:Int) (l:List EqR):List Int:=(minS n l l.length).1
structure MinR (n:Nat) (l:List EqR) (L:List Int):Prop where
 mem:∀ p ∈ L,0 <= p /\ p.toNat < l.length
 len:L.length <= l.length
 sort:L.Pairwise (· < ·)
 bad:togL n (selL l L)=false
 min:∀ x ∈ L,togL n (selL l (delL x L))=true
theorem minF_R {n:Nat} {l:List EqR} (c:chkL n l=0) (t:togL n l=false):MinR n l (minF n l):=
 ⟨minS_mem n l _,minS_len n l _,minS_sorted n l _,minS_clash t _,fun x hx=>minS_min c _ x hx (by have:=minS_mem n l _ x hx;omega)⟩
theorem MinR.pos {n:Nat} {l:List EqR} {L:List Int} (R:MinR n l L) (hn:n <= 8):0 < L.length:=by
 cases L with
 | nil=>have:=R.bad;rw [show selL l []=[] from rfl,tog_nil hn] at this;cases this
 | cons x L=>simp
theorem MinR.le {n:Nat} {l:List EqR} {L:List Int} (R:MinR n l L) (c:chkL n l=0) (hn:n <= 8):L.length <= n+1:=by
 have cl:=(chk0 c).2.2.1
 have pos:=R.pos hn
 have len:=R.len
 obtain ⟨l2,hl2⟩:∃ x,x=selL l L.dropLast:=⟨_,rfl⟩
 have ll2:l2.length=L.length - 1:=by rw [hl2];unfold selL;rw [List.length_map,List.length_dropLast]
 have c2:chkL n l2=0:=by rw [hl2];exact selL_chk c (fun p hp=>R.mem p (List.dropLast_subset _ hp)) (by rw [List.length_dropLast];omega)
 have cA:chkL n (selL l L)=0:=selL_chk c R.mem (by omega)
 have cD:∀ x:Int,chkL n (selL l (delL x L))=0:=fun x=>selL_chk c (fun p hp=>R.mem p (delL_mem.1 hp).1) (by have:=delL_len x L;omega)
 have nd:L.Nodup:=R.sort.imp (fun h=>by omega)
 have at2:∀ i,i < l2.length -> ∃ p,L[i]?=some p /\ eqAt l2 i=eqAt l p.toNat:=fun i hi=>by
  obtain ⟨p,hp⟩:∃ p,L[i]?=some p:=⟨_,List.getElem?_eq_getElem (by omega)⟩
  refine ⟨p,hp,?_⟩
  have hd:L.dropLast[i]?=some p:=by rw [List.getElem?_dropLast,if_pos (by omega)];exact hp
  rw [hl2]
  unfold eqAt selL
  rw [List.getElem?_map,hd];rfl
 have con2:Cns n l2:=by
  have hx:L.getLast (List.ne_nil_of_length_pos pos) ∈ L:=List.getLast_mem _
  refine ((tog_sat (cD _)).1 (R.min _ hx)).sub ?_
  rw [hl2]
  refine selL_sub fun p hp=>delL_mem.2 ⟨List.dropLast_subset _ hp,fun e=>?_⟩
  have h1:=List.dropLast_concat_getLast (List.ne_nil_of_length_pos pos)
  rw [<- h1,List.nodup_append] at nd
  exact nd.2.2 p hp _ (List.mem_singleton.2 rfl) e
 have:l2.length <= n:=indep_le c2 con2 fun i hi=>Classical.byContradiction fun no=>by
  obtain ⟨p,hp,he⟩:=at2 i hi
  have hpL:=List.mem_of_getElem? hp
  obtain ⟨X,hX⟩:=(tog_sat (cD p)).1 (R.min p hpL)
  have imp:Sat n (eqAt l2 i) X:=Classical.byContradiction fun ns=>no ⟨X,fun e he'=>?_,ns⟩
  ·refine ((tog_not cA).1 R.bad) ⟨X,fun e he'=>?_⟩
   unfold selL at he'
   obtain ⟨q,hq,rfl⟩:=List.mem_map.1 he'
   by_cases e:q=p
   ·rw [e,<- he];exact imp
   ·refine hX _ ?_
    unfold selL
    exact List.mem_map.2 ⟨q,delL_mem.2 ⟨hq,e⟩,rfl⟩
  ·refine hX e ?_
   obtain ⟨j,hj⟩:=List.getElem?_of_mem he'
   have hj1:=(List.getElem?_eq_some_iff.1 hj).1
   rw [List.length_take] at hj1
   rw [List.getElem?_take_of_lt (by omega)] at hj
   obtain ⟨pj,hpj,hej⟩:=at2 j (by omega)
   have ee:e=eqAt l pj.toNat:=by
    rw [<- hej]
    unfold eqAt
    rw [hj];rfl
   rw [ee]
   unfold selL
   refine List.mem_map.2 ⟨pj,delL_mem.2 ⟨List.mem_of_getElem? hpj,fun e=>?_⟩,rfl⟩
   rw [e] at hpj
   have:=(List.getElem?_inj (by omega) nd).1 (hpj.trans hp.symm)
   omega
 omega
theorem blkC_all {f:Nat -> List Value} {p:Value -> Bool}:∀ {m:Nat},(∀ i,i < m -> (f i).all p=true) -> (blkC f m).all p=true
 | 0,_=>rfl
 | m+1,h=>by rw [blkC,List.all_append,blkC_all (m:=m) fun i hi=>h i (by omega),h m (by omega)];rfl
theorem nmE_ok {n:Int} {e:EqR} (h:fitE n e):((nmE e).coef.length:Int)=n /\ (∀ q ∈ (nmE e).coef,q.ok 100) /\ (nmE e).rhs.ok 100:=by
 have g:∀ q:RQ,smallQ q -> (RQ.of q.v).ok 100:=fun q hq=>(RQ.of_ok (RQ.ok.rb (k:=4) ⟨hq.1,hq.2⟩)).le (by omega)
 refine ⟨by unfold nmE;rw [List.length_map];exact h.1,fun q hq=>?_,g _ h.2.1⟩
 obtain ⟨y,hy,rfl⟩:=List.mem_map.1 hq
 exact g y (h.2.2 y hy)
theorem fit_eqs {n:Nat} {l:List EqR} (h:fitS n l):EqsOK n (nmL l) where
 n8:=by have:=h.2.1;omega
 len:=by rw [nmL_len];have:=h.2.2.1;omega
 co:=fun e he=>by
  obtain ⟨y,hy,rfl⟩:=List.mem_map.1 he
  obtain ⟨a,b,c⟩:=nmE_ok (h.2.2.2 y hy)
  exact ⟨by omega,b,c⟩
theorem rows_nil (h:Heap):RowsS h (.slice none 0 0) [] []:=⟨rfl,rfl,rfl⟩
theorem normed_no {h:Heap} {n:Int} {b:Nat} {l:List EqR} {sl:Value} (hx:decRows h sl=some l) (hm:l.length <= 9223372036854775807) (nf:¬ fitS n l):nwL spNormed [.int .i64 n,sl] h b=some (.tuple ⟨[.slice none 0 0,.bool false]⟩,[],0):=by
 unfold nwL spNormed
 simp only [hx]
 rw [if_pos hm,if_neg nf]
 rfl
theorem normed_call {h:Heap} {n b:Nat} {l:List EqR} {sl:Value} (hx:decRows h sl=some l) (hm:l.length <= 9223372036854775807) (ft:fitS n l) (hb:∀ k blk,hget h k=some blk -> k < b) :
  ∃ a D mm cs,nwL spNormed [.int .i64 n,sl] h b=some (.tuple ⟨[.slice a l.length l.length,.bool true]⟩,D,mm) /\ (∀ q,q < b -> hget (D ++ h) q=hget h q) /\ RowsS (D ++ h) (.slice a l.length l.length) (nmL l) cs /\ ∀ k blk,hget (D ++ h) k=some blk -> k < b+mm:=by
 have e:nwL spNormed [.int .i64 n,sl] h b=some ((nmNL n (nmL l)).val (b+·),newH (nmNL n (nmL l)) (b+·) (nmNL n (nmL l)).m,(nmNL n (nmL l)).m):=by
  unfold nwL spNormed
  simp only [hx]
  rw [if_pos hm,if_pos ft,Int.toNat_natCast]
  rfl
 have hl:=nmL_len l
 have old:=fun q (hq:q < b)=>newH_old (r:=nmNL n (nmL l)) (σ:=(b+·)) (h:=h) (k:=q) (nmNL n (nmL l)).m (fun i _=>by show b+i ≠ q;omega)
 have get:=newH_get (r:=nmNL n (nmL l)) (σ:=(b+·)) (h:=h) (nmNL n (nmL l)).m (fun i j _ _ e=>by change b+i=b+j at e;omega)
 have bnd:∀ k blk,hget (newH (nmNL n (nmL l)) (b+·) (nmNL n (nmL l)).m ++ h) k=some blk -> k < b+(nmNL n (nmL l)).m:=fun k blk hk=>by
  by_cases c:∃ i,i < (nmNL n (nmL l)).m /\ b+i=k
  ·obtain ⟨i,h1,h2⟩:=c;omega
  ·rw [newH_old _ (fun i hi e=>c ⟨i,hi,e⟩)] at hk
   have:=hb k blk hk
   omega
 rw [e]
 obtain ⟨r,hr⟩:∃ r,r=nmNL n (nmL l):=⟨_,rfl⟩
 rw [<- hr] at old get bnd ⊢
 unfold nmNL at hr
 by_cases z:nmL l=[]
 ·rw [if_pos z] at hr
  have hz:l.length=0:=by rw [z] at hl;exact hl.symm
  refine ⟨none,newH r (b+·) r.m,r.m,[],?_,old,?_,bnd⟩
  ·rw [hr,hz]
  ·rw [hz,z]
   exact rows_nil _
 ·rw [if_neg z] at hr
  have pm:0 < r.m:=by rw [hr];show 0 < if n=0 then 1 else (nmL l).length+1;split <;> omega
  have g0:=get 0 pm
  have g0:hget (newH r (b+·) r.m ++ h) (b+0)=some ⟨40,5,false,blkC (nmF n (fun j=>b+(j+1)) (nmL l)) l.length⟩:=by
   rw [g0,hr,<- hl];rfl
  have l5:(blkC (nmF n (fun j=>b+(j+1)) (nmL l)) l.length).length=l.length * 5:=blkC_len fun _ _=>rfl
  have lp:0 < l.length:=by rw [<- hl];exact List.length_pos_iff.2 z
  have gj:n ≠ 0 -> ∀ j,j < l.length -> hget (newH r (b+·) r.m ++ h) (b+(j+1))=some ⟨38,3,false,rqs (eqAt (nmL l) j).coef⟩:=fun hn j hj=>by
   have:=get (j+1) (by rw [hr];show j+1 < if n=0 then 1 else (nmL l).length+1;rw [if_neg hn,hl];omega)
   rw [this,hr]
   rfl
  have H:=fit_eqs ft
  refine ⟨some ⟨b+0,0,none⟩,newH r (b+·) r.m,r.m,blkC (nmF n (fun j=>b+(j+1)) (nmL l)) l.length,?_,old,⟨?_,?_,?_⟩,bnd⟩
  ·rw [hr,<- hl]
  ·unfold Go.Eng.lay
   obtain ⟨d,hd⟩:∃ d,l.length=d+1:=⟨l.length - 1,by omega⟩
   rw [hd] at g0 l5 ⊢
   simp only [g0]
   rw [if_pos ⟨Nat.le_refl _,by omega⟩,List.drop_zero,List.take_of_length_le (by omega)]
  ·refine rows_blk (f:=nmF n (fun j=>b+(j+1)) (nmL l)) g0 hl fun i hi=>⟨_,rfl,?_⟩
   have hc:=(H.co _ (eqAt_mem (l:=nmL l) (i:=i) (by omega))).1
   unfold nmCo
   by_cases hn:n=0
   ·rw [if_pos hn]
    have:(eqAt (nmL l) i).coef=[]:=List.eq_nil_of_length_eq_zero (by omega)
    rw [this];rfl
   ·rw [if_neg hn]
    exact rqs_list (gj hn i hi) hc (by omega)
  ·refine blkC_all fun i hi=>?_
   show (selfOK _ (nmCo n (fun j=>b+(j+1)) i) && (eqAt (nmL l) i).tl.all (selfOK _))=true
   rw [Bool.and_eq_true]
   refine ⟨?_,rfl⟩
   unfold nmCo
   by_cases hn:n=0
   ·rw [if_pos hn];rfl
   ·rw [if_neg hn]
    simp [selfOK,slOK,gj hn i hi]
theorem min_yes {h:Heap} {n b:Nat} {l:List EqR} {sl:Value} {cs:List Value} (R:RowsS h sl l cs) (H:EqsOK n l) (t:togL n l=true):nwL spMin [.int .i64 n,sl] h b=some (.slice none 0 0,[],0):=by
 unfold nwL
 rw [min_of R H.min]
 unfold minNL
 rw [if_pos t];rfl
theorem min_no {h:Heap} {n b:Nat} {l:List EqR} {sl:Value} {cs:List Value} (R:RowsS h sl l cs) (H:EqsOK n l) (t:togL n l=false) :
  nwL spMin [.int .i64 n,sl] h b=some (.slice (some ⟨b,0,none⟩) (minF n l).length ((minF n l).length+(minS n l l.length).2),[(b,some ⟨3,1,false,intZ (minF n l ++ List.replicate (minS n l l.length).2 0)⟩)],1):=by
 unfold nwL
 rw [min_of R H.min]
 unfold minNL
 rw [if_neg (by rw [t];simp)]
 rfl
theorem EqsOK.app {n:Nat} {l l':List EqR} (H:EqsOK n l) (H':EqsOK n l') (hl:l.length+l'.length <= 50):EqsOK n (l ++ l') where
 n8:=H.n8
 len:=by rw [List.length_append];exact hl
 co:=fun e he=>by
  rcases List.mem_append.1 he with h | h
  ·exact H.co e h
  ·exact H'.co e h
theorem RowsS.app {h h1 h2:Heap} {sl sl':Value} {l l':List EqR} {cs cs':List Value} (r:RowsS h1 sl l cs) (r':RowsS h2 sl' l' cs') (e1:hle h1 h) (e2:hle h2 h) {k e s c:Nat} {x:Bool} (hc:l.length+l'.length <= c) (hk:hget h k=some ⟨e,s,x,cs ++ cs'⟩) :
  RowsS h (.slice (some ⟨k,0,none⟩) (l.length+l'.length) c) (l ++ l') (cs ++ cs'):=by
 have hlen:=r.len.1
 have hlen':=r'.len.1
 have la:Go.Eng.lay 5 h (.slice (some ⟨k,0,none⟩) (l.length+l'.length) c)=some (cs ++ cs'):=by
  unfold Go.Eng.lay
  cases e:l.length+l'.length with
  | zero=>
   simp only [hk]
   rw [if_pos ⟨by omega,by rw [List.length_append];omega⟩,List.drop_zero,List.take_of_length_le (by rw [List.length_append];omega)]
  | succ n=>
   simp only [hk]
   rw [if_pos ⟨by omega,by rw [List.length_append];omega⟩,List.drop_zero,List.take_of_length_le (by rw [List.length_append];omega)]
 refine ⟨la,?_,by rw [List.all_append,Bool.and_eq_true];exact ⟨selfsOK_mono e1 r.self,selfsOK_mono e2 r'.self⟩⟩
 unfold decRows listAt
 rw [la,Option.bind_some]
 have g:=r.rows
 have g':=r'.rows
 unfold decRows listAt at g g'
 rw [r.lay,Option.bind_some] at g
 rw [r'.lay,Option.bind_some] at g'
 refine many_some (by rw [List.length_append];rfl) fun i x hx=>?_
 by_cases hi:i < l.length
 ·rw [List.getElem?_append_left hi] at hx
  have hm:i * 5+5 <= cs.length:=by omega
  rw [List.drop_append_of_le_length (by omega),List.take_append_of_le_length (by rw [List.length_drop];omega)]
  exact decEq_mono e1 ((many_get g).2 i x hx)
 ·rw [List.getElem?_append_right (by omega)] at hx
  rw [List.drop_append,List.drop_of_length_le (by omega),List.nil_append,show i * 5 - cs.length=(i - l.length) * 5 by rw [hlen,<- Nat.sub_mul]]
  exact decEq_mono e2 ((many_get g').2 _ x hx)
theorem src_layO {h:Heap} {sz:Nat} {a:Option Addr} {n c:Nat} {cs:List Value} (e:lay sz h (.slice a n c)=some cs):srcOf h sz n a=some cs:=by
 cases a with
 | some ad=>exact src_lay e
 | none=>
  unfold lay at e
  split at e
  ·rename_i e1
   cases e1
   cases e;rfl
  ·rename_i e1;cases e1
  ·rename_i e1;cases e1
  ·cases e
theorem normed_any {h:Heap} {n:Int} {b:Nat} {l:List EqR} {sl:Value} (hx:decRows h sl=some l) (hm:l.length <= 9223372036854775807) (hb:∀ k blk,hget h k=some blk -> k < b) :
  ∃ a m ok D mm,nwL spNormed [.int .i64 n,sl] h b=some (.tuple ⟨[.slice a m m,.bool ok]⟩,D,mm) /\ (∀ q,q < b -> hget (D ++ h) q=hget h q) /\ (∀ k blk,hget (D ++ h) k=some blk -> k < b+mm) /\
   ((ok=false /\ ¬ fitS n l) \/ (ok=true /\ fitS n l /\ m=l.length /\ ∃ cs,RowsS (D ++ h) (.slice a m m) (nmL l) cs)):=by
 by_cases ft:fitS n l
 ·obtain ⟨nn,rfl⟩:=Int.eq_ofNat_of_zero_le ft.1
  obtain ⟨a,D,mm,cs,e1,e2,e3,e4⟩:=normed_call hx hm ft hb
  exact ⟨a,l.length,true,D,mm,e1,e2,e4,.inr ⟨rfl,ft,rfl,cs,e3⟩⟩
 ·exact ⟨none,0,false,[],0,normed_no hx hm ft,fun _ _=>rfl,fun k blk hk=>by have:=hb k blk hk;omega,.inl ⟨rfl,ft⟩⟩
theorem nwL_bnd {F:List Value -> Heap -> Option NewL} {args:List Value} {h:Heap} {b mm:Nat} {V:Value} {D:Heap} (e:nwL F args h b=some (V,D,mm)) (hb:∀ k blk,hget h k=some blk -> k < b):∀ k blk,hget (D ++ h) k=some blk -> k < b+mm:=by
 unfold nwL at e
 rw [Option.map_eq_some_iff] at e
 obtain ⟨r,_,e⟩:=e
 simp only [Prod.mk.injEq] at e
 obtain ⟨_,rfl,rfl⟩:=e
 intro k blk hk
 by_cases c:∃ i,i < r.m /\ b+i=k
 ·obtain ⟨i,h1,h2⟩:=c;omega
 ·rw [newH_old _ (fun i hi e=>c ⟨i,hi,e⟩)] at hk
  have:=hb k blk hk
  omega
theorem clean_of {h:Heap} {cs:List Value} {sv:Value} {e:EqR} {l:List EqR} {n:Nat} (hx:decEq h cs=some e) (hy:decRows h sv=some l) (hn:e.coef.length=n) (hl:l ≠ []) (hs:ClOK n e l):spClean24 [.agg ⟨cs⟩,sv] h=some (eqNL n (cleanR n (outR n l) (rowE n e))):=by
 unfold spClean24
 simp only [hx,hy]
 rw [if_neg hl,hn]
 exact if_pos hs
theorem clean_nil {h:Heap} {cs:List Value} {sv:Value} {e:EqR} (hx:decEq h cs=some e) (hy:decRows h sv=some []) (ho:okAddr h cs):spClean24 [.agg ⟨cs⟩,sv] h=some ⟨0,fun _ => .agg ⟨cs⟩,fun _=>0,fun _=>0,fun _ _=>[]⟩:=by
 unfold spClean24
 simp only [hx,hy]
 rw [if_pos trivial]
 exact if_pos ho
theorem from3 {x:Int} (h:-1000 <= x /\ x <= 1000):spR3From [.int .i64 x]=some (.agg ⟨rE (x:Rat)⟩):=if_pos h
theorem pv_dec {h:Heap} {k n:Nat} {f:Row} (hb:∃ e s x,hget h k=some ⟨e,s,x,rqs (fq f n)⟩) (h0:0 < n):decEq h (PV k n f)=some (canE n f):=by
 obtain ⟨_,_,_,hb⟩:=hb
 exact can_dec hb h0
theorem fq_get {f:Row} {n j:Nat} (h:j < n):(fq f n)[j]?=some (RQ.of (f j)):=by unfold fq;rw [List.getElem?_map,List.getElem?_range h];rfl
theorem times_can {h:Heap} {k n:Nat} {f:Row} {x:Rat} (hb:∃ e s y,hget h k=some ⟨e,s,y,rqs (fq f n)⟩) (n0:0 < n) (n8:n <= 100) (hf:∀ j,j <= n -> RB (f j) 8589934592) (hx:RB x 8589934592) :
  spTimes [.agg ⟨PV k n f⟩,.agg ⟨(RQ.of x).cells⟩] h=some (eqNL n fun j=>f j * x):=by
 rw [show spTimes [.agg ⟨PV k n f⟩,.agg ⟨(RQ.of x).cells⟩] h=_ from times_of (pv_dec hb n0) (fq_len _ _) n8 (canE_ok hf) (RQ.of_ok hx)]
 refine congrArg some (eqNL_congr fun j hj=>?_)
 unfold timesF
 have:(canE n f).coef.length=n:=fq_len _ _
 rw [this,rowE_can hj,RQ.of_v]
theorem less_can {h:Heap} {k k' n:Nat} {f g:Row} (hb:∃ e s y,hget h k=some ⟨e,s,y,rqs (fq f n)⟩) (hb':∃ e s y,hget h k'=some ⟨e,s,y,rqs (fq g n)⟩) (n0:0 < n) (n8:n <= 100) (hf:∀ j,j <= n -> RB (f j) 8589934591) (hg:∀ j,j <= n -> RB (g j) 8589934591) :
  spLess24 [.agg ⟨PV k n f⟩,.agg ⟨PV k' n g⟩] h=some (eqNL n fun j=>f j - g j):=by
 rw [show spLess24 [.agg ⟨PV k n f⟩,.agg ⟨PV k' n g⟩] h=_ from less_of (pv_dec hb n0) (pv_dec hb' n0) (fq_len _ _) (fq_len _ _) n8 (canE_ok hf) (canE_ok hg)]
 refine congrArg some (eqNL_congr fun j hj=>?_)
 unfold lessF
 have:(canE n f).coef.length=n:=fq_len _ _
 rw [this,rowE_can hj,rowE_can hj]
theorem EqH.push2 {hp hp':Heap} {lo hi hi' kO n p kN kr:Nat} {ρ:Nat -> Nat} {Rw Rw':Nat -> Row} {f:Row} (H:EqH hp lo hi kO n p ρ Rw) (hk:hi <= kN) (hk':kN < hi') (hl:lo <= kr) (hr':kr < hi) (hne:∀ j,j < p -> ρ j ≠ kr) (hkO:kr ≠ kO) {x:Bool}
  (h1:hget hp' kN=some ⟨40,5,x,blkC (pvF ρ n Rw) p ++ PV kr n f⟩) (h2:∃ y,hget hp kr=some ⟨38,3,y,rqs (fq f n)⟩) (he:∀ q,lo <= q -> q < hi -> q ≠ kO -> hget hp' q=hget hp q)
  (hw:∀ j,j < p -> ∀ i,i <= n -> Rw' j i=Rw j i) (hw':∀ i,i <= n -> Rw' p i=f i):EqH hp' lo hi' kN n (p+1) (updN ρ p kr) Rw' where
 hd:=by
  refine ⟨x,?_⟩
  rw [h1]
  refine congrArg (fun c=>some (⟨40,5,x,c⟩:Blk)) ?_
  rw [blkC]
  congr 1
  ·exact blkC_congr fun q hq=>by unfold pvF;rw [updN_ne (by omega)];exact PV_congr fun i hi=>(hw q hq i hi).symm
  ·unfold pvF;rw [updN_eq];exact PV_congr fun i hi=>(hw' i hi).symm
 row:=fun j hj=>by
  by_cases e:j=p
  ·obtain ⟨y,h2⟩:=h2
   rw [e,updN_eq,he _ hl hr' hkO]
   exact ⟨y,by rw [h2,fq_congr fun i hi=>(hw' i (by omega)).symm]⟩
  ·rw [updN_ne e]
   obtain ⟨z,h⟩:=H.row j (by omega)
   exact ⟨z,by rw [he _ (H.bd j (by omega)).1 (H.bd j (by omega)).2 (H.ne j (by omega)),h,fq_congr fun i hi=>(hw j (by omega) i (by omega)).symm]⟩
 inj:=fun a b ha hb e=>by
  by_cases ea:a=p
  ·by_cases eb:b=p
   ·rw [ea,eb]
   ·rw [ea,updN_eq,updN_ne eb] at e
    exact absurd e.symm (hne b (by omega))
  ·by_cases eb:b=p
   ·rw [eb,updN_eq,updN_ne ea] at e
    exact absurd e (hne a (by omega))
   ·rw [updN_ne ea,updN_ne eb] at e;exact H.inj a b (by omega) (by omega) e
 ne:=fun j hj=>by
  by_cases e:j=p
  ·rw [e,updN_eq];omega
  ·rw [updN_ne e];have:=(H.bd j (by omega)).2;omega
 bd:=fun j hj=>by
  by_cases e:j=p
  ·rw [e,updN_eq];omega
  ·rw [updN_ne e];have:=H.bd j (by omega);omega
 kb:=by have:=H.kb;omega
def c73:ICode:=
 (.seq (.reg [qq 4 (.mv (.c (.slice none 0 0))),qq 5 (.mv (.c (.bool false)))]) (.seq (.reg [qq 14 (.bslice 40 5 0 [] []),qq 6 (.mv (.t 14))]) (.seq (.reg [qq 7 (.mv (.c (.bool true)))]) (.seq (.seq (.reg [qq 8 (.mv (ci 0))]) (.block 0 (.loop (.seq (.seq (.reg [qq 15 (.mv (.t 8)),qq 16 (.mv (.t 1)),qq 17 (.lensl (.t 16)),qq 18 (.bin .lss (.t 15) (.t 17))]) (.cond (.t 18) .skip (.exit 0))) (.seq (.block 1 (.seq (.dreg [qu 21 (.mv (.t 1)),qu 22 (.mv (.t 8)),qu 23 (.ixsl 5 (.t 21) (.t 22)),qu 24 (.load true 5 (.t 23)),qu 25 (.call 21 [(ci 1)]),qu 26 (.call 94 [(.t 24),(.t 25)]),qu 27 (.mv (.t 6)),qu 28 (.call 93 [(.t 26),(.t 27)]),qu 9 (.alloc 40 5 [(.slice none 0 0),(.bool false),e0,e0,(.int .i64 0)]),qm (.store 5 (.t 9) (.t 28))]) (.seq (.reg [qq 29 (.faddr 0 (.t 9)),qq 30 (.load false 1 (.t 29)),qq 31 (.call 95 [(.t 30)]),qq 10 (.mv (.t 31))]) (.seq (.seq (.reg [qq 32 (.mv (.t 10)),qq 33 (.mv (.t 0)),qq 34 (.bin .eql (.t 32) (.t 33))]) (.cond (.t 34) (.seq (.reg [qq 35 (.mv (.t 7)),qq 36 (.mv (.t 35)),⟨(some 37),(some (36,true)),(.faddr 1 (.t 9))⟩,⟨(some 38),(some (36,true)),(.load true 3 (.t 37))⟩,⟨(some 39),(some (36,true)),(.call 96 [(.t 38)])⟩,⟨(some 40),(some (36,true)),(.bin .eql (.t 39) (ci 0))⟩,qq 41 (.pick (.t 36) (.t 40) (.c (.bool false))),qq 7 (.mv (.t 41))]) (.exit 1)) .skip)) (.seq (.dreg [qu 43 (.call 21 [(ci 1)]),qu 44 (.faddr 0 (.t 9)),qv 45 [0] (.load false 1 (.t 44)),qu 46 (.mv (.t 10)),qu 47 (.ixsl 3 (.t 45) (.t 46)),qv 48 [0] (.load true 3 (.t 47)),qu 49 (.call 97 [(.t 43),(.t 48)]),qu 42 (.mv (.t 49)),qu 50 (.ext (.t 42) 0),qu 51 (.ext (.t 42) 1),qu 11 (.alloc 38 3 [(.bool false),e0,e0]),qm (.store 3 (.t 11) (.t 50)),qu 12 (.mv (.t 51))]) (.seq (.reg [qq 52 (.load true 5 (.t 9)),qq 53 (.load true 3 (.t 11)),qq 54 (.call 94 [(.t 52),(.t 53)]),qn (.store 5 (.t 9) (.t 54))]) (.seq (.seq (.reg [qq 13 (.mv (ci 0))]) (.block 2 (.loop (.seq (.seq (.reg [qq 55 (.mv (.t 13)),qq 56 (.mv (.t 6)),qq 57 (.lensl (.t 56)),qq 58 (.bin .lss (.t 55) (.t 57))]) (.cond (.t 58) .skip (.exit 2))) (.seq (.block 3 (.dreg [qu 61 (.mv (.t 6)),qu 62 (.mv (.t 13)),qu 63 (.mv (.t 6)),qu 64 (.mv (.t 13)),qu 65 (.ixsl 5 (.t 63) (.t 64)),qu 66 (.load true 5 (.t 65)),qu 67 (.load true 5 (.t 9)),qu 68 (.mv (.t 6)),qu 69 (.mv (.t 13)),qu 70 (.ixsl 5 (.t 68) (.t 69)),qu 71 (.faddr 0 (.t 70)),qu 72 (.load false 1 (.t 71)),qu 73 (.mv (.t 10)),qu 74 (.ixsl 3 (.t 72) (.t 73)),qu 75 (.load true 3 (.t 74)),qu 76 (.call 94 [(.t 67),(.t 75)]),qu 77 (.call 98 [(.t 66),(.t 76)]),qu 78 (.ixsl 5 (.t 61) (.t 62)),qm (.store 5 (.t 78) (.t 77))])) (.reg [qq 59 (.mv (.t 13)),qq 60 (.bin .add (.t 59) (ci 1)),qq 13 (.mv (.t 60))])))))) (.reg [qq 79 (.mv (.t 6)),qq 80 (.load true 5 (.t 9)),qq 81 (.bslice 40 5 1 [(.slice none 0 0),(.bool false),e0,e0,(.int .i64 0)] [(0,5,(.t 80))]),qq 82 (.app 40 5 72 (.t 79) (.t 81)),qq 6 (.mv (.t 82))])))))))) (.reg [qq 19 (.mv (.t 8)),qq 20 (.bin .add (.t 19) (ci 1)),qq 8 (.mv (.t 20))])))))) (.seq (.reg [qq 83 (.mv (.t 6)),qq 84 (.mv (.t 7)),qq 4 (.mv (.t 83)),qq 5 (.mv (.t 84))]) .ret)))))
theorem tr73:trFun Tryz.prog 73=some ⟨85,[.t 4,.t 5],c73⟩:=by kernel_rfl
set_option maxHeartbeats 64000000 in
theorem ok_reduced24:SpecOK Tryz.prog 73 (nwL spReduced):=by
 refine newL_run (env_cons ok_r3From (env_cons ok_times24 (env_cons ok_clean24 (env_cons ok_lead24 (env_cons ok_r3Sign (env_cons ok_r3Div (env_cons ok_less24 (env_nil _)))))))) mixed tr73 ?_ ?_
 ·intro args h h' r hle e
  unfold spReduced at e ⊢
  split at e
  ·split at e
   ·rename_i x hb
    simp only [decRows_mono hle hb];exact e
   ·cases e
  ·cases e
 intro args h N r hG hN
 unfold spReduced at hG
 split at hG
 case h_2=>cases hG
 rename_i nz sl
 split at hG
 case h_2=>cases hG
 rename_i l hx
 split at hG
 case isFalse=>cases hG
 rename_i hs
 obtain ⟨n0,hs⟩:=hs
 obtain ⟨n,rfl⟩:=Int.eq_ofNat_of_zero_le n0
 rw [Int.toNat_natCast] at *
 cases hG
 obtain ⟨n8,m100,hlen,hok⟩:=hs
 obtain ⟨b,dd,rfl⟩:=listAt_sl (dec:=decEq h) hx
 refine ⟨redNL_par _ _ _,by simp,?_⟩
 obtain ⟨rows,hrows⟩:∃ rows,rows=outR n l:=⟨_,rfl⟩
 have rlen:rows.length=l.length:=by rw [hrows,outR_len]
 have rat:∀ i,i < l.length -> rowAt rows i=rowE n (eqAt l i):=fun i hi=>by rw [hrows,outR_at hi]
 rw [<- hrows]
 have hfin:refRed n rows=refRed n (rows.take l.length):=by rw [<- rlen,List.take_length]
 rw [hfin]
 have z0:refRed n (rows.take 0)=([],true):=by rw [List.take_zero];rfl
 have stp:=fun (t:Nat) (ht:t < l.length)=>red_take (n:=n) (rows:=rows) (t:=t) (by omega)
 have piv:=fun t=>red_piv n (rows.take t)
 have hB:∀ t,t <= l.length -> RdB n (refRed n (rows.take t)).1:=by
  intro t
  induction t with
  | zero=>intro _;rw [z0];exact fun p hp=>absurd hp (Nat.not_lt_zero p)
  | succ t ih=>
   intro ht
   rw [stp t (by omega)]
   refine step_RB (piv t) (ih (by omega)) fun j hj=>?_
   rw [rat t (by omega)]
   have he:=hok _ (eqAt_mem (l:=l) (i:=t) (by omega))
   have hl:=hlen _ (eqAt_mem (l:=l) (i:=t) (by omega))
   by_cases c:j < n
   ·rw [rowE_lt c]
    exact (RQ.ok.rb (k:=4) (he.1 _ (rqAt_mem (by omega)))).le (by omega)
   ·have:j=n:=by omega
    rw [this,rowE_n]
    exact (RQ.ok.rb (k:=4) he.2).le (by omega)
 generalize hS:(fun t=>refRed n (rows.take t))=S at *
 have hSt:∀ t,refRed n (rows.take t)=S t:=fun t=>by rw [<- hS]
 simp only [hSt] at z0 stp piv hB ⊢
 clear hSt
 have dn:∀ a b:Int,decide (a ≠ b)=!decide (a=b):=fun a b=>by by_cases h:a=b <;> simp [h]
 have fr:spR3From [.int .i64 1]=some (.agg ⟨(RQ.of 1).cells⟩):=from3 (x:=1) (by omega)
 have gN:(N+0=N)=True:=eq_true rfl
 simp only [c73,G0,Nat.reduceAdd]
 simp only [↓R0,R1,simprocAttr,-Int.reduceAbs]
 refine lp_parts (fun c' tm hp nx=>∃ (i M kO:Nat) (ρ:Nat -> Nat),c'+i=l.length /\ tmget tm 0 = .int .i64 n /\ tmget tm 1 = .slice b l.length dd /\ tmget tm 6 = .slice (some ⟨kO,0,none⟩) (S i).1.length (S i).1.length /\ tmget tm 7 = .bool (S i).2 /\ tmget tm 8 = .int .i64 i /\
   EqH hp N M kO n (S i).1.length ρ (rowAt (S i).1) /\ ExtL N h hp /\ N+1 <= M /\ nx=M+0) ?_ l.length
  ⟨0,N+1,N,fun _=>0,by omega,?_,?_,?_,?_,?_,⟨⟨true,?_⟩,fun j hj=>?_,fun i j hi=>?_,fun j hj=>?_,fun j hj=>?_,by omega⟩,?_,Nat.le_refl _,rfl⟩
 rotate_left
 all_goals first | (simp only [↓R0,R1,simprocAttr,-Int.reduceAbs];done) | (simp only [↓R0,R1,simprocAttr,-Int.reduceAbs];rfl) | (simp only [↓R0,R1,simprocAttr,-Int.reduceAbs,z0];done) | (rw [z0];rfl) | (rw [z0];simp only [↓R0,R1,simprocAttr,-Int.reduceAbs,gN,blkC,List.length_nil];done) | (rw [z0] at hj;exact absurd hj (Nat.not_lt_zero j)) | (rw [z0] at hi;exact absurd hi (Nat.not_lt_zero i)) | skip
 ·intro q hq
  have nb:∀ d,(N+d=q)=False:=fun d=>eq_false (by omega)
  simp only [↓R0,R1,simprocAttr,-Int.reduceAbs,nb]
 rintro c' tm hp nx ⟨i,M,kO,ρ,hci,t0,t1,t6,t7,t8,H,hh,hM,hnx⟩
 rw [hnx]
 clear hnx nx
 have nbq:∀ q,q < N -> ∀ d,(M+d=q)=False:=fun q hq d=>eq_false (by omega)
 by_cases c1:i < l.length
 case neg=>
  have ei:i=l.length:=by omega
  subst ei
  have c1':((l.length:Int) < (l.length:Int))=False:=eq_false (by omega)
  simp only [↓R0,R1,simprocAttr,-Int.reduceAbs,t0,t1,t6,t7,t8,c1',FinL,isEnd,resL,res1]
  obtain ⟨x,hd⟩:=H.hd
  refine ⟨fun j=>if j=0 then kO else ρ (j - 1),_,fun j hj=>?_,fun a c ha hc e=>?_,rfl,rfl,fun j hj=>?_,hh⟩
  ·show N <= if j=0 then kO else ρ (j - 1)
   split
   ·exact H.kb.1
   ·exact (H.bd _ (by change j < 1+_ at hj;omega)).1
  ·change a < 1+_ at ha
   change c < 1+_ at hc
   change (if a=0 then kO else ρ (a - 1))=(if c=0 then kO else ρ (c - 1)) at e
   split at e <;> split at e
   ·omega
   ·exact absurd e.symm (H.ne _ (by omega))
   ·exact absurd e (H.ne _ (by omega))
   ·have:=H.inj _ _ (by omega) (by omega) e;omega
  ·change j < 1+_ at hj
   by_cases j0:j=0
   ·subst j0
    refine ⟨x,?_⟩
    show hget hp kO=_
    rw [hd];rfl
   ·obtain ⟨y,hy⟩:=H.row (j - 1) (by omega)
    refine ⟨y,?_⟩
    show hget hp (if j=0 then kO else ρ (j - 1))=some ⟨if j=0 then 40 else 38,if j=0 then 5 else 3,y,if j=0 then _ else _⟩
    rw [if_neg j0,if_neg j0,if_neg j0,if_neg j0]
    exact hy
 have c1':((i:Int) < (l.length:Int))=True:=eq_true (by omega)
 have w1:IntKind.i64.wrap ((i:Int)+1)=((i+1:Nat):Int):=by rw [i64_in _ (by omega)];omega
 obtain ⟨k,off,blk,a',n',c'',rfl,hb,q1,q2,hn',hl'⟩:=eq_at hx c1
 have hk:=hN _ _ hb
 have hbb:hget hp k=some blk:=by rw [hh k hk];exact hb
 have nk:=nbq k hk
 have hem:=eqAt_mem c1
 have hln:=hlen _ hem
 have hn'':n'=n:=hn'.trans hln
 rw [hn''] at hl' q2
 clear hn' hn''
 have heo:=hok _ hem
 have heo':eqOk (eqAt l i) 8589934592:=⟨fun q hq=>⟨by have:=(heo.1 q hq).1;omega,by have:=(heo.1 q hq).2;omega⟩,by have:=heo.2.1;omega,by have:=heo.2.2;omega⟩
 have ok1:(RQ.of 1).ok 8589934592:=(RQ.of_ok RB.one).le (by omega)
 have stp:=stp i c1
 rw [rat i c1] at stp
 have piv:=piv i
 have hB:=hB i (by omega)
 obtain ⟨s,hs⟩:∃ s,s=S i:=⟨_,rfl⟩
 rw [<- hs] at H t6 t7 stp piv hB
 obtain ⟨p,hp0⟩:∃ p,p=s.1.length:=⟨_,rfl⟩
 rw [<- hp0] at H t6
 have ppn:p <= n:=by rw [hp0];exact piv_len piv
 obtain ⟨F0,hF0⟩:∃ F,F=timesF (eqAt l i) (RQ.of 1):=⟨_,rfl⟩
 have F0v:∀ j,F0 j=rowE n (eqAt l i) j:=fun j=>by
  rw [hF0]
  unfold timesF
  rw [hln,RQ.of_v,Rat.mul_one]
 obtain ⟨R,hR⟩:∃ R,R=cleanR n s.1 (rowE n (eqAt l i)):=⟨_,rfl⟩
 unfold refStep at stp
 simp only [<- hR] at stp
 have rB6:∀ j,j <= n -> RB (rowE n (eqAt l i) j) 6:=fun j hj=>by
  by_cases c:j < n
  ·rw [rowE_lt c]
   exact (RQ.ok.rb (k:=4) (heo.1 _ (rqAt_mem (by omega)))).le (by omega)
  ·have:j=n:=by omega
   rw [this,rowE_n]
   exact (RQ.ok.rb (k:=4) heo.2).le (by omega)
 have cB:=clean_RB piv rB6 hB s.1.length (Nat.le_refl _)
 rw [List.take_length,<- hR,<- hp0] at cB
 have cB:∀ j,j <= n -> RB (R j) (rB p):=cB
 have rBl:=rB_le (p:=p) (by omega)
 have oBl:=oB_le p (by omega)
 have oBs:=oB_s p
 have ti:∀ {hp':Heap},ExtL N h hp' -> spTimes [.agg ⟨Value.slice a' n c'' :: (eqAt l i).tl⟩,.agg ⟨(RQ.of 1).cells⟩] hp'=some (eqNL n F0):=fun he=>by
  rw [times_of (decEq_of (ext_rats hN hl' he)) hln (by omega) heo' ok1,hF0]
 have e5l:(Value.slice a' n c'' :: (eqAt l i).tl).length=5:=rfl
 have e5o:(Value.slice a' n c'' :: (eqAt l i).tl).all okCell=true:=rfl
 generalize Value.slice a' n c'' :: (eqAt l i).tl=C5 at *
 have v0:∀ d,(M+d=kO)=False:=fun d=>eq_false (by have:=H.kb;omega)
 have v1:∀ d,(kO=M+d)=False:=fun d=>eq_false (by have:=H.kb;omega)
 have kOk:(kO=k)=False:=eq_false (by have:=H.kb;omega)
 have nwT:∀ (args:List Value) (hp:Heap) (k:Nat),nwL spTimes args hp k=(spTimes args hp).map fun r=>(r.val (k+·),newH r (k+·) r.m,r.m):=fun _ _ _=>rfl
 have nwS:∀ (args:List Value) (hp:Heap) (k:Nat),nwL spLess24 args hp k=(spLess24 args hp).map fun r=>(r.val (k+·),newH r (k+·) r.m,r.m):=fun _ _ _=>rfl
 have nwC:∀ (args:List Value) (hp:Heap) (k:Nat),nwL spClean24 args hp k=(spClean24 args hp).map fun r=>(r.val (k+·),newH r (k+·) r.m,r.m):=fun _ _ _=>rfl
 have xs:=fun j b hp'=>extL_ge (show N <= M by omega) j b h hp'
 have xh:ExtL N h hp=True:=eq_true hh
 have o1l:(RQ.of 1).cells.length=3:=rfl
 have o1o:(RQ.of 1).cells.all okCell=true:=rfl
 have xm:=fun j b=>extL_cons M j b hp
 have xm0:ExtL M hp hp=True:=eq_true fun _ _=>rfl
 have qln:∀ x:Rat,(RQ.of x).cells.length=3:=fun _=>rfl
 have qok:∀ x:Rat,(RQ.of x).cells.all okCell=true:=fun _=>rfl
 have M00:M+0+0=M+0:=rfl
 have M10:M+1+0=M+1:=rfl
 have M20:M+2+0=M+2:=rfl
 have M30:M+3+0=M+3:=rfl
 have M40:M+4+0=M+4:=rfl
 have xO:=fun (hp':Heap) (he:ExtL M hp hp')=>(H.mono (Nat.le_refl _) (fun q _ q2=>he q q2):EqH hp' N M kO n p ρ (rowAt s.1))
 have sgR:spR3Sign [.agg ⟨(RQ.of (R n)).cells⟩]=some (.int .i64 (sv (RQ.of (R n)).s (RQ.of (R n)).n).sign):=sgn3 (RQ.of_ok ((cB n (Nat.le_refl _)).le (by omega)))
 have sgv:((sv (RQ.of (R n)).s (RQ.of (R n)).n).sign=0)=(R n=0):=by rw [sg_v,RQ.of_v]
 by_cases nz:n=0
 ·have s0:s.1=[]:=List.eq_nil_of_length_eq_zero (by omega)
  have eF:F0=R:=funext fun j=>by rw [F0v,hR,s0];rfl
  have cz:canL n p (rowAt s.1)=[]:=by rw [show p=0 by omega];rfl
  have kk0:leadN n R=n:=by have:=leadN_le n R;omega
  rw [kk0,if_pos rfl] at stp
  rw [eF] at ti
  obtain ⟨PZ,hPZ⟩:∃ x,x=Value.slice none 0 0 :: (canE n R).tl:=⟨_,rfl⟩
  have eqZ:eqNL n R=⟨0,fun _ => .agg ⟨PZ⟩,fun _=>0,fun _=>0,fun _ _=>[]⟩:=by
   unfold eqNL
   rw [if_pos nz,hPZ]
  rw [eqZ] at ti
  have zl:PZ.length=5:=by rw [hPZ];rfl
  have zo:PZ.all okCell=true:=by rw [hPZ];rfl
  have zt:PZ.take 5=PZ:=by rw [hPZ];rfl
  have z00:PZ[0]?=some (.slice none 0 0):=by rw [hPZ];rfl
  have z11:(PZ.drop 1).take 3=(RQ.of (R n)).cells:=by rw [hPZ];rfl
  have zst:setR [.slice none 0 0,.bool false,.string ⟨⟨[]⟩⟩,.string ⟨⟨[]⟩⟩,.int .i64 0] 0 PZ=PZ:=by rw [hPZ];rfl
  have cl:∀ {hp':Heap},ExtL M hp hp' -> spClean24 [.agg ⟨PZ⟩,.slice (some ⟨kO,0,none⟩) p p] hp'=some ⟨0,fun _ => .agg ⟨PZ⟩,fun _=>0,fun _=>0,fun _ _=>[]⟩:=fun {hp'} he=>by
   refine clean_nil (e:=canE n R) ?_ (by rw [<- cz];exact (xO _ he).rows (fun h=>by omega)) (by rw [hPZ];trivial)
   rw [hPZ]
   refine decEq_of ?_
   show _=some (fq R n)
   rw [nz];rfl
  have leZ:∀ {hp':Heap},spLead [.slice none 0 0] hp'=some (.int .i64 0):=fun {hp'}=>by
   have:=lead_of (h:=hp') (sl:=.slice none 0 0) (c:=[]) rfl (by simp) (by simp)
   rw [this]
   have:leadN ([]:List RQ).length (qsV [])=0:=by have:=leadN_le ([]:List RQ).length (qsV []);simpa using this
   rw [this];rfl
  have en1:((0:Int)=(n:Int))=True:=eq_true (by omega)
  have en2:((n:Int)=(0:Int))=True:=eq_true (by omega)
  have en3:(n=0)=True:=eq_true nz
  have en4:(0=n)=True:=eq_true nz.symm
  clear hPZ
  cases s2:s.2 with
  | true=>
   rw [s2] at t7 stp
   by_cases rz:R n=0
   ·have rz':=sgv.trans (eq_true rz)
    simp only [↓R0,R1,simprocAttr,-Int.reduceAbs,rdS,t0,t1,t6,t7,t8,c1,c1',hbb,nk,q1,q2,fr,ti,nwT,nwC,newHL0,cl,M00,M10,zl,zo,zt,z00,z11,zst,e5l,e5o,o1l,o1o,xs,xh,xm,xm0,v0,v1,kOk,leZ,en1,en2,en3,en4,qln,qok,sgR,rz',w1]
    refine ⟨c' - 1,by omega,i+1,M+1,kO,ρ,by omega,?_,?_,rfl,?_,by omega,rfl⟩
    ·rw [stp,hp0]
    ·rw [stp,decide_eq_true rz];rfl
    ·rw [stp,<- hp0]
     exact H.mono (by omega) (fun q q1 q2=>by
      have nb:∀ d,(M+d=q)=False:=fun d=>eq_false (by omega)
      simp only [↓R0,R1,simprocAttr,-Int.reduceAbs,nb])
   ·have rz':=sgv.trans (eq_false rz)
    simp only [↓R0,R1,simprocAttr,-Int.reduceAbs,rdS,t0,t1,t6,t7,t8,c1,c1',hbb,nk,q1,q2,fr,ti,nwT,nwC,newHL0,cl,M00,M10,zl,zo,zt,z00,z11,zst,e5l,e5o,o1l,o1o,xs,xh,xm,xm0,v0,v1,kOk,leZ,en1,en2,en3,en4,qln,qok,sgR,rz',w1]
    refine ⟨c' - 1,by omega,i+1,M+1,kO,ρ,by omega,?_,?_,rfl,?_,by omega,rfl⟩
    ·rw [stp,hp0]
    ·rw [stp,decide_eq_false rz];rfl
    ·rw [stp,<- hp0]
     exact H.mono (by omega) (fun q q1 q2=>by
      have nb:∀ d,(M+d=q)=False:=fun d=>eq_false (by omega)
      simp only [↓R0,R1,simprocAttr,-Int.reduceAbs,nb])
  | false=>
   rw [s2] at t7 stp
   simp only [↓R0,R1,simprocAttr,-Int.reduceAbs,rdS,t0,t1,t6,t7,t8,c1,c1',hbb,nk,q1,q2,fr,ti,nwT,nwC,newHL0,cl,M00,M10,zl,zo,zt,z00,z11,zst,e5l,e5o,o1l,o1o,xs,xh,xm,xm0,v0,v1,kOk,leZ,en1,en2,en3,en4,qln,qok,w1]
   refine ⟨c' - 1,by omega,i+1,M+1,kO,ρ,by omega,?_,?_,rfl,?_,by omega,rfl⟩
   ·rw [stp,hp0]
   ·rw [stp,Bool.false_and]
   ·rw [stp,<- hp0]
    exact H.mono (by omega) (fun q q1 q2=>by
     have nb:∀ d,(M+d=q)=False:=fun d=>eq_false (by omega)
     simp only [↓R0,R1,simprocAttr,-Int.reduceAbs,nb])
 have n0:0 < n:=by omega
 have eqN:∀ f,eqNL n f=⟨1,fun σ => .agg ⟨PV (σ 0) n f⟩,fun _=>38,fun _=>3,fun _ _=>rqs (fq f n)⟩:=fun f=>by
  unfold eqNL
  rw [if_neg nz];rfl
 rw [eqN] at ti
 obtain ⟨kk,hkk⟩:∃ kk,kk=leadN n R:=⟨_,rfl⟩
 rw [<- hkk] at stp
 have kkn:=leadN_le n R
 rw [<- hkk] at kkn
 have le:∀ (kr:Nat) {hp':Heap},(∃ e s x,hget hp' kr=some ⟨e,s,x,rqs (fq R n)⟩) -> spLead [.slice (some ⟨kr,0,none⟩) n n] hp'=some (.int .i64 kk):=fun kr hp' ⟨_,_,_,hb⟩=>by
  have:=lead_of (rqs_list hb (fq_len _ _) n0) (by rw [fq_len];omega) (fq_ok fun j hj=>(cB j (by omega)).le (by omega))
  rw [fq_len] at this
  rw [this,hkk,lead_congr fun j hj=>fq_v hj]
 by_cases pz:p=0
 ·have Rz:∀ j,F0 j=R j:=fun j=>by
   rw [F0v,hR,List.eq_nil_of_length_eq_zero (hp0.symm.trans pz)];rfl
  have cz:canL n p (rowAt s.1)=[]:=by rw [pz];rfl
  have eF:F0=R:=funext Rz
  rw [eF] at ti
  have cl:∀ {hp':Heap},hget hp' (M+0)=some ⟨38,3,false,rqs (fq R n)⟩ -> ExtL M hp hp' -> spClean24 [.agg ⟨PV (M+0) n R⟩,.slice (some ⟨kO,0,none⟩) p p] hp'=some ⟨0,fun _ => .agg ⟨PV (M+0) n R⟩,fun _=>0,fun _=>0,fun _ _=>[]⟩:=fun hb he=>
   clean_nil (pv_dec ⟨_,_,_,hb⟩ n0) (by rw [<- cz];exact (xO _ he).rows (fun _=>n0)) (by show hget _ _ ≠ none;rw [hb];simp)
  have leK:∀ {hp':Heap},hget hp' (M+0)=some ⟨38,3,false,rqs (fq R n)⟩ -> spLead [.slice (some ⟨M+0,0,none⟩) n n] hp'=some (.int .i64 kk):=fun hb=>le _ ⟨_,_,_,hb⟩
  by_cases ek:kk=n
  ·have ek':((kk:Int)=(n:Int))=True:=eq_true (by omega)
   have ek'':(kk=n)=True:=eq_true ek
   rw [if_pos ek] at stp
   cases s2:s.2 with
   | true=>
    rw [s2] at t7 stp
    by_cases rz:R n=0
    ·have rz':=sgv.trans (eq_true rz)
     simp only [↓R0,R1,simprocAttr,-Int.reduceAbs,rdS,t0,t1,t6,t7,t8,c1,c1',hbb,nk,q1,q2,fr,ti,nwT,nwC,newHL0,newHL1,cl,M00,M10,M20,PV_len,PV_ok,PV_tk,PV_0,PV_z,e5l,e5o,o1l,o1o,xs,xh,xm,xm0,v0,v1,kOk,leK,ek',ek'',PV_1,qln,qok,sgR,rz',w1]
     refine ⟨c' - 1,by omega,i+1,M+2,kO,ρ,by omega,?_,?_,rfl,?_,by omega,rfl⟩
     ·rw [stp,hp0]
     ·rw [stp,decide_eq_true rz];rfl
     ·rw [stp,<- hp0]
      exact H.mono (by omega) (fun q q1 q2=>by
       have nb:∀ d,(M+d=q)=False:=fun d=>eq_false (by omega)
       simp only [↓R0,R1,simprocAttr,-Int.reduceAbs,nb])
    ·have rz':=sgv.trans (eq_false rz)
     simp only [↓R0,R1,simprocAttr,-Int.reduceAbs,rdS,t0,t1,t6,t7,t8,c1,c1',hbb,nk,q1,q2,fr,ti,nwT,nwC,newHL0,newHL1,cl,M00,M10,M20,PV_len,PV_ok,PV_tk,PV_0,PV_z,e5l,e5o,o1l,o1o,xs,xh,xm,xm0,v0,v1,kOk,leK,ek',ek'',PV_1,qln,qok,sgR,rz',w1]
     refine ⟨c' - 1,by omega,i+1,M+2,kO,ρ,by omega,?_,?_,rfl,?_,by omega,rfl⟩
     ·rw [stp,hp0]
     ·rw [stp,decide_eq_false rz];rfl
     ·rw [stp,<- hp0]
      exact H.mono (by omega) (fun q q1 q2=>by
       have nb:∀ d,(M+d=q)=False:=fun d=>eq_false (by omega)
       simp only [↓R0,R1,simprocAttr,-Int.reduceAbs,nb])
   | false=>
    rw [s2] at t7 stp
    simp only [↓R0,R1,simprocAttr,-Int.reduceAbs,rdS,t0,t1,t6,t7,t8,c1,c1',hbb,nk,q1,q2,fr,ti,nwT,nwC,newHL0,newHL1,cl,M00,M10,M20,PV_len,PV_ok,PV_tk,PV_0,PV_z,e5l,e5o,o1l,o1o,xs,xh,xm,xm0,v0,v1,kOk,leK,ek',ek'',w1]
    refine ⟨c' - 1,by omega,i+1,M+2,kO,ρ,by omega,?_,?_,rfl,?_,by omega,rfl⟩
    ·rw [stp,hp0]
    ·rw [stp,Bool.false_and]
    ·rw [stp,<- hp0]
     exact H.mono (by omega) (fun q q1 q2=>by
      have nb:∀ d,(M+d=q)=False:=fun d=>eq_false (by omega)
      simp only [↓R0,R1,simprocAttr,-Int.reduceAbs,nb])
  have kkl:kk < n:=by omega
  rw [if_neg ek] at stp
  have nzR:R kk ≠ 0:=by rw [hkk];exact leadN_ne (by omega)
  have ek':((kk:Int)=(n:Int))=False:=eq_false (by omega)
  have ek'':(kk=n)=False:=eq_false ek
  have kk':((kk:Int) < (n:Int))=True:=eq_true (by omega)
  have kk3:(kk * 3+3 <= n * 3)=True:=eq_true (by omega)
  have rlR:(rqs (fq R n)).length=n * 3:=by rw [rqs_len,fq_len]
  have ratR:((rqs (fq R n)).drop (kk * 3)).take 3=(RQ.of (R kk)).cells:=rqs_at _ kk _ (fq_get kkl)
  have dv:spR3Div [.agg ⟨(RQ.of 1).cells⟩,.agg ⟨(RQ.of (R kk)).cells⟩]=some (.tuple ⟨[.agg ⟨(RQ.of (1 / R kk)).cells⟩,.bool true]⟩):=div3 RB.one (cB kk (by omega)) (by omega) (by omega) nzR
  have qtk:∀ x:Rat,(RQ.of x).cells.take 3=(RQ.of x).cells:=fun _=>rfl
  have qst:∀ x:Rat,setR [.bool false,.string ⟨⟨[]⟩⟩,.string ⟨⟨[]⟩⟩] 0 (RQ.of x).cells=(RQ.of x).cells:=fun _=>rfl
  have rBx:RB (1 / R kk) (1+rB p):=RB.one.div (cB _ (by omega)) (by unfold rB;omega) (Nat.le_refl _)
  obtain ⟨G,hG⟩:∃ G:Row,G=fun j=>R j * (1 / R kk):=⟨_,rfl⟩
  have GB:∀ j,j <= n -> RB (G j) (2 * rB p+1):=fun j hj=>by rw [hG];exact (cB j hj).mul rBx (by omega)
  have ti2:∀ {hp':Heap},hget hp' (M+0)=some ⟨38,3,false,rqs (fq R n)⟩ -> spTimes [.agg ⟨PV (M+0) n R⟩,.agg ⟨(RQ.of (1 / R kk)).cells⟩] hp'=some ⟨1,fun σ => .agg ⟨PV (σ 0) n G⟩,fun _=>38,fun _=>3,fun _ _=>rqs (fq G n)⟩:=fun hb=>by
   rw [times_can ⟨_,_,_,hb⟩ n0 (by omega) (fun j hj=>(cB j hj).le (by omega)) (rBx.le (by omega)),<- hG,eqN]
  have hkO:=H.kb
  have hbd:=H.bd
  have y1:(M+1=M)=False:=eq_false (by omega)
  have y2:(M+2=M)=False:=eq_false (by omega)
  have y3:(M+3=M)=False:=eq_false (by omega)
  have y4:(M+4=M)=False:=eq_false (by omega)
  have z1:(M=M+1)=False:=eq_false (by omega)
  have z2:(M=M+2)=False:=eq_false (by omega)
  have z3:(M=M+3)=False:=eq_false (by omega)
  have z4:(M=M+4)=False:=eq_false (by omega)
  simp only [↓R0,R1,simprocAttr,-Int.reduceAbs,rdS,t0,t1,t6,t7,t8,c1,c1',hbb,nk,q1,q2,fr,ti,nwT,nwC,newHL0,newHL1,cl,M00,M10,M20,PV_len,PV_ok,PV_tk,PV_0,PV_z,e5l,e5o,o1l,o1o,xs,xh,xm,xm0,v0,v1,kOk,leK,y1,y2,y3,y4,z1,z2,z3,z4,ek',ek'',kk',kkl,kk3,rlR,ratR,dv,ti2,qln,qok,qtk,qst,PV_s]
  have kOM:kO < M:=hkO.2
  refine lp_parts (fun d tm hp2 nx=>∃ (j M2:Nat) (ρ2:Nat -> Nat) (W:Nat -> Row),d+j=p /\ tmget tm 0 = .int .i64 n /\ tmget tm 1 = .slice (some ⟨k,off,none⟩) l.length dd /\ tmget tm 6 = .slice (some ⟨kO,0,none⟩) p p /\ tmget tm 7 = .bool s.2 /\ tmget tm 8 = .int .i64 i /\ tmget tm 9 = .pointer (some ⟨M+1,0,none⟩) /\ tmget tm 10 = .int .i64 kk /\ tmget tm 13 = .int .i64 j /\
    EqH hp2 N M2 kO n p ρ2 W /\ (∀ q,q < p -> ∀ i,i <= n -> W q i=if q < j then rowAt s.1 q i - G i * rowAt s.1 q kk else rowAt s.1 q i) /\ (∃ x,hget hp2 (M+1)=some ⟨40,5,x,PV (M+3) n G⟩) /\ (∃ y,hget hp2 (M+3)=some ⟨38,3,y,rqs (fq G n)⟩) /\ (∀ q,q < p -> ρ2 q ≠ M+3 /\ ρ2 q ≠ M+1) /\ ExtL N h hp2 /\ M+3+1 <= M2 /\ nx=M2+0) ?_ p
   ⟨0,M+3+1,ρ,rowAt s.1,by omega,?_,?_,?_,?_,?_,?_,?_,?_,H.mono (by omega) ?_,fun q hq i hi=>(if_neg (Nat.not_lt_zero q)).symm,⟨true,?_⟩,⟨false,?_⟩,fun q hq=>by have:=hbd q hq;omega,?_,Nat.le_refl _,rfl⟩
  rotate_left
  all_goals first | (simp only [↓R0,R1,simprocAttr,-Int.reduceAbs];done) | (simp only [↓R0,R1,simprocAttr,-Int.reduceAbs];rfl) | (simp only [↓R0,R1,simprocAttr,-Int.reduceAbs,t0,t1,t6,t7,t8];done) | skip
  ·intro q q1 q2
   have nb:∀ d,(M+d=q)=False:=fun d=>eq_false (by omega)
   have nb3:(M+3+0=q)=False:=eq_false (by omega)
   simp only [↓R0,R1,simprocAttr,-Int.reduceAbs,nb,nb3]
  ·intro q hq
   have nb:∀ d,(M+d=q)=False:=fun d=>eq_false (by omega)
   have nb3:(M+3+0=q)=False:=eq_false (by omega)
   simp only [↓R0,R1,simprocAttr,-Int.reduceAbs,nb,nb3]
   exact hh q hq
  clear t0 t1 t6 t7 t8
  rintro d tm hp2 nx ⟨j,M2,ρ2,W,hd,t0,t1,t6,t7,t8,t9,t10,t13,H2,hW,⟨x9,b9⟩,⟨yG,bG⟩,hρ,hh2,hM2,hnx⟩
  rw [hnx]
  clear hnx nx
  obtain ⟨xO,bO⟩:=H2.hd
  have w0:∀ d,(M2+d=kO)=False:=fun d=>eq_false (by omega)
  have w2:∀ d,(kO=M2+d)=False:=fun d=>eq_false (by omega)
  have w3:∀ d,(M2+d=M+1)=False:=fun d=>eq_false (by omega)
  have w4:∀ d,(M+1=M2+d)=False:=fun d=>eq_false (by omega)
  have w5:∀ d,(M2+d=M+3)=False:=fun d=>eq_false (by omega)
  have w6:∀ d,(M+3=M2+d)=False:=fun d=>eq_false (by omega)
  have m20:M2+0+0=M2+0:=rfl
  have m21:M2+1+0=M2+1:=rfl
  have lenB:(blkC (pvF ρ2 n W) p).length=p * 5:=blkC_len fun i _=>PV_len _ _ _
  by_cases d1:j < p
  case neg=>
   have ej:j=p:=by omega
   subst ej
   have d1':((j:Int) < (j:Int))=False:=eq_false (by omega)
   have npp:(j+1 <= j)=False:=eq_false (by omega)
   have ovr:((j+1) * 72 <= 140737488355328)=True:=eq_true (by omega)
   simp only [↓R0,R1,simprocAttr,-Int.reduceAbs,t0,t1,t6,t7,t8,t9,t10,t13,d1',b9,bO,PV_len,PV_ok,PV_tk,PV_0,PV_z,lenB,npp,ovr,v0,v1,w0,w2,w3,w4,w5,w6,w1]
   refine ⟨c' - 1,by omega,i+1,M2+2,M2+1,updN ρ2 j (M+3),by omega,?_,?_,rfl,?_,?_,by omega,rfl⟩
   ·rw [stp]
    have:(s.1.map (fun o j=>o j - R j * (1 / R kk) * o kk) ++ [fun j=>R j * (1 / R kk)]).length=j+1:=by rw [List.length_append,List.length_map,<- hp0];rfl
    rw [this]
   ·rw [stp]
   ·have eln:(S (i+1)).1.length=j+1:=by rw [stp,List.length_append,List.length_map,<- hp0];rfl
    rw [eln]
    refine H2.push2 (hp:=hp2) (by omega) (by omega) (by omega) (by omega) (fun q hq=>(hρ q hq).1) (by omega) (x:=false) ?_ ⟨_,bG⟩ (fun q q1 q2 q3=>?_) (fun q hq i' hi'=>?_) (fun i' hi'=>?_) (f:=G)
    ·simp only [↓R0,R1,simprocAttr,-Int.reduceAbs]
    ·have nb:∀ d,(M2+d=q)=False:=fun d=>eq_false (by omega)
     have nk:(kO=q)=False:=eq_false (fun e=>q3 e.symm)
     simp only [↓R0,R1,simprocAttr,-Int.reduceAbs,nb,nk]
    ·rw [stp,rowAt_map (by omega),hW q hq i' hi',if_pos hq,hG]
    ·rw [stp,hp0,rowAt_last,hG]
   ·intro q hq
    have nb:∀ d,(M2+d=q)=False:=fun d=>eq_false (by omega)
    have nk:(kO=q)=False:=eq_false (by omega)
    simp only [↓R0,R1,simprocAttr,-Int.reduceAbs,nb,nk]
    exact hh2 q hq
  have d1':((j:Int) < (p:Int))=True:=eq_true (by omega)
  have wj:IntKind.i64.wrap ((j:Int)+1)=((j+1:Nat):Int):=by rw [i64_in _ (by omega)];omega
  have j5:(j * 5+5 <= p * 5)=True:=eq_true (by omega)
  obtain ⟨o,ho⟩:∃ o,o=W j:=⟨_,rfl⟩
  have oB:∀ i,i <= n -> RB (o i) (oB p):=fun i hi=>by
   rw [ho,hW j d1 i hi,if_neg (Nat.lt_irrefl j),hp0]
   exact hB j (by omega) i hi
  have atB:((blkC (pvF ρ2 n W) p).drop (j * 5)).take 5=PV (ρ2 j) n o:=by
   rw [blkC_at (f:=pvF ρ2 n W) (w:=5) (fun i _=>PV_len _ _ _) d1,ho];rfl
  have atB0:(blkC (pvF ρ2 n W) p)[j * 5+0]?=some (.slice (some ⟨ρ2 j,0,none⟩) n n):=by
   have:((blkC (pvF ρ2 n W) p).drop (j * 5))[0]?=some (.slice (some ⟨ρ2 j,0,none⟩) n n):=by
    rw [show ((blkC (pvF ρ2 n W) p).drop (j * 5))[0]?=(((blkC (pvF ρ2 n W) p).drop (j * 5)).take 5)[0]? by rw [List.getElem?_take,if_pos (by omega)],atB];rfl
   rw [List.getElem?_drop] at this
   exact this
  obtain ⟨yr,br⟩:=H2.row j d1
  rw [<- ho] at br
  have bdj:=H2.bd j d1
  have w7:∀ d,(M2+d=ρ2 j)=False:=fun d=>eq_false (by omega)
  have rlo:(rqs (fq o n)).length=n * 3:=by rw [rqs_len,fq_len]
  have rato:((rqs (fq o n)).drop (kk * 3)).take 3=(RQ.of (o kk)).cells:=rqs_at _ kk _ (fq_get kkl)
  have okB:=oB kk (by omega)
  have ti3:∀ {hp':Heap},hget hp' (M+3)=some ⟨38,3,yG,rqs (fq G n)⟩ -> spTimes [.agg ⟨PV (M+3) n G⟩,.agg ⟨(RQ.of (o kk)).cells⟩] hp'=some ⟨1,fun σ => .agg ⟨PV (σ 0) n fun q=>G q * o kk⟩,fun _=>38,fun _=>3,fun _ _=>rqs (fq (fun q=>G q * o kk) n)⟩:=fun hb=>by
   rw [times_can ⟨_,_,_,hb⟩ n0 (by omega) (fun q hq=>(GB q hq).le (by omega)) (okB.le (by omega)),eqN]
  have li3:∀ {hp':Heap},hget hp' (ρ2 j)=some ⟨38,3,yr,rqs (fq o n)⟩ -> hget hp' (M2+0)=some ⟨38,3,false,rqs (fq (fun q=>G q * o kk) n)⟩ -> spLess24 [.agg ⟨PV (ρ2 j) n o⟩,.agg ⟨PV (M2+0) n fun q=>G q * o kk⟩] hp'=some ⟨1,fun σ => .agg ⟨PV (σ 0) n fun q=>o q - G q * o kk⟩,fun _=>38,fun _=>3,fun _ _=>rqs (fq (fun q=>o q - G q * o kk) n)⟩:=fun hb hb'=>by
   rw [less_can ⟨_,_,_,hb⟩ ⟨_,_,_,hb'⟩ n0 (by omega) (fun q hq=>(oB q hq).le (by omega)) (fun q hq=>((GB q hq).mul okB (Nat.le_refl _)).le (by omega)),eqN]
  generalize hF1:(fun q=>G q * o kk)=F1 at *
  generalize hF2:(fun q=>o q - G q * o kk)=F2 at *
  simp only [↓R0,R1,simprocAttr,-Int.reduceAbs,rdS,t0,t1,t6,t7,t8,t9,t10,t13,d1,d1',b9,bG,bO,br,PV_len,PV_ok,PV_tk,PV_0,PV_z,PV_s,lenB,atB,atB0,j5,rlo,rato,kkl,kk',kk3,qln,qok,ti3,li3,nwT,nwS,newHL1,m20,m21,v0,v1,w0,w2,w3,w4,w5,w6,w7,wj]
  refine ⟨d - 1,by omega,j+1,M2+2,updN ρ2 j (M2+1),updW W j F2,by omega,rfl,H2.upd d1 (by omega) (by omega) (x:=xO) (y:=false) ?_ ?_ (fun q q1 q2 q3=>?_),fun q hq i' hi'=>?_,⟨_,rfl⟩,⟨_,rfl⟩,fun q hq=>?_,fun q hq=>?_,by omega,rfl⟩
  ·simp only [↓R0,R1,simprocAttr,-Int.reduceAbs]
  ·simp only [↓R0,R1,simprocAttr,-Int.reduceAbs,w0,w2]
  ·have nb:∀ d,(M2+d=q)=False:=fun d=>eq_false (by omega)
   have nk:(kO=q)=False:=eq_false (fun e=>q3 e.symm)
   simp only [↓R0,R1,simprocAttr,-Int.reduceAbs,nb,nk]
  ·by_cases e:q=j
   ·rw [e,updW_eq,if_pos (by omega),<- hF2]
    have:=hW j d1 i' hi'
    rw [if_neg (Nat.lt_irrefl j)] at this
    have:=hW j d1 kk (by omega)
    rw [if_neg (Nat.lt_irrefl j)] at this
    simp only [ho]
    grind
   ·rw [updW_ne e,hW q hq i' hi']
    by_cases c:q < j
    ·rw [if_pos c,if_pos (by omega)]
    ·rw [if_neg c,if_neg (by omega)]
  ·by_cases e:q=j
   ·rw [e,updN_eq];omega
   ·rw [updN_ne e];exact hρ q hq
  ·have nb:∀ d,(M2+d=q)=False:=fun d=>eq_false (by omega)
   have nk:(kO=q)=False:=eq_false (by omega)
   simp only [↓R0,R1,simprocAttr,-Int.reduceAbs,nb,nk]
   exact hh2 q hq
 ·have p0:0 < p:=by omega
  have cl:∀ {hp':Heap},hget hp' (M+0)=some ⟨38,3,false,rqs (fq F0 n)⟩ -> ExtL M hp hp' -> spClean24 [.agg ⟨PV (M+0) n F0⟩,.slice (some ⟨kO,0,none⟩) p p] hp'=some ⟨1,fun σ => .agg ⟨PV (σ 0) n R⟩,fun _=>38,fun _=>3,fun _ _=>rqs (fq R n)⟩:=fun {hp'} hb he=>by
   have hr:=(xO _ he).rows (fun _=>n0)
   have cat:∀ q,q < p -> eqAt (canL n p (rowAt s.1)) q=canE n (rowAt s.1 q):=fun q hq=>canL_at hq
   have cll:=canL_len n p (rowAt s.1)
   have oo:∀ q,q < p -> ∀ j,j <= n -> rowAt (outR n (canL n p (rowAt s.1))) q j=rowAt s.1 q j:=fun q hq j hj=>by rw [outR_at (by omega),cat q hq,rowE_can hj]
   have lm:∀ d ∈ canL n p (rowAt s.1),∃ q,q < p /\ d=canE n (rowAt s.1 q):=fun d hd=>by
    unfold canL at hd
    obtain ⟨q,hq,rfl⟩:=List.mem_map.1 hd
    exact ⟨q,List.mem_range.1 hq,rfl⟩
   have ne:canL n p (rowAt s.1) ≠ []:=fun e=>by rw [e] at cll;exact absurd cll (by simp;omega)
   have rF:∀ j,j <= n -> rowE n (canE n F0) j=rowE n (eqAt l i) j:=fun j hj=>by rw [rowE_can hj,F0v]
   have co:ClOK n (canE n F0) (canL n p (rowAt s.1)):=by
    refine ⟨n8,by omega,fun d hd=>?_,piv.congr (by rw [outR_len];omega) (fun q hq j hj=>oo q (by omega) j hj),canE_ok fun j hj=>by rw [F0v];exact (rB6 j hj).le (by omega),fun j hj=>by rw [rF j hj];exact rB6 j hj,fun d hd=>?_,fun q hq j hj=>?_⟩
    ·obtain ⟨q,_,rfl⟩:=lm d hd;exact fq_len _ _
    ·obtain ⟨q,hq,rfl⟩:=lm d hd
     exact canE_ok fun j hj=>(hB q (by omega) j hj).le (by rw [<- hp0];omega)
    ·rw [cll] at hq
     rw [cat q hq,rowE_can hj]
     exact (hB q (by omega) j hj).le (by rw [<- hp0];omega)
   rw [clean_of (pv_dec ⟨_,_,_,hb⟩ n0) hr (fq_len _ _) ne co,eqNL_congr (g:=R) fun j hj=>?_,eqN]
   rw [hR]
   exact cleanR_congr (by rw [outR_len];omega) (fun q hq j hj=>oo q (by rw [outR_len] at hq;omega) j hj) rF j hj
  have leK:∀ {hp':Heap},hget hp' (M+1)=some ⟨38,3,false,rqs (fq R n)⟩ -> spLead [.slice (some ⟨M+1,0,none⟩) n n] hp'=some (.int .i64 kk):=fun hb=>le _ ⟨_,_,_,hb⟩
  by_cases ek:kk=n
  ·have ek':((kk:Int)=(n:Int))=True:=eq_true (by omega)
   have ek'':(kk=n)=True:=eq_true ek
   rw [if_pos ek] at stp
   cases s2:s.2 with
   | true=>
    rw [s2] at t7 stp
    by_cases rz:R n=0
    ·have rz':=sgv.trans (eq_true rz)
     simp only [↓R0,R1,simprocAttr,-Int.reduceAbs,rdS,t0,t1,t6,t7,t8,c1,c1',hbb,nk,q1,q2,fr,ti,nwT,nwC,newHL0,newHL1,cl,M00,M10,M20,PV_len,PV_ok,PV_tk,PV_0,PV_z,e5l,e5o,o1l,o1o,xs,xh,xm,xm0,v0,v1,kOk,leK,ek',ek'',PV_1,qln,qok,sgR,rz',w1]
     refine ⟨c' - 1,by omega,i+1,M+3,kO,ρ,by omega,?_,?_,rfl,?_,by omega,rfl⟩
     ·rw [stp,hp0]
     ·rw [stp,decide_eq_true rz];rfl
     ·rw [stp,<- hp0]
      exact H.mono (by omega) (fun q q1 q2=>by
       have nb:∀ d,(M+d=q)=False:=fun d=>eq_false (by omega)
       simp only [↓R0,R1,simprocAttr,-Int.reduceAbs,nb])
    ·have rz':=sgv.trans (eq_false rz)
     simp only [↓R0,R1,simprocAttr,-Int.reduceAbs,rdS,t0,t1,t6,t7,t8,c1,c1',hbb,nk,q1,q2,fr,ti,nwT,nwC,newHL0,newHL1,cl,M00,M10,M20,PV_len,PV_ok,PV_tk,PV_0,PV_z,e5l,e5o,o1l,o1o,xs,xh,xm,xm0,v0,v1,kOk,leK,ek',ek'',PV_1,qln,qok,sgR,rz',w1]
     refine ⟨c' - 1,by omega,i+1,M+3,kO,ρ,by omega,?_,?_,rfl,?_,by omega,rfl⟩
     ·rw [stp,hp0]
     ·rw [stp,decide_eq_false rz];rfl
     ·rw [stp,<- hp0]
      exact H.mono (by omega) (fun q q1 q2=>by
       have nb:∀ d,(M+d=q)=False:=fun d=>eq_false (by omega)
       simp only [↓R0,R1,simprocAttr,-Int.reduceAbs,nb])
   | false=>
    rw [s2] at t7 stp
    simp only [↓R0,R1,simprocAttr,-Int.reduceAbs,rdS,t0,t1,t6,t7,t8,c1,c1',hbb,nk,q1,q2,fr,ti,nwT,nwC,newHL0,newHL1,cl,M00,M10,M20,PV_len,PV_ok,PV_tk,PV_0,PV_z,e5l,e5o,o1l,o1o,xs,xh,xm,xm0,v0,v1,kOk,leK,ek',ek'',w1]
    refine ⟨c' - 1,by omega,i+1,M+3,kO,ρ,by omega,?_,?_,rfl,?_,by omega,rfl⟩
    ·rw [stp,hp0]
    ·rw [stp,Bool.false_and]
    ·rw [stp,<- hp0]
     exact H.mono (by omega) (fun q q1 q2=>by
      have nb:∀ d,(M+d=q)=False:=fun d=>eq_false (by omega)
      simp only [↓R0,R1,simprocAttr,-Int.reduceAbs,nb])
  have kkl:kk < n:=by omega
  rw [if_neg ek] at stp
  have nzR:R kk ≠ 0:=by rw [hkk];exact leadN_ne (by omega)
  have ek':((kk:Int)=(n:Int))=False:=eq_false (by omega)
  have ek'':(kk=n)=False:=eq_false ek
  have kk':((kk:Int) < (n:Int))=True:=eq_true (by omega)
  have kk3:(kk * 3+3 <= n * 3)=True:=eq_true (by omega)
  have rlR:(rqs (fq R n)).length=n * 3:=by rw [rqs_len,fq_len]
  have ratR:((rqs (fq R n)).drop (kk * 3)).take 3=(RQ.of (R kk)).cells:=rqs_at _ kk _ (fq_get kkl)
  have dv:spR3Div [.agg ⟨(RQ.of 1).cells⟩,.agg ⟨(RQ.of (R kk)).cells⟩]=some (.tuple ⟨[.agg ⟨(RQ.of (1 / R kk)).cells⟩,.bool true]⟩):=div3 RB.one (cB kk (by omega)) (by omega) (by omega) nzR
  have qtk:∀ x:Rat,(RQ.of x).cells.take 3=(RQ.of x).cells:=fun _=>rfl
  have qst:∀ x:Rat,setR [.bool false,.string ⟨⟨[]⟩⟩,.string ⟨⟨[]⟩⟩] 0 (RQ.of x).cells=(RQ.of x).cells:=fun _=>rfl
  have rBx:RB (1 / R kk) (1+rB p):=RB.one.div (cB _ (by omega)) (by unfold rB;omega) (Nat.le_refl _)
  obtain ⟨G,hG⟩:∃ G:Row,G=fun j=>R j * (1 / R kk):=⟨_,rfl⟩
  have GB:∀ j,j <= n -> RB (G j) (2 * rB p+1):=fun j hj=>by rw [hG];exact (cB j hj).mul rBx (by omega)
  have ti2:∀ {hp':Heap},hget hp' (M+1)=some ⟨38,3,false,rqs (fq R n)⟩ -> spTimes [.agg ⟨PV (M+1) n R⟩,.agg ⟨(RQ.of (1 / R kk)).cells⟩] hp'=some ⟨1,fun σ => .agg ⟨PV (σ 0) n G⟩,fun _=>38,fun _=>3,fun _ _=>rqs (fq G n)⟩:=fun hb=>by
   rw [times_can ⟨_,_,_,hb⟩ n0 (by omega) (fun j hj=>(cB j hj).le (by omega)) (rBx.le (by omega)),<- hG,eqN]
  have hkO:=H.kb
  have hbd:=H.bd
  have y1:(M+1=M)=False:=eq_false (by omega)
  have y2:(M+2=M)=False:=eq_false (by omega)
  have y3:(M+3=M)=False:=eq_false (by omega)
  have y4:(M+4=M)=False:=eq_false (by omega)
  have z1:(M=M+1)=False:=eq_false (by omega)
  have z2:(M=M+2)=False:=eq_false (by omega)
  have z3:(M=M+3)=False:=eq_false (by omega)
  have z4:(M=M+4)=False:=eq_false (by omega)
  simp only [↓R0,R1,simprocAttr,-Int.reduceAbs,rdS,t0,t1,t6,t7,t8,c1,c1',hbb,nk,q1,q2,fr,ti,nwT,nwC,newHL0,newHL1,cl,M00,M10,M20,PV_len,PV_ok,PV_tk,PV_0,PV_z,e5l,e5o,o1l,o1o,xs,xh,xm,xm0,v0,v1,kOk,leK,y1,y2,y3,y4,z1,z2,z3,z4,ek',ek'',kk',kkl,kk3,rlR,ratR,dv,ti2,qln,qok,qtk,qst,PV_s]
  have kOM:kO < M:=hkO.2
  refine lp_parts (fun d tm hp2 nx=>∃ (j M2:Nat) (ρ2:Nat -> Nat) (W:Nat -> Row),d+j=p /\ tmget tm 0 = .int .i64 n /\ tmget tm 1 = .slice (some ⟨k,off,none⟩) l.length dd /\ tmget tm 6 = .slice (some ⟨kO,0,none⟩) p p /\ tmget tm 7 = .bool s.2 /\ tmget tm 8 = .int .i64 i /\ tmget tm 9 = .pointer (some ⟨M+2,0,none⟩) /\ tmget tm 10 = .int .i64 kk /\ tmget tm 13 = .int .i64 j /\
    EqH hp2 N M2 kO n p ρ2 W /\ (∀ q,q < p -> ∀ i,i <= n -> W q i=if q < j then rowAt s.1 q i - G i * rowAt s.1 q kk else rowAt s.1 q i) /\ (∃ x,hget hp2 (M+2)=some ⟨40,5,x,PV (M+4) n G⟩) /\ (∃ y,hget hp2 (M+4)=some ⟨38,3,y,rqs (fq G n)⟩) /\ (∀ q,q < p -> ρ2 q ≠ M+4 /\ ρ2 q ≠ M+2) /\ ExtL N h hp2 /\ M+4+1 <= M2 /\ nx=M2+0) ?_ p
   ⟨0,M+4+1,ρ,rowAt s.1,by omega,?_,?_,?_,?_,?_,?_,?_,?_,H.mono (by omega) ?_,fun q hq i hi=>(if_neg (Nat.not_lt_zero q)).symm,⟨true,?_⟩,⟨false,?_⟩,fun q hq=>by have:=hbd q hq;omega,?_,Nat.le_refl _,rfl⟩
  rotate_left
  all_goals first | (simp only [↓R0,R1,simprocAttr,-Int.reduceAbs];done) | (simp only [↓R0,R1,simprocAttr,-Int.reduceAbs];rfl) | (simp only [↓R0,R1,simprocAttr,-Int.reduceAbs,t0,t1,t6,t7,t8];done) | skip
  ·intro q q1 q2
   have nb:∀ d,(M+d=q)=False:=fun d=>eq_false (by omega)
   have nb3:(M+4+0=q)=False:=eq_false (by omega)
   simp only [↓R0,R1,simprocAttr,-Int.reduceAbs,nb,nb3]
  ·intro q hq
   have nb:∀ d,(M+d=q)=False:=fun d=>eq_false (by omega)
   have nb3:(M+4+0=q)=False:=eq_false (by omega)
   simp only [↓R0,R1,simprocAttr,-Int.reduceAbs,nb,nb3]
   exact hh q hq
  clear t0 t1 t6 t7 t8
  rintro d tm hp2 nx ⟨j,M2,ρ2,W,hd,t0,t1,t6,t7,t8,t9,t10,t13,H2,hW,⟨x9,b9⟩,⟨yG,bG⟩,hρ,hh2,hM2,hnx⟩
  rw [hnx]
  clear hnx nx
  obtain ⟨xO,bO⟩:=H2.hd
  have w0:∀ d,(M2+d=kO)=False:=fun d=>eq_false (by omega)
  have w2:∀ d,(kO=M2+d)=False:=fun d=>eq_false (by omega)
  have w3:∀ d,(M2+d=M+2)=False:=fun d=>eq_false (by omega)
  have w4:∀ d,(M+2=M2+d)=False:=fun d=>eq_false (by omega)
  have w5:∀ d,(M2+d=M+4)=False:=fun d=>eq_false (by omega)
  have w6:∀ d,(M+4=M2+d)=False:=fun d=>eq_false (by omega)
  have m20:M2+0+0=M2+0:=rfl
  have m21:M2+1+0=M2+1:=rfl
  have lenB:(blkC (pvF ρ2 n W) p).length=p * 5:=blkC_len fun i _=>PV_len _ _ _
  by_cases d1:j < p
  case neg=>
   have ej:j=p:=by omega
   subst ej
   have d1':((j:Int) < (j:Int))=False:=eq_false (by omega)
   have npp:(j+1 <= j)=False:=eq_false (by omega)
   have ovr:((j+1) * 72 <= 140737488355328)=True:=eq_true (by omega)
   simp only [↓R0,R1,simprocAttr,-Int.reduceAbs,t0,t1,t6,t7,t8,t9,t10,t13,d1',b9,bO,PV_len,PV_ok,PV_tk,PV_0,PV_z,lenB,npp,ovr,v0,v1,w0,w2,w3,w4,w5,w6,w1]
   refine ⟨c' - 1,by omega,i+1,M2+2,M2+1,updN ρ2 j (M+4),by omega,?_,?_,rfl,?_,?_,by omega,rfl⟩
   ·rw [stp]
    have:(s.1.map (fun o j=>o j - R j * (1 / R kk) * o kk) ++ [fun j=>R j * (1 / R kk)]).length=j+1:=by rw [List.length_append,List.length_map,<- hp0];rfl
    rw [this]
   ·rw [stp]
   ·have eln:(S (i+1)).1.length=j+1:=by rw [stp,List.length_append,List.length_map,<- hp0];rfl
    rw [eln]
    refine H2.push2 (hp:=hp2) (by omega) (by omega) (by omega) (by omega) (fun q hq=>(hρ q hq).1) (by omega) (x:=false) ?_ ⟨_,bG⟩ (fun q q1 q2 q3=>?_) (fun q hq i' hi'=>?_) (fun i' hi'=>?_) (f:=G)
    ·simp only [↓R0,R1,simprocAttr,-Int.reduceAbs]
    ·have nb:∀ d,(M2+d=q)=False:=fun d=>eq_false (by omega)
     have nk:(kO=q)=False:=eq_false (fun e=>q3 e.symm)
     simp only [↓R0,R1,simprocAttr,-Int.reduceAbs,nb,nk]
    ·rw [stp,rowAt_map (by omega),hW q hq i' hi',if_pos hq,hG]
    ·rw [stp,hp0,rowAt_last,hG]
   ·intro q hq
    have nb:∀ d,(M2+d=q)=False:=fun d=>eq_false (by omega)
    have nk:(kO=q)=False:=eq_false (by omega)
    simp only [↓R0,R1,simprocAttr,-Int.reduceAbs,nb,nk]
    exact hh2 q hq
  have d1':((j:Int) < (p:Int))=True:=eq_true (by omega)
  have wj:IntKind.i64.wrap ((j:Int)+1)=((j+1:Nat):Int):=by rw [i64_in _ (by omega)];omega
  have j5:(j * 5+5 <= p * 5)=True:=eq_true (by omega)
  obtain ⟨o,ho⟩:∃ o,o=W j:=⟨_,rfl⟩
  have oB:∀ i,i <= n -> RB (o i) (oB p):=fun i hi=>by
   rw [ho,hW j d1 i hi,if_neg (Nat.lt_irrefl j),hp0]
   exact hB j (by omega) i hi
  have atB:((blkC (pvF ρ2 n W) p).drop (j * 5)).take 5=PV (ρ2 j) n o:=by
   rw [blkC_at (f:=pvF ρ2 n W) (w:=5) (fun i _=>PV_len _ _ _) d1,ho];rfl
  have atB0:(blkC (pvF ρ2 n W) p)[j * 5+0]?=some (.slice (some ⟨ρ2 j,0,none⟩) n n):=by
   have:((blkC (pvF ρ2 n W) p).drop (j * 5))[0]?=some (.slice (some ⟨ρ2 j,0,none⟩) n n):=by
    rw [show ((blkC (pvF ρ2 n W) p).drop (j * 5))[0]?=(((blkC (pvF ρ2 n W) p).drop (j * 5)).take 5)[0]? by rw [List.getElem?_take,if_pos (by omega)],atB];rfl
   rw [List.getElem?_drop] at this
   exact this
  obtain ⟨yr,br⟩:=H2.row j d1
  rw [<- ho] at br
  have bdj:=H2.bd j d1
  have w7:∀ d,(M2+d=ρ2 j)=False:=fun d=>eq_false (by omega)
  have rlo:(rqs (fq o n)).length=n * 3:=by rw [rqs_len,fq_len]
  have rato:((rqs (fq o n)).drop (kk * 3)).take 3=(RQ.of (o kk)).cells:=rqs_at _ kk _ (fq_get kkl)
  have okB:=oB kk (by omega)
  have ti3:∀ {hp':Heap},hget hp' (M+4)=some ⟨38,3,yG,rqs (fq G n)⟩ -> spTimes [.agg ⟨PV (M+4) n G⟩,.agg ⟨(RQ.of (o kk)).cells⟩] hp'=some ⟨1,fun σ => .agg ⟨PV (σ 0) n fun q=>G q * o kk⟩,fun _=>38,fun _=>3,fun _ _=>rqs (fq (fun q=>G q * o kk) n)⟩:=fun hb=>by
   rw [times_can ⟨_,_,_,hb⟩ n0 (by omega) (fun q hq=>(GB q hq).le (by omega)) (okB.le (by omega)),eqN]
  have li3:∀ {hp':Heap},hget hp' (ρ2 j)=some ⟨38,3,yr,rqs (fq o n)⟩ -> hget hp' (M2+0)=some ⟨38,3,false,rqs (fq (fun q=>G q * o kk) n)⟩ -> spLess24 [.agg ⟨PV (ρ2 j) n o⟩,.agg ⟨PV (M2+0) n fun q=>G q * o kk⟩] hp'=some ⟨1,fun σ => .agg ⟨PV (σ 0) n fun q=>o q - G q * o kk⟩,fun _=>38,fun _=>3,fun _ _=>rqs (fq (fun q=>o q - G q * o kk) n)⟩:=fun hb hb'=>by
   rw [less_can ⟨_,_,_,hb⟩ ⟨_,_,_,hb'⟩ n0 (by omega) (fun q hq=>(oB q hq).le (by omega)) (fun q hq=>((GB q hq).mul okB (Nat.le_refl _)).le (by omega)),eqN]
  generalize hF1:(fun q=>G q * o kk)=F1 at *
  generalize hF2:(fun q=>o q - G q * o kk)=F2 at *
  simp only [↓R0,R1,simprocAttr,-Int.reduceAbs,rdS,t0,t1,t6,t7,t8,t9,t10,t13,d1,d1',b9,bG,bO,br,PV_len,PV_ok,PV_tk,PV_0,PV_z,PV_s,lenB,atB,atB0,j5,rlo,rato,kkl,kk',kk3,qln,qok,ti3,li3,nwT,nwS,newHL1,m20,m21,v0,v1,w0,w2,w3,w4,w5,w6,w7,wj]
  refine ⟨d - 1,by omega,j+1,M2+2,updN ρ2 j (M2+1),updW W j F2,by omega,rfl,H2.upd d1 (by omega) (by omega) (x:=xO) (y:=false) ?_ ?_ (fun q q1 q2 q3=>?_),fun q hq i' hi'=>?_,⟨_,rfl⟩,⟨_,rfl⟩,fun q hq=>?_,fun q hq=>?_,by omega,rfl⟩
  ·simp only [↓R0,R1,simprocAttr,-Int.reduceAbs]
  ·simp only [↓R0,R1,simprocAttr,-Int.reduceAbs,w0,w2]
  ·have nb:∀ d,(M2+d=q)=False:=fun d=>eq_false (by omega)
   have nk:(kO=q)=False:=eq_false (fun e=>q3 e.symm)
   simp only [↓R0,R1,simprocAttr,-Int.reduceAbs,nb,nk]
  ·by_cases e:q=j
   ·rw [e,updW_eq,if_pos (by omega),<- hF2]
    have:=hW j d1 i' hi'
    rw [if_neg (Nat.lt_irrefl j)] at this
    have:=hW j d1 kk (by omega)
    rw [if_neg (Nat.lt_irrefl j)] at this
    simp only [ho]
    grind
   ·rw [updW_ne e,hW q hq i' hi']
    by_cases c:q < j
    ·rw [if_pos c,if_pos (by omega)]
    ·rw [if_neg c,if_neg (by omega)]
  ·by_cases e:q=j
   ·rw [e,updN_eq];omega
   ·rw [updN_ne e];exact hρ q hq
  ·have nb:∀ d,(M2+d=q)=False:=fun d=>eq_false (by omega)
   have nk:(kO=q)=False:=eq_false (by omega)
   simp only [↓R0,R1,simprocAttr,-Int.reduceAbs,nb,nk]
   exact hh2 q hq
end Go.Eng
end
section
set_option maxRecDepth 20000
namespace Go.Eng
open Go Go.Proofs Go.IntWalk
def c72:ICode:=
 (.seq (.reg [qq 4 (.mv (ci 0))]) (.seq (.seq (.reg [qq 6 (.mv (.t 0)),qq 7 (.bin .lss (.t 6) (ci 0)),qq 8 (.mv (.t 7)),⟨(some 9),(some (8,false)),(.mv (.t 0))⟩,⟨(some 10),(some (8,false)),(.bin .gtr (.t 9) (ci 100))⟩,qq 11 (.pick (.t 8) (.c (.bool true)) (.t 10)),qq 12 (.mv (.t 11)),⟨(some 13),(some (12,false)),(.mv (.t 1))⟩,⟨(some 14),(some (12,false)),(.lensl (.t 13))⟩,⟨(some 15),(some (12,false)),(.bin .gtr (.t 14) (ci 100))⟩,qq 16 (.pick (.t 12) (.c (.bool true)) (.t 15))]) (.cond (.t 16) (.seq (.reg [qq 4 (.mv (ci 6))]) .ret) .skip)) (.seq (.seq (.reg [qq 5 (.mv (ci 0))]) (.block 0 (.loop (.seq (.seq (.reg [qq 17 (.mv (.t 5)),qq 18 (.mv (.t 1)),qq 19 (.lensl (.t 18)),qq 20 (.bin .lss (.t 17) (.t 19))]) (.cond (.t 20) .skip (.exit 0))) (.seq (.block 1 (.seq (.reg [qq 23 (.mv (.t 1)),qq 24 (.mv (.t 5)),qq 25 (.ixsl 5 (.t 23) (.t 24)),qq 26 (.faddr 0 (.t 25)),qq 27 (.load false 1 (.t 26)),qq 28 (.lensl (.t 27)),qq 29 (.mv (.t 0)),qq 30 (.bin .neq (.t 28) (.t 29))]) (.cond (.t 30) (.seq (.reg [qq 4 (.mv (ci 1))]) .ret) .skip))) (.reg [qq 21 (.mv (.t 5)),qq 22 (.bin .add (.t 21) (ci 1)),qq 5 (.mv (.t 22))])))))) (.seq (.reg [qq 4 (.mv (ci 0))]) .ret))))
theorem tr72:trFun Tryz.prog 72=some ⟨31,[.t 4],c72⟩:=by kernel_rfl
set_option maxHeartbeats 4000000 in
theorem ok_check24:SpecOK Tryz.prog 72 (rdS spLCheck):=by
 refine rd_run (env_nil _) mixed tr72 ?_ ?_
 ·intro args h h' v hle e
  unfold spLCheck at e ⊢
  split at e
  ·split at e
   ·rename_i l hb
    simp only [decRows_mono hle hb];exact e
   ·cases e
  ·cases e
 intro args v h N hG hN
 unfold spLCheck at hG
 split at hG
 case h_2=>cases hG
 rename_i n sl
 split at hG
 case h_2=>cases hG
 rename_i l hx
 cases hG
 obtain ⟨a,c,rfl⟩:=listAt_sl (dec:=decEq h) hx
 refine ⟨by rfl,by simp,?_⟩
 have dn:∀ a b:Int,decide (a ≠ b)=!decide (a=b):=fun a b=>by by_cases h:a=b <;> simp [h]
 by_cases c1:n < 0
 ·have e:chkL n l=6:=if_pos (.inl c1)
  rw [e]
  have c1':(n < 0)=True:=eq_true c1
  simp only [c72,G0,Nat.reduceAdd]
  simp only [↓R0,R1,simprocAttr,-Int.reduceAbs,c1',Fin,isEnd,resL,res1]
  exact ⟨_,rfl,rfl,fun k hk=>by simp only [ne_nb hk,if_false]⟩
 have c1':(n < 0)=False:=eq_false c1
 by_cases c2:n > 100
 ·have e:chkL n l=6:=if_pos (.inr (.inl c2))
  rw [e]
  have c2':(n > 100)=True:=eq_true c2
  simp only [c72,G0,Nat.reduceAdd]
  simp only [↓R0,R1,simprocAttr,-Int.reduceAbs,c1',c2',Fin,isEnd,resL,res1]
  exact ⟨_,rfl,rfl,fun k hk=>by simp only [ne_nb hk,if_false]⟩
 have c2':(n > 100)=False:=eq_false c2
 by_cases c3:l.length > 100
 ·have e:chkL n l=6:=if_pos (.inr (.inr c3))
  rw [e]
  have c3':((l.length:Int) > 100)=True:=eq_true (by omega)
  simp only [c72,G0,Nat.reduceAdd]
  simp only [↓R0,R1,simprocAttr,-Int.reduceAbs,c1',c2',c3',Fin,isEnd,resL,res1]
  exact ⟨_,rfl,rfl,fun k hk=>by simp only [ne_nb hk,if_false]⟩
 have c3':((l.length:Int) > 100)=False:=eq_false (by omega)
 simp only [c72,G0,Nat.reduceAdd]
 simp only [↓R0,R1,simprocAttr,-Int.reduceAbs,c1',c2',c3']
 refine lp_parts (fun q tm hp nx=>∃ i,q+i=l.length /\ tmget tm 0 = .int .i64 n /\ tmget tm 1 = .slice a l.length c /\ tmget tm 5 = .int .i64 (i:Nat) /\ (∀ j,j < i -> ((eqAt l j).coef.length:Int)=n) /\ hp=h /\ nx=N+0) ?_ l.length
  ⟨0,by omega,?_,?_,?_,fun j hj=>absurd hj (Nat.not_lt_zero j),rfl,rfl⟩
 rotate_left
 all_goals first | (simp only [↓R0,R1,simprocAttr,-Int.reduceAbs];done) | (simp only [↓R0,R1,simprocAttr,-Int.reduceAbs];rfl) | skip
 rintro q tm hp nx ⟨i,hni,t0,t1,t5,hz,rfl,hnx⟩
 rw [hnx]
 clear hnx nx
 by_cases c4:i < l.length
 case neg=>
  have e:i=l.length:=by omega
  subst e
  have c4':((l.length:Int) < (l.length:Int))=False:=eq_false (by omega)
  have ev:chkL n l=0:=by
   unfold chkL
   rw [if_neg (by omega),if_pos fun e he=>?_]
   obtain ⟨j,hj⟩:=List.getElem?_of_mem he
   have hlt:=(List.getElem?_eq_some_iff.1 hj).1
   rw [eqAt_some hlt] at hj
   rw [<- Option.some.inj hj]
   exact hz j hlt
  rw [ev]
  simp only [↓R0,R1,simprocAttr,-Int.reduceAbs,t0,t1,t5,c4',Fin,isEnd,resL,res1]
  exact ⟨_,rfl,rfl,fun _ _=>trivial⟩
 have c4':((i:Int) < (l.length:Int))=True:=eq_true (by omega)
 have w1:IntKind.i64.wrap ((i:Int)+1)=((i+1:Nat):Int):=by rw [i64_in _ (by omega)];omega
 obtain ⟨k,off,blk,a',n',c'',rfl,hb,q1,q2,hn',hl'⟩:=eq_at hx c4
 have hE5:(blk.cells.drop (off+i * 5))[0]?=some (.slice a' n' c''):=by
  rw [show (blk.cells.drop (off+i * 5))[0]?=((blk.cells.drop (off+i * 5)).take 5)[0]? by rw [List.getElem?_take,if_pos (by omega)],q2];rfl
 rw [List.getElem?_drop] at hE5
 by_cases z:(n':Int)=n
 ·have z':((n':Int)=n)=True:=eq_true z
  simp only [↓R0,R1,simprocAttr,-Int.reduceAbs,t0,t1,t5,c4,c4',hb,q1,q2,hE5,dn,z',w1,Bool.not_true,Bool.not_false]
  refine ⟨q - 1,by omega,i+1,by omega,rfl,fun j hj=>?_⟩
  by_cases e:j=i
  ·rw [e,<- hn'];exact z
  ·exact hz j (by omega)
 ·have z':((n':Int)=n)=False:=eq_false z
  have ev:chkL n l=1:=by
   unfold chkL
   rw [if_neg (by omega),if_neg fun H=>z ?_]
   have:=H _ (eqAt_mem c4)
   rw [hn'];exact this
  rw [ev]
  simp only [↓R0,R1,simprocAttr,-Int.reduceAbs,t0,t1,t5,c4,c4',hb,q1,q2,hE5,dn,z',w1,Bool.not_true,Bool.not_false,Fin,isEnd,resL,res1]
  exact ⟨_,rfl,rfl,fun _ _=>trivial⟩
def ldE (e:EqR):Nat:=leadN e.coef.length (qsV e.coef)
def clE (e:EqR) (k:Nat):Prop:=∀ j,j < e.coef.length -> j ≠ k -> qsV e.coef j=0
instance {e:EqR} {k:Nat}:Decidable (clE e k):=by unfold clE;infer_instance
def heldF (l:List EqR) (k:Nat):Nat -> Nat -> Option Nat
 | 0,_=>none
 | d+1,i=>if ldE (eqAt l i)=k then (if clE (eqAt l i) k then some i else none) else heldF l k d (i+1)
def cells5 (h:Heap) (sl:Value) (i:Nat):List Value:=match lay 5 h sl with | some cs=>(cs.drop (i * 5)).take 5 | none=>[]
def HdOK (l:List EqR):Prop:=l.length <= 1000 /\ ∀ e ∈ l,e.coef.length <= 1000 /\ eqOk e 8589934592
instance {l:List EqR}:Decidable (HdOK l):=by unfold HdOK;infer_instance
theorem heldF_succ (l:List EqR) (k d i:Nat):heldF l k (d+1) i=if ldE (eqAt l i)=k then (if clE (eqAt l i) k then some i else none) else heldF l k d (i+1):=rfl
open Classical in
noncomputable def spHeld:List Value -> Heap -> Option NewL
 | [sl,.int .i64 k],h=>match decRows h sl with
  | some l=>if HdOK l /\ 0 <= k then (match heldF l k.toNat l.length 0 with
   | some i=>if okAddr h (cells5 h sl i) then some ⟨0,fun _ => .tuple ⟨[.agg ⟨cells5 h sl i⟩,.bool true]⟩,fun _=>0,fun _=>0,fun _ _=>[]⟩ else none
   | none=>some ⟨0,fun _ => .tuple ⟨[.agg ⟨[.slice none 0 0,.bool false,.string ⟨⟨[]⟩⟩,.string ⟨⟨[]⟩⟩,.int .i64 0]⟩,.bool false]⟩,fun _=>0,fun _=>0,fun _ _=>[]⟩) else none
  | none=>none
 | _,_=>none
theorem cells5_mono {h h':Heap} (hl:hle h h') {sl:Value} {l:List EqR} (hx:decRows h sl=some l) (i:Nat):cells5 h' sl i=cells5 h sl i:=by
 unfold decRows listAt at hx
 rw [Option.bind_eq_some_iff] at hx
 obtain ⟨cs,e1,_⟩:=hx
 unfold cells5
 rw [lay_mono hl e1,e1]
theorem cells5_at {h:Heap} {a:Option Addr} {c:Nat} {l:List EqR} {i:Nat} (hx:decRows h (.slice a l.length c)=some l) (hi:i < l.length) :
  ∃ k off blk,a=some ⟨k,off,none⟩ /\ hget h k=some blk /\ off+i * 5+5 <= blk.cells.length /\ (blk.cells.drop (off+i * 5)).take 5=cells5 h (.slice a l.length c) i:=by
 unfold decRows listAt at hx
 rw [Option.bind_eq_some_iff] at hx
 obtain ⟨cs,e1,_⟩:=hx
 obtain ⟨k,off,blk,rfl,hb,_,hle,rfl⟩:=lay_pos e1 (by omega)
 refine ⟨k,off,blk,rfl,hb,by omega,?_⟩
 unfold cells5
 rw [e1]
 simp only
 rw [List.drop_take,List.take_take,List.drop_drop,Nat.min_eq_left (by omega)]
def c74:ICode:=
 (.seq (.reg [qq 4 (.alloc 40 5 [(.slice none 0 0),(.bool false),e0,e0,(.int .i64 0)]),qq 5 (.mv (.c (.bool false)))]) (.seq (.seq (.reg [qq 6 (.mv (ci 0))]) (.block 0 (.loop (.seq (.seq (.reg [qq 8 (.mv (.t 6)),qq 9 (.mv (.t 0)),qq 10 (.lensl (.t 9)),qq 11 (.bin .lss (.t 8) (.t 10))]) (.cond (.t 11) .skip (.exit 0))) (.seq (.block 1 (.seq (.seq (.reg [qq 14 (.mv (.t 0)),qq 15 (.mv (.t 6)),qq 16 (.ixsl 5 (.t 14) (.t 15)),qq 17 (.faddr 0 (.t 16)),qq 18 (.load false 1 (.t 17)),qq 19 (.call 95 [(.t 18)]),qq 20 (.mv (.t 1)),qq 21 (.bin .neq (.t 19) (.t 20))]) (.cond (.t 21) (.exit 1) .skip)) (.seq (.seq (.reg [qq 7 (.mv (ci 0))]) (.block 2 (.loop (.seq (.seq (.reg [qq 22 (.mv (.t 7)),qq 23 (.mv (.t 0)),qq 24 (.mv (.t 6)),qq 25 (.ixsl 5 (.t 23) (.t 24)),qq 26 (.faddr 0 (.t 25)),qq 27 (.load false 1 (.t 26)),qq 28 (.lensl (.t 27)),qq 29 (.bin .lss (.t 22) (.t 28))]) (.cond (.t 29) .skip (.exit 2))) (.seq (.block 3 (.seq (.reg [qq 32 (.mv (.t 7)),qq 33 (.mv (.t 1)),qq 34 (.bin .neq (.t 32) (.t 33)),qq 35 (.mv (.t 34)),⟨(some 36),(some (35,true)),(.mv (.t 0))⟩,⟨(some 37),(some (35,true)),(.mv (.t 6))⟩,⟨(some 38),(some (35,true)),(.ixsl 5 (.t 36) (.t 37))⟩,⟨(some 39),(some (35,true)),(.faddr 0 (.t 38))⟩,⟨(some 40),(some (35,true)),(.load false 1 (.t 39))⟩,⟨(some 41),(some (35,true)),(.mv (.t 7))⟩,⟨(some 42),(some (35,true)),(.ixsl 3 (.t 40) (.t 41))⟩,⟨(some 43),(some (35,true)),(.load true 3 (.t 42))⟩,⟨(some 44),(some (35,true)),(.call 96 [(.t 43)])⟩,⟨(some 45),(some (35,true)),(.bin .neq (.t 44) (ci 0))⟩,qq 46 (.pick (.t 35) (.t 45) (.c (.bool false)))]) (.cond (.t 46) (.seq (.reg [qq 47 (.build [(.slice none 0 0),(.bool false),e0,e0,(.int .i64 0)] []),qn (.store 5 (.t 4) (.t 47)),qq 5 (.mv (.c (.bool false)))]) .ret) .skip))) (.reg [qq 30 (.mv (.t 7)),qq 31 (.bin .add (.t 30) (ci 1)),qq 7 (.mv (.t 31))])))))) (.seq (.reg [qq 48 (.mv (.t 0)),qq 49 (.mv (.t 6)),qq 50 (.ixsl 5 (.t 48) (.t 49)),qq 51 (.load true 5 (.t 50)),qn (.store 5 (.t 4) (.t 51)),qq 5 (.mv (.c (.bool true)))]) .ret)))) (.reg [qq 12 (.mv (.t 6)),qq 13 (.bin .add (.t 12) (ci 1)),qq 6 (.mv (.t 13))])))))) (.seq (.reg [qq 52 (.build [(.slice none 0 0),(.bool false),e0,e0,(.int .i64 0)] []),qn (.store 5 (.t 4) (.t 52)),qq 5 (.mv (.c (.bool false)))]) .ret)))
theorem tr74:trFun Tryz.prog 74=some ⟨53,[.cell 4 true 5,.t 5],c74⟩:=by kernel_rfl
set_option maxHeartbeats 16000000 in
theorem ok_held24:SpecOK Tryz.prog 74 (nwL spHeld):=by
 refine newL_run (env_cons ok_lead24 (env_cons ok_r3Sign (env_nil _))) mixed tr74 ?_ ?_
 ·intro args h h' r hle e
  unfold spHeld at e ⊢
  split at e
  ·split at e
   ·rename_i l hb
    simp only [decRows_mono hle hb]
    split at e
    ·rename_i z
     rw [if_pos z]
     split at e
     ·rename_i i hi
      rw [cells5_mono hle hb]
      split at e
      ·rename_i w;rw [if_pos (okAddr_mono hle w)];exact e
      ·cases e
     ·exact e
    ·cases e
   ·cases e
  ·cases e
 intro args h N r hG hN
 unfold spHeld at hG
 split at hG
 case h_2=>cases hG
 rename_i sl kz
 split at hG
 case h_2=>cases hG
 rename_i l hx
 split at hG
 case isFalse=>cases hG
 rename_i hs
 obtain ⟨ho,k0⟩:=hs
 obtain ⟨k,rfl⟩:=Int.eq_ofNat_of_zero_le k0
 rw [Int.toNat_natCast] at hG
 obtain ⟨a,c,rfl⟩:=listAt_sl (dec:=decEq h) hx
 have hpar:r.Par h:=by
  split at hG
  ·rename_i i hi
   split at hG
   case isFalse=>cases hG
   rename_i oa
   cases hG
   have hil:i < l.length:=by
    have key:∀ d i0 i,heldF l k d i0=some i -> i < i0+d:=by
     intro d
     induction d with
     | zero=>intro i0 i h;cases h
     | succ d ih=>
      intro i0 i h
      unfold heldF at h
      split at h
      ·split at h
       ·cases h;omega
       ·cases h
      ·have:=ih _ _ h;omega
    have:=key _ _ _ hi;omega
   obtain ⟨k1,off,blk,e1,hb,q1,q2⟩:=cells5_at hx hil
   obtain ⟨k2,off2,blk2,a',n',c'',e2,hb2,p1,p2,_,_⟩:=eq_at hx hil
   rw [e1] at e2
   cases e2
   rw [hb] at hb2
   cases hb2
   rw [p2] at q2
   exact ⟨fun β σ σ' _ b2 => .tup _ _ (.cons _ _ _ _ (okAddr_vr q2.symm rfl oa b2) (.cons _ _ _ _ (.base _ rfl) .nil)),fun β σ σ' _ _ i hi=>absurd hi (Nat.not_lt_zero i)⟩
  ·cases hG
   exact ⟨fun β σ σ' _ _ => .tup _ _ (.cons _ _ _ _ (.agg _ _ (VRs.of_base rfl)) (.cons _ _ _ _ (.base _ rfl) .nil)),fun β σ σ' _ _ i hi=>absurd hi (Nat.not_lt_zero i)⟩
 refine ⟨hpar,by simp,?_⟩
 clear hpar
 have dn:∀ a b:Int,decide (a ≠ b)=!decide (a=b):=fun a b=>by by_cases h:a=b <;> simp [h]
 have gN:(N+0=N)=True:=eq_true rfl
 have l1000:=ho.1
 have nN:∀ q,q < N -> (N=q)=False:=fun q hq=>eq_false (by omega)
 have nb0:∀ q,q < N -> ∀ d,(N+d=q)=False:=fun q hq d=>eq_false (by omega)
 have xz:∀ b,ExtL N h ((N+0,b) :: h):=fun b q hq=>by
  simp only [hget,nb0 q hq 0,if_false]
 simp only [c74,G0,Nat.reduceAdd]
 simp only [↓R0,R1,simprocAttr,-Int.reduceAbs]
 refine lp_parts (fun q tm hp nx=>∃ i,q+i=l.length /\ tmget tm 0 = .slice a l.length c /\ tmget tm 1 = .int .i64 k /\ tmget tm 4 = .pointer (some ⟨N+0,0,none⟩) /\ tmget tm 6 = .int .i64 (i:Nat) /\ heldF l k l.length 0=heldF l k (l.length - i) i /\
   hp=(N+0,some ⟨40,5,true,[.slice none 0 0,.bool false,.string ⟨⟨[]⟩⟩,.string ⟨⟨[]⟩⟩,.int .i64 0]⟩) :: h /\ nx=N+1) ?_ l.length
  ⟨0,by omega,?_,?_,?_,?_,rfl,rfl,rfl⟩
 rotate_left
 all_goals first | (simp only [↓R0,R1,simprocAttr,-Int.reduceAbs];done) | (simp only [↓R0,R1,simprocAttr,-Int.reduceAbs];rfl) | skip
 rintro q tm hp nx ⟨i,hni,t0,t1,t4,t6,hz,rfl,hnx⟩
 rw [hnx]
 clear hnx nx
 by_cases c1:i < l.length
 case neg=>
  have e:i=l.length:=by omega
  subst e
  have c1':((l.length:Int) < (l.length:Int))=False:=eq_false (by omega)
  rw [hz,Nat.sub_self] at hG
  have hG:some _=some r:=hG
  cases hG
  simp only [↓R0,R1,simprocAttr,-Int.reduceAbs,t0,t1,t4,t6,c1',FinL,isEnd,resL,res1]
  refine ⟨fun i=>i,_,fun i hi=>absurd hi (Nat.not_lt_zero i),fun i j hi=>absurd hi (Nat.not_lt_zero i),rfl,rfl,fun i hi=>absurd hi (Nat.not_lt_zero i),fun q hq=>?_⟩
  have nb:=nb0 q hq
  have nN:=nN q hq
  simp only [↓R0,R1,simprocAttr,-Int.reduceAbs,nb,nN]
 have c1':((i:Int) < (l.length:Int))=True:=eq_true (by omega)
 have w1:IntKind.i64.wrap ((i:Int)+1)=((i+1:Nat):Int):=by rw [i64_in _ (by omega)];omega
 rw [show l.length - i=(l.length - (i+1))+1 by omega,heldF_succ] at hz
 obtain ⟨k1,off,blk,a',n',c'',rfl,hb,q1,q2,hn',hl'⟩:=eq_at hx c1
 have hk:=hN _ _ hb
 have nk:=nN _ hk
 have nk0:=nb0 _ hk
 have hem:=eqAt_mem c1
 have hoe:=ho.2 _ hem
 have hE5:(blk.cells.drop (off+i * 5))[0]?=some (.slice a' n' c''):=by
  rw [show (blk.cells.drop (off+i * 5))[0]?=((blk.cells.drop (off+i * 5)).take 5)[0]? by rw [List.getElem?_take,if_pos (by omega)],q2];rfl
 rw [List.getElem?_drop] at hE5
 have le:∀ b,spLead [.slice a' n' c''] ((N+0,b) :: h)=some (.int .i64 (ldE (eqAt l i))):=fun b=>by
  rw [lead_of (ext_rats hN hl' (xz b)) (by omega) hoe.2.1];rfl
 by_cases c2:ldE (eqAt l i)=k
 case neg=>
  have c2':((ldE (eqAt l i):Int)=(k:Int))=False:=eq_false (by omega)
  have c2'':(ldE (eqAt l i)=k)=False:=eq_false c2
  rw [if_neg c2] at hz
  simp only [↓R0,R1,simprocAttr,-Int.reduceAbs,rdS,t0,t1,t4,t6,c1,c1',hb,nk,nk0,q1,q2,hE5,le,dn,c2',c2'',w1,Bool.not_true,Bool.not_false]
  exact ⟨q - 1,by omega,i+1,by omega,rfl,hz⟩
 have c2':((ldE (eqAt l i):Int)=(k:Int))=True:=eq_true (by omega)
 have c2'':(ldE (eqAt l i)=k)=True:=eq_true c2
 rw [if_pos c2] at hz
 obtain ⟨k3,off3,blk3,e3,hb3,p1,p2⟩:=cells5_at hx c1
 cases e3
 rw [hb] at hb3
 cases hb3
 obtain ⟨C5,hC5⟩:∃ x,x=cells5 h (.slice (some ⟨k1,off,none⟩) l.length c) i:=⟨_,rfl⟩
 rw [<- hC5] at p2
 have eC5:C5 = .slice a' n' c'' :: (eqAt l i).tl:=by rw [<- p2,q2]
 have c5l:C5.length=5:=by rw [eC5];rfl
 have c5o:C5.all okCell=true:=by rw [eC5];rfl
 have c5t:C5.take 5=C5:=List.take_of_length_le (by omega)
 have c5s:setR [.slice none 0 0,.bool false,.string ⟨⟨[]⟩⟩,.string ⟨⟨[]⟩⟩,.int .i64 0] 0 C5=C5:=by
  match C5,c5l with
  | [_,_,_,_,_],_=>rfl
 clear eC5
 simp only [↓R0,R1,simprocAttr,-Int.reduceAbs,rdS,t0,t1,t4,t6,c1,c1',hb,nk,nk0,q1,q2,hE5,le,dn,c2',c2'',w1,Bool.not_true,Bool.not_false]
 refine lp_parts (fun d tm hp nx=>∃ j,d+j=n' /\ tmget tm 0 = .slice (some ⟨k1,off,none⟩) l.length c /\ tmget tm 1 = .int .i64 k /\ tmget tm 4 = .pointer (some ⟨N+0,0,none⟩) /\ tmget tm 6 = .int .i64 (i:Nat) /\ tmget tm 7 = .int .i64 (j:Nat) /\ (∀ j',j' < j -> j' ≠ k -> qsV (eqAt l i).coef j'=0) /\
   hp=(N+0,some ⟨40,5,true,[.slice none 0 0,.bool false,.string ⟨⟨[]⟩⟩,.string ⟨⟨[]⟩⟩,.int .i64 0]⟩) :: h /\ nx=N+1) ?_ n'
  ⟨0,by omega,?_,?_,?_,?_,?_,fun j hj=>absurd hj (Nat.not_lt_zero j),rfl,rfl⟩
 rotate_left
 all_goals first | (simp only [↓R0,R1,simprocAttr,-Int.reduceAbs,t0,t1,t4,t6];done) | (simp only [↓R0,R1,simprocAttr,-Int.reduceAbs,t0,t1,t4,t6];rfl) | skip
 clear t0 t1 t4 t6
 rintro d tm hp nx ⟨j,hd,t0,t1,t4,t6,t7,hj,rfl,hnx⟩
 rw [hnx]
 clear hnx nx
 by_cases d1:j < n'
 case neg=>
  have e:j=n':=by omega
  subst e
  have d1':((j:Int) < (j:Int))=False:=eq_false (by omega)
  have cl:clE (eqAt l i) k:=fun j' h1 h2=>hj j' (by omega) h2
  rw [if_pos cl] at hz
  rw [hz] at hG
  simp only [<- hC5] at hG
  split at hG
  case isFalse=>cases hG
  cases hG
  simp only [↓R0,R1,simprocAttr,-Int.reduceAbs,t0,t1,t4,t6,t7,d1',c1,c1',hb,nk,nk0,q1,p2,hE5,c5l,c5o,c5t,c5s,FinL,isEnd,resL,res1]
  refine ⟨fun i=>i,_,fun i hi=>absurd hi (Nat.not_lt_zero i),fun i j hi=>absurd hi (Nat.not_lt_zero i),rfl,rfl,fun i hi=>absurd hi (Nat.not_lt_zero i),fun q hq=>?_⟩
  have nb:=nb0 q hq
  have nN:=nN q hq
  simp only [↓R0,R1,simprocAttr,-Int.reduceAbs,nb,nN]
 have d1':((j:Int) < (n':Int))=True:=eq_true (by omega)
 have wj:IntKind.i64.wrap ((j:Int)+1)=((j+1:Nat):Int):=by rw [i64_in _ (by omega)];omega
 by_cases d2:j=k
 ·have d2':((j:Int)=(k:Int))=True:=eq_true (by omega)
  have d2'':(j=k)=True:=eq_true d2
  simp only [↓R0,R1,simprocAttr,-Int.reduceAbs,t0,t1,t4,t6,t7,d1,d1',c1,c1',hb,nk,nk0,q1,hE5,dn,d2',d2'',wj,Bool.not_true,Bool.not_false]
  refine ⟨d - 1,by omega,j+1,by omega,rfl,fun j' h1 h2=>?_⟩
  exact hj j' (by omega) h2
 have d2':((j:Int)=(k:Int))=False:=eq_false (by omega)
 have d2'':(j=k)=False:=eq_false d2
 obtain ⟨k4,f1,B1,rfl,h1,r1,r2⟩:=rq_at hl' d1
 have hk4:=hN _ _ h1
 have nk4:=nN _ hk4
 have nk40:=nb0 _ hk4
 have g1:(rqAt (eqAt l i).coef j).cells.length=3:=rfl
 have g2:(rqAt (eqAt l i).coef j).cells.all okCell=true:=rfl
 have g3:=sgn3 (hoe.2.1 _ (rqAt_mem (i:=j) (show j < (eqAt l i).coef.length by omega)))
 have g4:=sg_v (rqAt (eqAt l i).coef j)
 have ev:(rqAt (eqAt l i).coef j).v=qsV (eqAt l i).coef j:=rfl
 rw [ev] at g4
 have d1n:(j < n')=True:=eq_true (by omega)
 generalize (rqAt (eqAt l i).coef j).cells=CA at *
 by_cases z:qsV (eqAt l i).coef j=0
 ·have z':=g4.trans (eq_true z)
  simp only [↓R0,R1,simprocAttr,-Int.reduceAbs,t0,t1,t4,t6,t7,d1n,d1',c1,c1',hb,nk,nk0,q1,hE5,dn,d2',d2'',h1,nk4,nk40,r1,r2,g1,g2,g3,z',wj,Bool.not_true,Bool.not_false]
  refine ⟨d - 1,by omega,j+1,by omega,rfl,fun j' h1 h2=>?_⟩
  by_cases e:j'=j
  ·rw [e];exact z
  ·exact hj j' (by omega) h2
 ·have z':=g4.trans (eq_false z)
  have cl:¬ clE (eqAt l i) k:=fun H=>z (H j (by omega) d2)
  rw [if_neg cl] at hz
  rw [hz] at hG
  cases hG
  have zst:∀ x:List Value,x=[.slice none 0 0,.bool false,.string ⟨⟨[]⟩⟩,.string ⟨⟨[]⟩⟩,.int .i64 0] -> setR x 0 [.slice none 0 0,.bool false,.string ⟨⟨[]⟩⟩,.string ⟨⟨[]⟩⟩,.int .i64 0]=x:=fun x e=>by rw [e];rfl
  simp only [↓R0,R1,simprocAttr,-Int.reduceAbs,t0,t1,t4,t6,t7,d1n,d1',c1,c1',hb,nk,nk0,q1,hE5,dn,d2',d2'',h1,nk4,nk40,r1,r2,g1,g2,g3,z',wj,Bool.not_true,Bool.not_false,FinL,isEnd,resL,res1]
  refine ⟨fun i=>i,_,fun i hi=>absurd hi (Nat.not_lt_zero i),fun i j hi=>absurd hi (Nat.not_lt_zero i),rfl,rfl,fun i hi=>absurd hi (Nat.not_lt_zero i),fun q hq=>?_⟩
  have nb:=nb0 q hq
  have nN:=nN q hq
  simp only [↓R0,R1,simprocAttr,-Int.reduceAbs,nb,nN]
end Go.Eng
end
section
set_option maxRecDepth 20000
namespace Go.Eng
open Go Go.Proofs Go.IntWalk
theorem reduced_call {h:Heap} {n b:Nat} {l:List EqR} {sl:Value} (hx:decRows h sl=some l) (hs:RedOK n l) :
  ∃ D mm,nwL spReduced [.int .i64 n,sl] h b=some (.tuple ⟨[.slice (some ⟨b,0,none⟩) (refRed n (outR n l)).1.length (refRed n (outR n l)).1.length,.bool (refRed n (outR n l)).2]⟩,D,mm) /\ (∀ q,q < b -> hget (D ++ h) q=hget h q) /\
   EqH (D ++ h) b (b+mm) b n (refRed n (outR n l)).1.length (fun j=>b+(j+1)) (rowAt (refRed n (outR n l)).1):=by
 obtain ⟨NL,eN⟩:∃ x,x=redNL n (refRed n (outR n l)):=⟨_,rfl⟩
 have e0:spReduced [.int .i64 n,sl] h=some NL:=by
  unfold spReduced
  simp only [hx,Int.toNat_natCast]
  rw [if_pos ⟨by omega,hs⟩,eN]
 have e:nwL spReduced [.int .i64 n,sl] h b=some (NL.val (b+·),newH NL (b+·) NL.m,NL.m):=by
  unfold nwL
  rw [e0];rfl
 have get:=newH_get (r:=NL) (σ:=(b+·)) (h:=h) NL.m (fun i j _ _ e=>by change b+i=b+j at e;omega)
 have old:∀ q,q < b -> hget (newH NL (b+·) NL.m ++ h) q=hget h q:=fun q hq=>newH_old NL.m (fun i _=>by show b+i ≠ q;omega)
 generalize refRed n (outR n l)=s at *
 have em:NL.m=1+s.1.length:=by rw [eN];rfl
 refine ⟨_,_,by rw [e];refine congrArg some ?_;rw [eN];rfl,by rw [eN] at old;exact old,?_⟩
 rw [eN] at get
 change ∀ i,i < 1+s.1.length -> _ at get
 constructor
 ·have:=get 0 (by omega)
  change hget _ b=_ at this
  refine ⟨false,?_⟩
  rw [this];rfl
 ·intro j hj
  have:=get (j+1) (by omega)
  change hget _ (b+(j+1))=_ at this
  refine ⟨false,?_⟩
  rw [this]
  show some (⟨if j+1=0 then 40 else 38,if j+1=0 then 5 else 3,false,if j+1=0 then blkC (pvF (fun j=>b+(j+1)) n (rowAt s.1)) s.1.length else rqs (fq (rowAt s.1 (j+1 - 1)) n)⟩:Blk)=_
  rw [if_neg (by omega),if_neg (by omega),if_neg (by omega)];rfl
 ·intro i j _ _ e;omega
 ·intro j _;omega
 ·intro j hj
  show b <= b+(j+1) /\ b+(j+1) < b+(1+s.1.length)
  omega
 ·show b <= b /\ b < b+(1+s.1.length)
  omega
theorem heldF_R {n k:Nat} {rows:List Row}:∀ {d i:Nat},i+d=rows.length ->
  (∃ t,heldF (canL n rows.length (rowAt rows)) k d i=some t /\ t < rows.length /\ heldR n k (rows.drop i)=some (rowAt rows t)) \/ (heldF (canL n rows.length (rowAt rows)) k d i=none /\ heldR n k (rows.drop i)=none)
 | 0,i,h => .inr ⟨rfl,by rw [List.drop_of_length_le (by omega)];rfl⟩
 | d+1,i,h=>by
  have hi:i < rows.length:=by omega
  have e1:rows.drop i=rowAt rows i :: rows.drop (i+1):=by
   rw [List.drop_eq_getElem_cons hi]
   have:=rowAt_some hi
   rw [List.getElem?_eq_getElem hi] at this
   rw [Option.some.inj this]
  have ld:ldE (canE n (rowAt rows i))=leadN n (rowAt rows i):=by
   unfold ldE
   have:(canE n (rowAt rows i)).coef.length=n:=fq_len _ _
   rw [this]
   exact lead_congr fun j hj=>fq_v hj
  have cl:clE (canE n (rowAt rows i)) k ↔ ∀ j,j < n -> j ≠ k -> rowAt rows i j=0:=by
   unfold clE
   have:(canE n (rowAt rows i)).coef.length=n:=fq_len _ _
   rw [this]
   constructor
   ·intro H j h1 h2;rw [<- fq_v (f:=rowAt rows i) h1];exact H j h1 h2
   ·intro H j h1 h2
    have:=fq_v (f:=rowAt rows i) h1
    show qsV (fq (rowAt rows i) n) j=0
    rw [this];exact H j h1 h2
  rw [heldF_succ,canL_at hi,ld,e1]
  unfold heldR
  by_cases c:leadN n (rowAt rows i)=k
  ·rw [if_pos c,if_pos c]
   by_cases c2:∀ j,j < n -> j ≠ k -> rowAt rows i j=0
   ·rw [if_pos (cl.2 c2),if_pos c2]
    exact .inl ⟨i,rfl,hi,rfl⟩
   ·rw [if_neg (fun x=>c2 (cl.1 x)),if_neg c2]
    exact .inr ⟨rfl,rfl⟩
  ·rw [if_neg c,if_neg c]
   exact heldF_R (by omega)
theorem cells5_EqH {hp:Heap} {lo hi kO n p i:Nat} {ρ:Nat -> Nat} {Rw:Nat -> Row} (H:EqH hp lo hi kO n p ρ Rw) (hi1:i < p):cells5 hp (.slice (some ⟨kO,0,none⟩) p p) i=PV (ρ i) n (Rw i):=by
 obtain ⟨x,hb⟩:=H.hd
 have len:(blkC (pvF ρ n Rw) p).length=p * 5:=blkC_len fun i _=>PV_len _ _ _
 have la:lay 5 hp (.slice (some ⟨kO,0,none⟩) p p)=some (blkC (pvF ρ n Rw) p):=by
  obtain ⟨d,hd⟩:∃ d,p=d+1:=⟨p - 1,by omega⟩
  unfold lay
  rw [hd] at hb len ⊢
  simp only [hb]
  rw [if_pos ⟨by omega,by omega⟩,List.drop_zero,List.take_of_length_le (by omega)]
 unfold cells5
 rw [la]
 simp only
 rw [blkC_at (f:=pvF ρ n Rw) (w:=5) (fun i _=>PV_len _ _ _) hi1];rfl
theorem held_of {hp:Heap} {lo hi kO n k:Nat} {ρ:Nat -> Nat} {rows:List Row} (H:EqH hp lo hi kO n rows.length ρ (rowAt rows)) (n0:0 < n) (n8:n <= 100) (p8:rows.length <= 1000) (hB:∀ q,q < rows.length -> ∀ j,j <= n -> RB (rowAt rows q j) 8589934592) :
  (∃ i,i < rows.length /\ heldR n k rows=some (rowAt rows i) /\ spHeld [.slice (some ⟨kO,0,none⟩) rows.length rows.length,.int .i64 k] hp=some ⟨0,fun _ => .tuple ⟨[.agg ⟨PV (ρ i) n (rowAt rows i)⟩,.bool true]⟩,fun _=>0,fun _=>0,fun _ _=>[]⟩) \/
  (heldR n k rows=none /\ spHeld [.slice (some ⟨kO,0,none⟩) rows.length rows.length,.int .i64 k] hp=some ⟨0,fun _ => .tuple ⟨[.agg ⟨[.slice none 0 0,.bool false,.string ⟨⟨[]⟩⟩,.string ⟨⟨[]⟩⟩,.int .i64 0]⟩,.bool false]⟩,fun _=>0,fun _=>0,fun _ _=>[]⟩):=by
 have hx:=H.rows (fun _=>n0)
 have ok:HdOK (canL n rows.length (rowAt rows)):=by
  refine ⟨by rw [canL_len];exact p8,fun e he=>?_⟩
  unfold canL at he
  obtain ⟨q,hq,rfl⟩:=List.mem_map.1 he
  exact ⟨by show (fq _ _).length <= _;rw [fq_len];omega,canE_ok (hB q (List.mem_range.1 hq))⟩
 unfold spHeld
 simp only [hx,Int.toNat_natCast]
 rw [if_pos ⟨ok,by omega⟩,canL_len]
 rcases heldF_R (n:=n) (k:=k) (rows:=rows) (d:=rows.length) (i:=0) (by omega) with ⟨t,h1,h2,h3⟩ | ⟨h1,h2⟩
 ·rw [List.drop_zero] at h3
  refine .inl ⟨t,h2,h3,?_⟩
  rw [h1]
  simp only
  rw [cells5_EqH H h2]
  obtain ⟨y,hr⟩:=H.row t h2
  exact if_pos (by show hget _ _ ≠ none;rw [hr];simp)
 ·rw [List.drop_zero] at h2
  refine .inr ⟨h2,?_⟩
  rw [h1]
theorem valsR_up {n:Nat} {l:List Row} {k:Nat} (h:heldR n k l=none):∀ d,valsR n l (k+1+d)=none
 | 0=>by
  show (match valsR n l k,heldR n k l with | some v,some o=>some (v ++ [o n]) | _,_=>none)=none
  rw [h];cases valsR n l k <;> rfl
 | d+1=>by
  show (match valsR n l (k+1+d),heldR n (k+1+d) l with | some v,some o=>some (v ++ [o n]) | _,_=>none)=none
  rw [valsR_up h d]
theorem valsR_succ {n:Nat} {l:List Row} {k:Nat} {v:List Rat} {o:Row} (h:valsR n l k=some v) (h2:heldR n k l=some o):valsR n l (k+1)=some (v ++ [o n]):=by
 show (match valsR n l k,heldR n k l with | some v,some o=>some (v ++ [o n]) | _,_=>none)=_
 rw [h,h2]
def SysR (n:Int) (l:List EqR):Prop:=chkL n l=0 -> RedOK n.toNat l
instance {n:Int} {l:List EqR}:Decidable (SysR n l):=by unfold SysR;infer_instance
def refS (n:Nat) (l:List EqR):List Row × Bool:=refRed n (outR n l)
def solveRL (n:Int) (l:List EqR):Int × List Rat:=if chkL n l=0 then solveR 14 17 n.toNat (refS n.toNat l) else (chkL n l,[])
def freeRL (n:Int) (l:List EqR):List Nat:=if chkL n l=0 then freeR n.toNat (refS n.toNat l) else []
def rankRL (n:Int) (l:List EqR):Nat:=if chkL n l=0 then (refS n.toNat l).1.length else 0
def solNR (r:Int × List Rat):NewL:=⟨1,fun σ => .tuple ⟨[.slice (some ⟨σ 0,0,none⟩) r.2.length r.2.length,.int .i64 r.1]⟩,fun _=>38,fun _=>3,fun _ _=>ratC r.2⟩
theorem solNR_par (r:Int × List Rat) (h:Heap):(solNR r).Par h:=
 ⟨fun β σ σ' b1 _ => .tup _ _ (.cons _ _ _ _ (VR.sl (σ 0) 0 _ _ ⟨σ' 0,0,[]⟩ (b1 0 Nat.one_pos)) (.cons _ _ _ _ (.base _ rfl) .nil)),fun β σ σ' _ _ i hi=>VRs.of_base (ratC_base _)⟩
def spSolveR:List Value -> Heap -> Option NewL
 | [.int .i64 n,sl],h=>match decRows h sl with
  | some l=>if SysR n l then some (solNR (solveRL n l)) else none
  | none=>none
 | _,_=>none
theorem red_RdB {n:Nat} {l:List EqR} (hs:RedOK n l):RdB n (refS n l).1:=by
 obtain ⟨n8,m100,hlen,hok⟩:=hs
 have key:∀ t,t <= l.length -> RdB n (refRed n ((outR n l).take t)).1:=by
  intro t
  induction t with
  | zero=>intro _;rw [List.take_zero];exact fun p hp=>absurd hp (Nat.not_lt_zero p)
  | succ t ih=>
   intro ht
   rw [red_take (by rw [outR_len];omega)]
   refine step_RB (red_piv n _) (ih (by omega)) fun j hj=>?_
   rw [outR_at (by omega)]
   have he:=hok _ (eqAt_mem (l:=l) (i:=t) (by omega))
   have hl:=hlen _ (eqAt_mem (l:=l) (i:=t) (by omega))
   by_cases c:j < n
   ·rw [rowE_lt c]
    exact (RQ.ok.rb (k:=4) (he.1 _ (rqAt_mem (by omega)))).le (by omega)
   ·have:j=n:=by omega
    rw [this,rowE_n]
    exact (RQ.ok.rb (k:=4) he.2).le (by omega)
 have:=key l.length (Nat.le_refl _)
 rw [show (outR n l).take l.length=outR n l by rw [<- outR_len n l,List.take_length]] at this
 exact this
theorem refS_len {n:Nat} (l:List EqR):(refS n l).1.length <= n:=piv_len (red_piv n _)
def c41:ICode:=
 (.seq (.reg [qq 4 (.mv (.c (.slice none 0 0))),qq 5 (.mv (ci 0))]) (.seq (.reg [qq 13 (.mv (.t 0)),qq 14 (.mv (.t 1)),qq 15 (.call 72 [(.t 13),(.t 14)]),qq 6 (.mv (.t 15))]) (.seq (.seq (.reg [qq 16 (.mv (.t 6)),qq 17 (.bin .neq (.t 16) (ci 0))]) (.cond (.t 17) (.seq (.reg [qq 18 (.bslice 38 3 0 [] []),qq 19 (.mv (.t 6)),qq 4 (.mv (.t 18)),qq 5 (.mv (.t 19))]) .ret) .skip)) (.seq (.reg [qq 21 (.mv (.t 0)),qq 22 (.mv (.t 1)),qq 23 (.call 73 [(.t 21),(.t 22)]),qq 20 (.mv (.t 23)),qq 24 (.ext (.t 20) 0),qq 25 (.ext (.t 20) 1),qq 7 (.mv (.t 24)),qq 8 (.mv (.t 25))]) (.seq (.seq (.reg [qq 26 (.mv (.t 8)),qq 27 (.un .not (.t 26))]) (.cond (.t 27) (.seq (.reg [qq 28 (.bslice 38 3 0 [] []),qq 4 (.mv (.t 28)),qq 5 (.mv (ci 14))]) .ret) .skip)) (.seq (.reg [qq 29 (.bslice 38 3 0 [] []),qq 9 (.mv (.t 29))]) (.seq (.seq (.reg [qq 10 (.mv (ci 0))]) (.block 0 (.loop (.seq (.seq (.reg [qq 30 (.mv (.t 10)),qq 31 (.mv (.t 0)),qq 32 (.bin .lss (.t 30) (.t 31))]) (.cond (.t 32) .skip (.exit 0))) (.seq (.block 1 (.seq (.reg [qq 36 (.mv (.t 7)),qq 37 (.mv (.t 10)),qq 38 (.call 74 [(.t 36),(.t 37)]),qq 35 (.mv (.t 38)),qq 39 (.ext (.t 35) 0),qq 40 (.ext (.t 35) 1),qq 11 (.alloc 40 5 [(.slice none 0 0),(.bool false),e0,e0,(.int .i64 0)]),qn (.store 5 (.t 11) (.t 39)),qq 12 (.mv (.t 40))]) (.seq (.seq (.reg [qq 41 (.mv (.t 12)),qq 42 (.un .not (.t 41))]) (.cond (.t 42) (.seq (.reg [qq 43 (.bslice 38 3 0 [] []),qq 4 (.mv (.t 43)),qq 5 (.mv (ci 17))]) .ret) .skip)) (.reg [qq 44 (.mv (.t 9)),qq 45 (.faddr 1 (.t 11)),qq 46 (.load true 3 (.t 45)),qq 47 (.bslice 38 3 1 [(.bool false),e0,e0] [(0,3,(.t 46))]),qq 48 (.app 38 3 40 (.t 44) (.t 47)),qq 9 (.mv (.t 48))])))) (.reg [qq 33 (.mv (.t 10)),qq 34 (.bin .add (.t 33) (ci 1)),qq 10 (.mv (.t 34))])))))) (.seq (.reg [qq 49 (.mv (.t 9)),qq 4 (.mv (.t 49)),qq 5 (.mv (ci 0))]) .ret))))))))
theorem tr41:trFun Tryz.prog 41=some ⟨50,[.t 4,.t 5],c41⟩:=by kernel_rfl
set_option maxHeartbeats 16000000 in
theorem ok_solve24:SpecOK Tryz.prog 41 (nwL spSolveR):=by
 refine newL_run (env_cons ok_check24 (env_cons ok_reduced24 (env_cons ok_held24 (env_nil _)))) mixed tr41 ?_ ?_
 ·intro args h h' r hle e
  unfold spSolveR at e ⊢
  split at e
  ·split at e
   ·rename_i l hb
    simp only [decRows_mono hle hb];exact e
   ·cases e
  ·cases e
 intro args h N r hG hN
 unfold spSolveR at hG
 split at hG
 case h_2=>cases hG
 rename_i n sl
 split at hG
 case h_2=>cases hG
 rename_i l hx
 split at hG
 case isFalse=>cases hG
 rename_i hs
 cases hG
 refine ⟨solNR_par _ _,by simp,?_⟩
 have dn:∀ a b:Int,decide (a ≠ b)=!decide (a=b):=fun a b=>by by_cases h:a=b <;> simp [h]
 have ck:spLCheck [.int .i64 n,sl] h=some (.int .i64 (chkL n l)):=by unfold spLCheck;simp only [hx]
 have nbN:∀ q,q < N -> ∀ j,(N+j=q)=False:=fun q hq j=>eq_false (by omega)
 have nN:∀ q,q < N -> (N=q)=False:=fun q hq=>eq_false (by omega)
 have zfin:∀ (e:Int),(solNR (e,[])).cells=fun _ _=>[]:=fun e=>rfl
 by_cases c0:chkL n l=0
 case neg=>
  have e:solveRL n l=(chkL n l,[]):=if_neg c0
  have c0':(chkL n l=0)=False:=eq_false c0
  rw [e]
  simp only [c41,G0,Nat.reduceAdd]
  simp only [↓R0,R1,simprocAttr,-Int.reduceAbs,rdS,ck,c0',dn,Bool.not_false,Bool.not_true,FinL,isEnd,resL,res1]
  refine ⟨fun _=>N+0,_,fun i hi=>Nat.le_refl N,fun i j (hi:i < 1) (hj:j < 1) _=>by omega,rfl,rfl,fun i hi=>⟨true,?_⟩,fun q hq=>?_⟩
  ·first | (simp only [↓R0,R1,simprocAttr,-Int.reduceAbs];done) | (simp only [↓R0,R1,simprocAttr,-Int.reduceAbs];rfl)
  ·have nb:=nbN q hq
   have nN:=nN q hq
   simp only [↓R0,R1,simprocAttr,-Int.reduceAbs,nb,nN]
 rw [c0] at ck
 have e:solveRL n l=solveR 14 17 n.toNat (refS n.toNat l):=if_pos c0
 rw [e]
 obtain ⟨n,rfl⟩:=Int.eq_ofNat_of_zero_le (chk0 c0).1
 have pk:=hs c0
 rw [Int.toNat_natCast] at *
 have n8:=pk.1
 have rB:=red_RdB pk
 have pn:=refS_len (n:=n) l
 obtain ⟨D,mm,kc,gq,H⟩:=reduced_call (b:=N+0) hx pk
 obtain ⟨M,hM⟩:∃ M,M=N+mm:=⟨_,rfl⟩
 have eM:N+0+mm=M+0:=by omega
 rw [show N+0+mm=M by omega] at H
 generalize eHP:D ++ h=HP at *
 change nwL spReduced [.int .i64 n,sl] h (N+0)=some (.tuple ⟨[.slice (some ⟨N+0,0,none⟩) (refS n l).1.length (refS n l).1.length,.bool (refS n l).2]⟩,D,mm) at kc
 change EqH HP (N+0) M (N+0) n (refS n l).1.length (fun j=>N+0+(j+1)) (rowAt (refS n l).1) at H
 generalize refS n l=s at *
 have hB8:∀ q,q < s.1.length -> ∀ j,j <= n -> RB (rowAt s.1 q j) 8589934592:=fun q hq j hj=>(rB q hq j hj).le (by have:=oB_le s.1.length (by omega);omega)
 have ac:∀ (d:Nat) (tm:List (Nat × Value)) (V:Value) (K:St -> Prop),@aft (some d) (some (V,D,mm)) ⟨(⟨tm,h,N+0⟩,K)⟩=K ⟨(d,V) :: tm,HP,M+0⟩:=fun _ _ _ _=>by rw [<- eM,<- eHP];exact propext Iff.rfl
 have gM:N <= M:=by omega
 have nb:∀ q,q < N -> ∀ j,(M+j=q)=False:=fun q hq j=>eq_false (by omega)
 have nM:∀ q,q < N -> (M=q)=False:=fun q hq=>eq_false (by omega)
 have hkb:=H.kb
 cases s2:s.2 with
 | false=>
  rw [s2] at kc
  have e:solveR 14 17 n s=(14,[]):=if_pos s2
  rw [e]
  simp only [c41,G0,Nat.reduceAdd]
  simp only [↓R0,R1,simprocAttr,-Int.reduceAbs,rdS,ck,kc,ac,dn,Bool.not_false,Bool.not_true,FinL,isEnd,resL,res1]
  refine ⟨fun _=>M+0,_,fun i hi=>gM,fun i j (hi:i < 1) (hj:j < 1) _=>by omega,rfl,rfl,fun i hi=>⟨true,?_⟩,fun q hq=>?_⟩
  ·first | (simp only [↓R0,R1,simprocAttr,-Int.reduceAbs];done) | (simp only [↓R0,R1,simprocAttr,-Int.reduceAbs];rfl)
  ·have nb:=nb q hq
   have nM:=nM q hq
   simp only [↓R0,R1,simprocAttr,-Int.reduceAbs,nb,nM]
   exact gq q hq
 | true=>
  rw [s2] at kc
  have e:solveR 14 17 n s=match valsR n s.1 n with | some v=>(0,v) | none=>(17,[]):=by unfold solveR;rw [if_neg (by rw [s2];simp)];cases valsR n s.1 n <;> rfl
  rw [e]
  clear e
  simp only [c41,G0,Nat.reduceAdd]
  simp only [↓R0,R1,simprocAttr,-Int.reduceAbs,rdS,ck,kc,ac,dn,Bool.not_false,Bool.not_true]
  refine lp_parts (fun d tm hp nx=>∃ (k M2 ko:Nat) (v:List Rat) (x:Bool),d+k=n /\ tmget tm 0 = .int .i64 n /\ tmget tm 7 = .slice (some ⟨N+0,0,none⟩) s.1.length s.1.length /\ tmget tm 9 = .slice (some ⟨ko,0,none⟩) k k /\ tmget tm 10 = .int .i64 (k:Nat) /\
    valsR n s.1 k=some v /\ hget hp ko=some ⟨38,3,x,ratC v⟩ /\ M <= ko /\ ko < M2 /\ ExtL M HP hp /\ M+1 <= M2 /\ nx=M2+0) ?_ n
   ⟨0,M+1,M+0,[],true,by omega,?_,?_,?_,?_,rfl,?_,Nat.le_refl _,by omega,?_,Nat.le_refl _,rfl⟩
  rotate_left
  all_goals first | (simp only [↓R0,R1,simprocAttr,-Int.reduceAbs];done) | (simp only [↓R0,R1,simprocAttr,-Int.reduceAbs];rfl) | skip
  ·intro q hq
   have nb:∀ d,(M+d=q)=False:=fun d=>eq_false (by omega)
   have nM:(M=q)=False:=eq_false (by omega)
   simp only [↓R0,R1,simprocAttr,-Int.reduceAbs,nb,nM]
  rintro d tm hp nx ⟨k,M2,ko,v,x,hd,t0,t7,t9,t10,hv,bk,hk1,hk2,hh,hM2,hnx⟩
  rw [hnx]
  clear hnx nx
  have vl:=ratC_len v
  have vn:=(valsR_some hv).1
  rw [vn] at vl
  by_cases c1:k < n
  case neg=>
   have ek:k=n:=by omega
   subst ek
   have c1':((k:Int) < (k:Int))=False:=eq_false (by omega)
   rw [hv]
   unfold solNR
   simp only [vn]
   simp only [↓R0,R1,simprocAttr,-Int.reduceAbs,t0,t7,t9,t10,c1',FinL,isEnd,resL,res1]
   refine ⟨fun _=>ko,_,fun i hi=>(by omega:N <= ko),fun i j (hi:i < 1) (hj:j < 1) _=>by omega,rfl,rfl,fun i hi=>⟨x,bk⟩,fun q hq=>?_⟩
   rw [hh q (by omega)]
   exact gq q hq
  have c1':((k:Int) < (n:Int))=True:=eq_true (by omega)
  have wk:IntKind.i64.wrap ((k:Int)+1)=((k+1:Nat):Int):=by rw [i64_in _ (by omega)];omega
  have w0:∀ d,(M2+d=ko)=False:=fun d=>eq_false (by omega)
  have w1:∀ d,(ko=M2+d)=False:=fun d=>eq_false (by omega)
  have m20:M2+0+0=M2+0:=rfl
  have nwH:∀ (args:List Value) (hp:Heap) (k:Nat),nwL spHeld args hp k=(spHeld args hp).map fun r=>(r.val (k+·),newH r (k+·) r.m,r.m):=fun _ _ _=>rfl
  have H2:=H.mono (hp':=hp) (Nat.le_refl _) (fun q _ q2=>hh q q2)
  rcases held_of (k:=k) H2 (by omega) (by omega) (by omega) hB8 with ⟨i,hi,h1,h2⟩ | ⟨h1,h2⟩
  ·have vs:=valsR_succ hv h1
   have npp:(k+1 <= k)=False:=eq_false (by omega)
   have ovr:((k+1) * 40 <= 140737488355328)=True:=eq_true (by omega)
   have qln:∀ x:Rat,(RQ.of x).cells.length=3:=fun _=>rfl
   have qok:∀ x:Rat,(RQ.of x).cells.all okCell=true:=fun _=>rfl
   have qst:∀ x:Rat,setR [.bool false,.string ⟨⟨[]⟩⟩,.string ⟨⟨[]⟩⟩] 0 (RQ.of x).cells=(RQ.of x).cells:=fun _=>rfl
   have qtk:∀ x:Rat,(RQ.of x).cells.take 3=(RQ.of x).cells:=fun _=>rfl
   simp only [↓R0,R1,simprocAttr,-Int.reduceAbs,rdS,t0,t7,t9,t10,c1,c1',nwH,newHL0,h2,m20,PV_len,PV_ok,PV_tk,PV_0,PV_z,PV_1,qln,qok,qst,qtk,bk,vl,npp,ovr,w0,w1,wk,Bool.not_true,Bool.not_false]
   refine ⟨d - 1,by omega,k+1,M2+3,M2+2,v ++ [rowAt s.1 i n],false,by omega,rfl,rfl,vs,?_,by omega,by omega,fun q hq=>?_,by omega,rfl⟩
   ·have:ratC (v ++ [rowAt s.1 i n])=ratC v ++ (RQ.of (rowAt s.1 i n)).cells:=by unfold ratC;simp;rfl
    rw [this]
    simp only [↓R0,R1,simprocAttr,-Int.reduceAbs]
   ·have nb:∀ d,(M2+d=q)=False:=fun d=>eq_false (by omega)
    have nk:(ko=q)=False:=eq_false (by omega)
    simp only [↓R0,R1,simprocAttr,-Int.reduceAbs,nb,nk]
    exact hh q hq
  ·have vn:valsR n s.1 n=none:=by
    have:=valsR_up h1 (n - (k+1))
    rw [show k+1+(n - (k+1))=n by omega] at this;exact this
   rw [vn]
   have z5l:([Value.slice none 0 0,.bool false,.string ⟨⟨[]⟩⟩,.string ⟨⟨[]⟩⟩,.int .i64 0]:List Value).length=5:=rfl
   simp only [↓R0,R1,simprocAttr,-Int.reduceAbs,rdS,t0,t7,t9,t10,c1,c1',nwH,newHL0,h2,m20,w0,w1,wk,Bool.not_true,Bool.not_false,FinL,isEnd,resL,res1]
   refine ⟨fun _=>M2+1,_,fun i hi=>(by omega:N <= M2+1),fun i j (hi:i < 1) (hj:j < 1) _=>by omega,rfl,rfl,fun i hi=>⟨true,?_⟩,fun q hq=>?_⟩
   ·first | (simp only [↓R0,R1,simprocAttr,-Int.reduceAbs];done) | (simp only [↓R0,R1,simprocAttr,-Int.reduceAbs];rfl)
   ·have nb:∀ d,(M2+d=q)=False:=fun d=>eq_false (by omega)
    simp only [↓R0,R1,simprocAttr,-Int.reduceAbs,nb]
    rw [hh q (by omega)]
    exact gq q hq
theorem ZL_outR (n:Nat) (l:List EqR):ZL n l=nullL n (outR n l):=
 ConP_congr (n:=n) fun X=>null_list (n:=n) (by rw [outR_len]) (fun i hi=>by rw [outR_at hi];rfl) X
theorem both {n:Int} {l:List EqR}:solveRL n l=solveL n l /\ freeRL n l=freeVL n l /\ rankRL n l=rankL n l:=by
 by_cases c:chkL n l=0
 case neg=>
  refine ⟨?_,?_,?_⟩
  ·unfold solveRL solveL;rw [if_neg c,if_neg c]
  ·unfold freeRL freeVL;rw [if_neg c,if_neg (fun x=>c x.1)]
  ·unfold rankRL rankL;rw [if_neg c,if_neg c]
 obtain ⟨n,rfl⟩:=Int.eq_ofNat_of_zero_le (chk0 c).1
 have hZ:=ZL_outR n l
 have S:=ref_sys n (outR n l)
 rw [<- hZ] at S
 refine ⟨?_,?_,?_⟩
 ·have O1:=solL_out c
  have O2:=solveR_out 14 17 n (outR n l)
  rw [<- hZ] at O2
  obtain ⟨e1,e2⟩:=O2.same O1
  unfold solveRL
  rw [if_pos c,Int.toNat_natCast]
  exact Prod.ext e1 e2
 ·unfold freeRL freeVL
  rw [if_pos c,Int.toNat_natCast]
  unfold freeR
  have con:ConP n (ZL n l) ↔ ¬ (refS n l).2=false:=S.con
  by_cases cc:ConP n (ZL n l)
  ·rw [if_neg (con.1 cc),if_pos ⟨c,conL.1 cc⟩]
   unfold freeK
   refine List.filter_congr fun k hk=>?_
   have hk:k < n:=List.mem_range.1 hk
   have a:=heldR_iff (n:=n) (rows:=outR n l) hk
   rw [<- hZ] at a
   have b:=detL (n:=n) (l:=l) hk
   show (heldR n k (refS n l).1).isNone=_
   by_cases d:DetP n (ZL n l) k
   ·rw [decide_eq_true (b.2 d)]
    have:=a.2 d
    have e:(heldR n k (refS n l).1).isSome=true:=this
    cases z:heldR n k (refS n l).1 with
    | none=>rw [z] at e;cases e
    | some _=>rfl
   ·rw [decide_eq_false (fun x=>d (b.1 x))]
    cases z:heldR n k (refS n l).1 with
    | none=>rfl
    | some _=>exact absurd (a.1 (by show (heldR n k (refS n l).1).isSome=true;rw [z];rfl)) d
  ·rw [if_pos (Classical.byContradiction fun x=>cc (con.2 x)),if_neg (fun x=>cc (conL.2 x.2))]
 ·unfold rankRL rankL
  rw [if_pos c,if_pos c,Int.toNat_natCast]
  exact rank_eq S (red_sys n l.length (eqM n l)) fun k _=>Iff.rfl
theorem solveR_call2 {h:Heap} {n:Int} {b:Nat} {l:List EqR} {sl:Value} (hx:decRows h sl=some l) (hs:SysR n l) :
  ∃ a D mm,nwL spSolveR [.int .i64 n,sl] h b=some (.tuple ⟨[.slice a (solveL n l).2.length (solveL n l).2.length,.int .i64 (solveL n l).1]⟩,D,mm) /\ (∀ q,q < b -> hget (D ++ h) q=hget h q) /\
   (∀ hp,ExtL (b+mm) (D ++ h) hp -> listAt 3 dec1 hp (.slice a (solveL n l).2.length (solveL n l).2.length)=some (vq (solveL n l).2)) /\ ∀ k off s,a=some ⟨k,off,s⟩ -> k < b+mm:=by
 have e0:spSolveR [.int .i64 n,sl] h=some (solNR (solveL n l)):=by
  unfold spSolveR
  simp only [hx]
  rw [if_pos hs,both.1]
 have e:nwL spSolveR [.int .i64 n,sl] h b=some ((solNR (solveL n l)).val (b+·),newH (solNR (solveL n l)) (b+·) (solNR (solveL n l)).m,(solNR (solveL n l)).m):=by
  unfold nwL
  rw [e0];rfl
 rw [e]
 generalize solveL n l=r at *
 refine ⟨some ⟨b+0,0,none⟩,_,1,rfl,fun q hq=>?_,fun hp he=>?_,fun k _ _ e=>by cases e;omega⟩
 ·have:(b+0=q)=False:=eq_false (by omega)
  simp only [solNR,newH,List.cons_append,List.nil_append,hget,this,if_false]
 ·have g:=he (b+0) (by omega)
  rw [show hget (newH (solNR r) (b+·) (solNR r).m ++ h) (b+0)=some ⟨38,3,false,ratC r.2⟩ from if_pos rfl] at g
  by_cases z:r.2=[]
  ·rw [z] at g ⊢
   show (lay 3 hp (.slice (some ⟨b+0,0,none⟩) 0 0)).bind _=_
   unfold lay
   simp only [g]
   rfl
  ·exact ratC_list g z
def Imp (n:Nat) (l:List EqR) (e:EqR):Prop:=∀ X,(∀ d ∈ l,Sat n d X) -> Sat n e X
theorem sat_bump {n:Nat} {e:EqR} {X:Row}:Sat n (bump e) X ↔ lin n (qsV e.coef) X=e.rhs.v+1:=by
 unfold Sat bump
 rw [RQ.of_v]
theorem chk_push {n:Nat} {l:List EqR} {e:EqR} (c:chkL n l=0) (hl:l.length+1 <= 100) (he:e.coef.length=n):chkL n (l ++ [e])=0:=
 chk0_of (by have:=(chk0 c).2.1;omega) (by rw [List.length_append,List.length_singleton];exact hl) fun d hd=>by
  rcases List.mem_append.1 hd with h | h
  ·exact chk0_nat c d h
  ·rw [List.mem_singleton] at h;rw [h];exact he
theorem fol_iff {n:Nat} {l:List EqR} {e:EqR} (c:chkL n l=0) (hl:l.length+1 <= 100) (he:e.coef.length=n) (con:Cns n l):folL n l e=true ↔ Imp n l e:=by
 have c1:=chk_push c hl he
 have c2:chkL n (l ++ [bump e])=0:=chk_push c hl he
 unfold folL
 rw [Bool.and_eq_true,Bool.not_eq_true',tog_sat c1,tog_not c2]
 constructor
 ·rintro ⟨⟨Y,hY⟩,h2⟩ X hX
  refine Classical.byContradiction fun ns=>h2 ?_
  have y0:Sat n e Y:=hY e (List.mem_append_right _ (List.mem_singleton.2 rfl))
  have dn:lin n (qsV e.coef) X - e.rhs.v ≠ 0:=fun h=>ns (by unfold Sat;grind)
  have lw:∀ a:Row,lin n a (fun j=>(Y j+(1 / (lin n (qsV e.coef) X - e.rhs.v)) * X j)+(-(1 / (lin n (qsV e.coef) X - e.rhs.v))) * Y j)=lin n a Y+(1 / (lin n (qsV e.coef) X - e.rhs.v)) * (lin n a X - lin n a Y):=fun a=>by
   rw [lin_addv,lin_addv];grind
  refine ⟨fun j=>(Y j+(1 / (lin n (qsV e.coef) X - e.rhs.v)) * X j)+(-(1 / (lin n (qsV e.coef) X - e.rhs.v))) * Y j,fun d hd=>?_⟩
  rcases List.mem_append.1 hd with h | h
  ·have x1:=hX d h
   have y1:=hY d (List.mem_append_left _ h)
   unfold Sat at x1 y1 ⊢
   rw [lw,x1,y1];grind
  ·rw [List.mem_singleton] at h
   subst h
   rw [sat_bump,lw]
   unfold Sat at y0
   rw [y0];grind
 ·intro h
  obtain ⟨X,hX⟩:=con
  refine ⟨⟨X,fun d hd=>?_⟩,?_⟩
  ·rcases List.mem_append.1 hd with g | g
   ·exact hX d g
   ·rw [List.mem_singleton] at g;rw [g];exact h X hX
  ·rintro ⟨Y,hY⟩
   have y1:=h Y fun d hd=>hY d (List.mem_append_left _ hd)
   have y2:=sat_bump.1 (hY (bump e) (List.mem_append_right _ (List.mem_singleton.2 rfl)))
   unfold Sat at y1
   rw [y1] at y2
   grind
theorem take_chk {n:Nat} {l:List EqR} (c:chkL n l=0) (i:Nat):chkL n (l.take i)=0:=
 chk_sub c (by have:=(chk0 c).2.2.1;rw [List.length_take];omega) fun e he=>List.mem_of_mem_take he
theorem small_ok {q:RQ} (h:smallQ q):(RQ.of q.v).ok 4:=by
 refine RQ.of_ok ?_
 obtain ⟨s,n,d⟩:=q
 refine divInt_RB (N:=sv s n) (D:=dv d) (by have:=dv_pos d;omega) ?_ ?_
 ·rw [sv_natAbs]
  exact Nat.le_trans (bl_length_nl n) h.1
 ·unfold dv
  split
  ·exact Nat.le_trans (bl_length_le (k:=1).2 (by decide)) (by omega)
  ·exact Nat.le_trans (bl_length_nl d) h.2
structure EqsR (n:Nat) (l:List EqR):Prop where
 n8:n <= 8
 len:l.length <= 40
 co:∀ e ∈ l,e.coef.length=n /\ eqOk e 4
theorem fit_R {n:Nat} {l:List EqR} (h:fitS n l):EqsR n (nmL l) where
 n8:=by have:=h.2.1;omega
 len:=by rw [nmL_len];have:=h.2.2.1;omega
 co:=fun e he=>by
  obtain ⟨y,hy,rfl⟩:=List.mem_map.1 he
  have f:=h.2.2.2 y hy
  refine ⟨by unfold nmE;rw [List.length_map];have:=f.1;omega,fun q hq=>?_,small_ok f.2.1⟩
  obtain ⟨z,hz,rfl⟩:=List.mem_map.1 hq
  exact small_ok (f.2.2 z hz)
theorem EqsR.sys {n:Nat} {l l':List EqR} (H:EqsR n l) (hl:l'.length <= 100) (h:∀ e ∈ l',e ∈ l):SysR n l':=fun _=>
 ⟨by rw [Int.toNat_natCast];exact H.n8,hl,fun e he=>by rw [Int.toNat_natCast];exact (H.co e (h e he)).1,fun e he=>(H.co e (h e he)).2⟩
def spClash5:List Value -> Heap -> Option Value
 | [.int .i64 n,sl],h=>match decRows h sl with
  | some l=>if SysR n l then some (.bool (!togL n l)) else none
  | none=>none
 | _,_=>none
theorem spClash5_mono {args:List Value} {h h':Heap} {r:Value} (hl:hle h h') (e:spClash5 args h=some r):spClash5 args h'=some r:=by
 unfold spClash5 at e ⊢
 split at e
 ·split at e
  ·rename_i l hb
   simp only [decRows_mono hl hb];exact e
  ·cases e
 ·cases e
theorem clash5_of {h:Heap} {n:Int} {l:List EqR} {sl:Value} (hx:decRows h sl=some l) (hs:SysR n l):spClash5 [.int .i64 n,sl] h=some (.bool (!togL n l)):=by
 unfold spClash5
 simp only [hx]
 exact if_pos hs
def c18:ICode:=
 (.seq (.reg [qq 4 (.mv (.c (.bool false)))]) (.seq (.reg [qq 8 (.mv (.t 0)),qq 9 (.mv (.t 1)),qq 10 (.call 41 [(.t 8),(.t 9)]),qq 7 (.mv (.t 10)),qq 11 (.ext (.t 7) 0),qq 12 (.ext (.t 7) 1),qq 5 (.mv (.t 11)),qq 6 (.mv (.t 12))]) (.seq (.reg [qq 13 (.mv (.t 6)),qq 14 (.bin .eql (.t 13) (ci 14)),qq 4 (.mv (.t 14))]) .ret)))
theorem tr18:trFun Tryz.prog 18=some ⟨15,[.t 4],c18⟩:=by kernel_rfl
set_option maxHeartbeats 2000000 in
theorem ok_clash5:SpecOK Tryz.prog 18 (rdS spClash5):=by
 refine rd_run (env_cons ok_solve24 (env_nil _)) mixed tr18 (fun _ _ _ _=>spClash5_mono) ?_
 intro args v h N hG hN
 unfold spClash5 at hG
 split at hG
 case h_2=>cases hG
 rename_i n sl
 split at hG
 case h_2=>cases hG
 rename_i l hx
 split at hG
 case isFalse=>cases hG
 rename_i hs
 cases hG
 refine ⟨by rfl,by simp,?_⟩
 obtain ⟨a9,D,mm,kc,gq,_⟩:=solveR_call2 (b:=N+0) hx hs
 generalize eHP:D ++ h=HP at *
 have ac:∀ (d:Nat) (tm:List (Nat × Value)) (V:Value) (K:St -> Prop),@aft (some d) (some (V,D,mm)) ⟨(⟨tm,h,N+0⟩,K)⟩=K ⟨(d,V) :: tm,HP,N+(0+mm)⟩:=fun _ _ _ _=>by rw [<- eHP];exact a_newL
 have ft:(!togL n l)=decide ((solveL n l).1=14):=by
  unfold togL
  by_cases x:(solveL n l).1=14
  ·rw [decide_eq_false (fun y=>y x),decide_eq_true x];rfl
  ·rw [decide_eq_true x,decide_eq_false x];rfl
 rw [ft]
 simp only [c18,G0,Nat.reduceAdd]
 simp only [↓R0,R1,simprocAttr,-Int.reduceAbs,kc,ac,Fin,isEnd,resL,res1]
 exact ⟨_,rfl,rfl,fun q hq=>gq q (by omega)⟩
theorem intNL_call {F:List Value -> Heap -> Option NewL} {args:List Value} {h:Heap} {b:Nat} {L:List Nat} (e:F args h=some (intNL L)) (z:L ≠ []) :
  nwL F args h b=some (.slice (some ⟨b,0,none⟩) L.length L.length,[(b,some ⟨3,1,false,intC L⟩)],1):=by
 unfold nwL
 rw [e]
 unfold intNL
 rw [if_neg z]
 rfl
theorem intNL_nil {F:List Value -> Heap -> Option NewL} {args:List Value} {h:Heap} {b:Nat} {L:List Nat} (e:F args h=some (intNL L)) (z:L=[]) :
  nwL F args h b=some (.slice none 0 0,[],0):=by
 unfold nwL
 rw [e]
 unfold intNL
 rw [if_pos z]
 rfl
theorem intC_listO {h:Heap} {k e s o m c:Nat} {x:Bool} {L:List Nat} (hb:hget h k=some ⟨e,s,x,intC L⟩) (hm:o+m <= L.length) (hc:m <= c) :
  listAt 1 decN h (.slice (some ⟨k,o,none⟩) m c)=some (((L.drop o).take m).map fun i=>((i:Nat):Int)):=by
 have ll:(intC L).length=L.length:=by unfold intC;rw [List.length_map]
 have la:lay 1 h (.slice (some ⟨k,o,none⟩) m c)=some (((intC L).drop o).take m):=by
  unfold lay
  cases m with
  | zero=>
   simp only [hb]
   rw [if_pos ⟨by omega,by omega⟩,Nat.mul_one]
  | succ n=>
   simp only [hb]
   rw [if_pos ⟨by omega,by omega⟩,Nat.mul_one]
 unfold listAt
 rw [la,Option.bind_some]
 refine many_some (by show _=m;rw [List.length_map,List.length_take,List.length_drop];omega) fun i z hz=>?_
 rw [List.getElem?_map,Option.map_eq_some_iff] at hz
 obtain ⟨y,hy,rfl⟩:=hz
 have hi:=(List.getElem?_eq_some_iff.1 hy).1
 rw [List.length_take,List.length_drop] at hi
 rw [List.getElem?_take_of_lt (by omega),List.getElem?_drop] at hy
 have g:(intC L)[o+i]?=some (.int .i64 ((y:Nat):Int)):=by unfold intC;rw [List.getElem?_map,hy];rfl
 rw [Nat.mul_one,List.drop_take,List.take_take,Nat.min_eq_left (by omega),List.drop_drop]
 obtain ⟨hlt,ge⟩:=List.getElem?_eq_some_iff.1 g
 rw [List.drop_eq_getElem_cons hlt,ge]
 rfl
def scE5 (b:Rat) (e:EqR):EqR:=⟨e.coef.map fun q=>RQ.of (q.v * b),RQ.of (e.rhs.v * b),e.line⟩
def scL5 (b:Nat -> Rat) (l:List EqR):List EqR:=l.mapIdx fun i e=>scE5 (b i) e
theorem scL5_len (b:Nat -> Rat) (l:List EqR):(scL5 b l).length=l.length:=by unfold scL5;rw [List.length_mapIdx]
theorem scL5_at {b:Nat -> Rat} {l:List EqR} {i:Nat} (h:i < l.length):eqAt (scL5 b l) i=scE5 (b i) (eqAt l i):=by
 unfold eqAt scL5
 rw [List.getElem?_mapIdx,List.getElem?_eq_getElem h];rfl
theorem mem_at {l:List EqR} {e:EqR} (h:e ∈ l):∃ i,i < l.length /\ e=eqAt l i:=by
 obtain ⟨i,hi,ge⟩:=List.mem_iff_getElem.1 h
 refine ⟨i,hi,?_⟩
 unfold eqAt
 rw [List.getElem?_eq_getElem hi,ge];rfl
theorem qsV_sc {l:List RQ} {b:Rat} {j:Nat} (h:j < l.length):qsV (l.map fun q=>RQ.of (q.v * b)) j=qsV l j * b:=by
 unfold qsV rqAt
 rw [List.getElem?_map,List.getElem?_eq_getElem h]
 exact RQ.of_v _
theorem sat_sc {n:Nat} {b:Rat} {e:EqR} {X:Row} (hb:b ≠ 0) (hl:e.coef.length=n):Sat n (scE5 b e) X ↔ Sat n e X:=by
 have h:lin n (qsV (scE5 b e).coef) X=lin n (qsV e.coef) X * b:=by
  rw [<- lin_mul]
  exact lin_congr (fun j hj=>qsV_sc (by omega)) fun _ _=>rfl
 have h2:(scE5 b e).rhs.v=e.rhs.v * b:=RQ.of_v _
 unfold Sat
 rw [h,h2]
 constructor
 ·intro x;grind
 ·intro x;rw [x]
structure ScL (n:Nat) (b:Nat -> Rat) (l:List EqR):Prop where
 nz:∀ i,b i ≠ 0
 len:∀ e ∈ l,e.coef.length=n
 cl:chkL n l=0
 cm:chkL n (scL5 b l)=0
theorem ScL.sat {n:Nat} {b:Nat -> Rat} {l:List EqR} (S:ScL n b l) {i:Nat} (h:i < l.length) {X:Row}:Sat n (eqAt (scL5 b l) i) X ↔ Sat n (eqAt l i) X:=by
 rw [scL5_at h]
 exact sat_sc (S.nz i) (S.len _ (eqAt_mem h))
theorem ScL.sel {n:Nat} {b:Nat -> Rat} {l:List EqR} (S:ScL n b l) {ps:List Int} (h:∀ p ∈ ps,0 <= p /\ p.toNat < l.length) (hl:ps.length <= 100):togL n (selL (scL5 b l) ps)=togL n (selL l ps):=by
 have c1:=selL_chk S.cl h hl
 have c2:chkL n (selL (scL5 b l) ps)=0:=selL_chk S.cm (fun p hp=>by rw [scL5_len];exact h p hp) hl
 rw [Bool.eq_iff_iff,tog_sat c1,tog_sat c2]
 have key:∀ X,(∀ e ∈ selL (scL5 b l) ps,Sat n e X) ↔ ∀ e ∈ selL l ps,Sat n e X:=fun X=>by
  unfold selL
  constructor
  ·intro H e he
   obtain ⟨p,hp,rfl⟩:=List.mem_map.1 he
   exact (S.sat (h p hp).2).1 (H _ (List.mem_map.2 ⟨p,hp,rfl⟩))
  ·intro H e he
   obtain ⟨p,hp,rfl⟩:=List.mem_map.1 he
   exact (S.sat (h p hp).2).2 (H _ (List.mem_map.2 ⟨p,hp,rfl⟩))
 exact exists_congr key
theorem ScL.take {n:Nat} {b:Nat -> Rat} {l:List EqR} (S:ScL n b l) (i:Nat) (X:Row):(∀ e ∈ (scL5 b l).take i,Sat n e X) ↔ ∀ e ∈ l.take i,Sat n e X:=by
 constructor
 ·intro H e he
  obtain ⟨j,hj,rfl⟩:=mem_at he
  rw [List.length_take] at hj
  rw [eqAt_take (by omega)]
  refine (S.sat (by omega)).1 (H _ ?_)
  rw [<- eqAt_take (l:=scL5 b l) (i:=i) (by omega)]
  exact eqAt_mem (by rw [List.length_take,scL5_len];omega)
 ·intro H e he
  obtain ⟨j,hj,rfl⟩:=mem_at he
  rw [List.length_take,scL5_len] at hj
  rw [eqAt_take (by omega)]
  refine (S.sat (by omega)).2 (H _ ?_)
  rw [<- eqAt_take (l:=l) (i:=i) (by omega)]
  exact eqAt_mem (by rw [List.length_take];omega)
theorem ScL.tog {n:Nat} {b:Nat -> Rat} {l:List EqR} (S:ScL n b l) (i:Nat):togL n ((scL5 b l).take i)=togL n (l.take i):=by
 rw [Bool.eq_iff_iff,tog_sat (take_chk S.cm i),tog_sat (take_chk S.cl i)]
 exact exists_congr (S.take i)
theorem ScL.all {n:Nat} {b:Nat -> Rat} {l:List EqR} (S:ScL n b l):togL n (scL5 b l)=togL n l:=by
 have:=S.tog l.length
 rw [List.take_of_length_le (by rw [scL5_len];exact Nat.le_refl _),List.take_of_length_le (Nat.le_refl _)] at this
 exact this
theorem ScL.fol {n:Nat} {b:Nat -> Rat} {l:List EqR} (S:ScL n b l) {i:Nat} (hi:i < l.length) (h:l.length < 100) (con:Cns n (l.take i)):folL n ((scL5 b l).take i) (eqAt (scL5 b l) i)=folL n (l.take i) (eqAt l i):=by
 have con2:Cns n ((scL5 b l).take i):=by
  obtain ⟨X,hX⟩:=con
  exact ⟨X,(S.take i X).2 hX⟩
 have hi2:i < (scL5 b l).length:=by rw [scL5_len];exact hi
 rw [Bool.eq_iff_iff,fol_iff (take_chk S.cm i) (by rw [List.length_take,scL5_len];omega) (chk0_nat S.cm _ (eqAt_mem hi2)) con2,fol_iff (take_chk S.cl i) (by rw [List.length_take];omega) (S.len _ (eqAt_mem hi)) con]
 unfold Imp
 exact forall_congr' fun X=>by rw [S.take i X,S.sat hi]
theorem ScL.minS {n:Nat} {b:Nat -> Rat} {l:List EqR} (S:ScL n b l):∀ i,minS n (scL5 b l) i=minS n l i
 | 0=>by unfold Go.Eng.minS;rw [scL5_len]
 | i+1=>by
  have ml:=minS_len n l i
  have mm:=minS_mem n l i
  have cl:=(chk0 S.cl).2.2.1
  have dl:=delL_len i (Go.Eng.minS n l i).1
  have:=S.sel (ps:=delL i (Go.Eng.minS n l i).1) (fun p hp=>mm p (delL_mem.1 hp).1) (by omega)
  show (if togL n (selL (scL5 b l) (delL i (Go.Eng.minS n (scL5 b l) i).1))=true then _ else _)=if togL n (selL l (delL i (Go.Eng.minS n l i).1))=true then _ else _
  rw [S.minS i,this]
theorem ScL.minF {n:Nat} {b:Nat -> Rat} {l:List EqR} (S:ScL n b l):minF n (scL5 b l)=minF n l /\ (Go.Eng.minS n (scL5 b l) (scL5 b l).length).2=(Go.Eng.minS n l l.length).2:=by
 unfold Go.Eng.minF
 rw [scL5_len,S.minS]
 exact ⟨rfl,rfl⟩
theorem ScL.redS {n:Nat} {b:Nat -> Rat} {l:List EqR} (S:ScL n b l) (h:l.length < 100):∀ i,i <= l.length -> redS n (scL5 b l) i=redS n l i
 | 0,_=>rfl
 | i+1,hi=>by
  have ih:=S.redS h i (by omega)
  show (if (Go.Eng.redS n (scL5 b l) i).2=true then _ else _)=if (Go.Eng.redS n l i).2=true then _ else _
  rw [ih,S.tog i]
  by_cases t:togL n (l.take i)=false
  ·rw [if_pos t,if_pos t]
  ·rw [if_neg t,if_neg t,S.fol (by omega) h ((tog_sat (take_chk S.cl i)).1 (by simpa using t))]
theorem ScL.redL {n:Nat} {b:Nat -> Rat} {l:List EqR} (S:ScL n b l) (h:l.length < 100):redL n (scL5 b l)=redL n l:=by
 unfold Go.Eng.redL
 rw [scL5_len,S.redS h _ (Nat.le_refl _)]
end Go.Eng
end
section
namespace Go.Eng.K
open Go.Eng
inductive Ki where
 | b | i (k:IntKind) | s
def kiFs (ty:TypeId -> Option (List Ki)) (P:Program):List Field -> Nat -> Option (List Ki)
 | [],_=>some []
 | f :: r,off=>
  if f.name ≠ "_" /\ f.offset = off then
   match ty f.type,szOf P f.type with
   | some ks,some n=>if ks.length=n then (kiFs ty P r (off+n)).map (ks ++ ·) else none
   | _,_=>none
  else none
def kiTy (P:Program):Nat -> TypeId -> Option (List Ki)
 | 0,_=>none
 | d+1,t=>
  match P.underlying t with
  | some .bool=>some [.b]
  | some (.int k)=>some [.i k]
  | some .string=>some [.s]
  | some (.struct fs)=>if P.stoodInHeld t then none else kiFs (kiTy P d) P fs.toList 0
  | some (.array len e)=>match kiTy P d e,szOf P e with
   | some ks,some n=>if ks.length=n then some (List.replicate len ks).flatten else none
   | _,_=>none
  | _=>none
def kmatch:List Ki -> List Value -> Prop
 | [],[]=>True
 | .b :: ks,.bool _ :: r=>kmatch ks r
 | .i k :: ks,.int k' n :: r=>(k'=k /\ (Lit.int k n).wf=true) /\ kmatch ks r
 | .s :: ks,.string s :: r=>s.size <= maxLen /\ kmatch ks r
 | _,_=>False
theorem kmatch_append:∀ {ks ks':List Ki} {cs cs':List Value},kmatch ks cs -> kmatch ks' cs' -> kmatch (ks ++ ks') (cs ++ cs')
 | [],_,[],_,_,h=>h
 | [],_,_ :: _,_,h,_=>h.elim
 | .b :: ks,ks',cs,cs',h,h'=>by
  match cs,h with
  | .bool _ :: r,h=>exact kmatch_append (ks:=ks) h h'
 | .i k :: ks,ks',cs,cs',h,h'=>by
  match cs,h with
  | .int _ _ :: r,h=>exact ⟨h.1,kmatch_append (ks:=ks) h.2 h'⟩
 | .s :: ks,ks',cs,cs',h,h'=>by
  match cs,h with
  | .string _ :: r,h=>exact ⟨h.1,kmatch_append (ks:=ks) h.2 h'⟩
section
variable {H:Type} {enc:TypeId × Value -> H} {P:Program}
theorem cellsOf_sz {t:TypeId} {n:Nat} (h:szOf P t=some n):P.cellsOf t=n:=by
 unfold Program.cellsOf;unfold szOf at h;rw [h];rfl
def Plain (P:Program) (enc:TypeId × Value -> H) (fuel:Nat) (t:TypeId) (ks:List Ki):Prop:=
 ∀ (w:World) (base:Nat) (spare:Nat -> Bool) (held:Bool) (cs:List Value) (x:DataW H × List MemPlace),DataW.trod enc P w base spare held fuel t cs=some x ->
  kmatch ks cs /\ x.2=[] /\ ∀ w' base' spare' held',DataW.trod enc P w' base' spare' held' fuel t cs=some x
theorem plain_fields {fuel:Nat} {ty:TypeId -> Option (List Ki)} (hty:∀ t ks n,ty t=some ks -> szOf P t=some n -> ks.length=n -> Plain P enc fuel t ks) :
  ∀ (fs:List Field) (off:Nat) (ks:List Ki),kiFs ty P fs off=some ks -> ∀ (w:World) (base:Nat) (spare:Nat -> Bool) (held:Bool) (cs:List Value) (xs:List (DataW H × List MemPlace)),
   (fs.mapM fun f=>DataW.trod enc P w base spare held fuel f.type ((cs.drop f.offset).take (P.cellsOf f.type)))=some xs -> cs.length=off+ks.length ->
   kmatch ks (cs.drop off) /\ xs.flatMap (·.2)=[] /\ ∀ w' base' spare' held',(fs.mapM fun f=>DataW.trod enc P w' base' spare' held' fuel f.type ((cs.drop f.offset).take (P.cellsOf f.type)))=some xs
 | [],off,ks,h,w,base,spare,held,cs,xs,hm,hl=>by
  simp only [kiFs,Option.some.injEq] at h
  subst h
  simp only [List.mapM_nil,Option.pure_def,Option.some.injEq] at hm
  subst hm
  simp only [List.length_nil,Nat.add_zero] at hl
  rw [List.drop_eq_nil_of_le (by omega)]
  exact ⟨trivial,rfl,fun _ _ _ _=>rfl⟩
 | f :: r,off,ks,h,w,base,spare,held,cs,xs,hm,hl=>by
  simp only [kiFs] at h
  split at h
  case isFalse=>cases h
  rename_i hc
  obtain ⟨_,hoff⟩:=hc
  split at h
  case h_2=>cases h
  rename_i ks0 n hk hn
  split at h
  case isFalse=>cases h
  rename_i hlen
  rw [Option.map_eq_some_iff] at h
  obtain ⟨ks1,h1,rfl⟩:=h
  have hsz:=cellsOf_sz hn
  simp only [List.mapM_cons,Option.bind_eq_bind,Option.bind_eq_some_iff,Option.pure_def,Option.some.injEq] at hm
  obtain ⟨y,hy,ys,hys,rfl⟩:=hm
  have hp:=hty f.type ks0 n hk hn hlen w base spare held _ y hy
  obtain ⟨p1,p2,p3⟩:=hp
  simp only [List.length_append] at hl
  obtain ⟨q1,q2,q3⟩:=plain_fields hty r (off+n) ks1 h1 w base spare held cs ys hys (by omega)
  rw [hoff,hsz] at p1
  refine ⟨?_,?_,?_⟩
  ·have e:cs.drop off=(cs.drop off).take n ++ cs.drop (off+n):=by
    rw [<- List.drop_drop,List.take_append_drop]
   rw [e]
   exact kmatch_append p1 q1
  ·simp only [List.flatMap_cons,p2,q2,List.nil_append]
  ·intro w' base' spare' held'
   simp only [List.mapM_cons,Option.bind_eq_bind,Option.bind_eq_some_iff,Option.pure_def,Option.some.injEq]
   exact ⟨y,p3 w' base' spare' held',ys,q3 w' base' spare' held',rfl⟩
theorem plain_elems {fuel:Nat} {e:TypeId} {ks:List Ki} {n:Nat} (hn:szOf P e=some n) (hl:ks.length=n) (he:Plain P enc fuel e ks) :
  ∀ (m i0:Nat) (w:World) (base:Nat) (spare:Nat -> Bool) (held:Bool) (cs:List Value) (xs:List (DataW H × List MemPlace)),
   ((List.range' i0 m).mapM fun i=>DataW.trod enc P w base spare held fuel e ((cs.drop (i * P.cellsOf e)).take (P.cellsOf e)))=some xs -> cs.length=(i0+m) * n ->
   kmatch (List.replicate m ks).flatten (cs.drop (i0 * n)) /\ xs.flatMap (·.2)=[] /\ ∀ w' base' spare' held',((List.range' i0 m).mapM fun i=>DataW.trod enc P w' base' spare' held' fuel e ((cs.drop (i * P.cellsOf e)).take (P.cellsOf e)))=some xs
 | 0,i0,w,base,spare,held,cs,xs,hm,hlen=>by
  simp only [List.range'_zero,List.mapM_nil,Option.pure_def,Option.some.injEq] at hm
  subst hm
  simp only [Nat.add_zero] at hlen
  rw [List.drop_eq_nil_of_le (by omega)]
  exact ⟨trivial,rfl,fun _ _ _ _=>by simp⟩
 | m+1,i0,w,base,spare,held,cs,xs,hm,hlen=>by
  have hsz:=cellsOf_sz hn
  simp only [List.range'_succ,List.mapM_cons,Option.bind_eq_bind,Option.bind_eq_some_iff,Option.pure_def,Option.some.injEq] at hm
  obtain ⟨y,hy,ys,hys,rfl⟩:=hm
  obtain ⟨p1,p2,p3⟩:=he w base spare held _ y hy
  obtain ⟨q1,q2,q3⟩:=plain_elems hn hl he m (i0+1) w base spare held cs ys hys (by rw [hlen];congr 1;omega)
  rw [hsz] at p1
  refine ⟨?_,?_,?_⟩
  ·rw [List.replicate_succ,List.flatten_cons]
   have e:cs.drop (i0 * n)=(cs.drop (i0 * n)).take n ++ cs.drop ((i0+1) * n):=by
    rw [Nat.succ_mul,<- List.drop_drop,List.take_append_drop]
   rw [e]
   exact kmatch_append p1 q1
  ·simp only [List.flatMap_cons,p2,q2,List.nil_append]
  ·intro w' base' spare' held'
   simp only [List.range'_succ,List.mapM_cons,Option.bind_eq_bind,Option.bind_eq_some_iff,Option.pure_def,Option.some.injEq]
   exact ⟨y,p3 w' base' spare' held',ys,q3 w' base' spare' held',rfl⟩
theorem plain_ty:∀ (fuel d:Nat) (t:TypeId) (ks:List Ki) (n:Nat),kiTy P d t=some ks -> szOf P t=some n -> ks.length=n -> Plain P enc fuel t ks
 | 0,d,t,ks,n,h,hn,hl=>by intro w base spare held cs x hx;simp [DataW.trod] at hx
 | fuel+1,0,t,ks,n,h,hn,hl=>by simp [kiTy] at h
 | fuel+1,d+1,t,ks,n,h,hn,hl=>by
  intro w base spare held cs x hx
  unfold kiTy at h
  unfold DataW.trod at hx ⊢
  split at h
  ·rename_i hu
   cases h
   rw [hu] at hx ⊢
   match cs,hx with
   | [.bool b],hx=>simp only [Option.some.injEq] at hx;subst hx;exact ⟨trivial,rfl,fun _ _ _ _=>rfl⟩
  ·rename_i k hu
   cases h
   rw [hu] at hx ⊢
   match cs,hx with
   | [.int k' m],hx=>
    simp only at hx
    split at hx
    ·rename_i hc
     simp only [Option.some.injEq] at hx;subst hx
     exact ⟨⟨hc,trivial⟩,rfl,fun _ _ _ _=>by simp only;rw [if_pos hc]⟩
    ·cases hx
  ·rename_i hu
   cases h
   rw [hu] at hx ⊢
   match cs,hx with
   | [.string s],hx=>
    simp only at hx
    split at hx
    ·rename_i hc
     simp only [Option.some.injEq] at hx;subst hx
     exact ⟨⟨hc,trivial⟩,rfl,fun _ _ _ _=>by simp only;rw [if_pos hc]⟩
    ·cases hx
  ·rename_i fs hu
   split at h
   ·cases h
   rw [hu] at hx ⊢
   simp only at hx ⊢
   split at hx
   case isFalse=>cases hx
   rename_i hlen
   rw [Option.map_eq_some_iff] at hx
   obtain ⟨xs,hxs,rfl⟩:=hx
   rw [cellsOf_sz hn,<- hl] at hlen
   obtain ⟨p1,p2,p3⟩:=plain_fields (fuel:=fuel) (fun t ks n h1 h2 h3=>plain_ty fuel d t ks n h1 h2 h3) fs.toList 0 ks h w base spare held cs xs hxs (by omega)
   refine ⟨by simpa using p1,p2,fun w' base' spare' held'=>?_⟩
   rw [if_pos (by rw [cellsOf_sz hn,<- hl,hlen]),p3];rfl
  ·rename_i len e hu
   split at h
   case h_2=>cases h
   rename_i ks0 m hk hm
   split at h
   case isFalse=>cases h
   rename_i hlm
   simp only [Option.some.injEq] at h
   subst h
   rw [hu] at hx ⊢
   simp only at hx ⊢
   split at hx
   case isFalse=>cases hx
   rename_i hlen
   rw [Option.map_eq_some_iff] at hx
   obtain ⟨xs,hxs,rfl⟩:=hx
   rw [cellsOf_sz hn,<- hl] at hlen
   rw [List.range_eq_range'] at hxs
   have hfl:((List.replicate len ks0).flatten).length=len * m:=by rw [List.length_flatten];simp [hlm]
   obtain ⟨p1,p2,p3⟩:=plain_elems hm hlm (plain_ty fuel d e ks0 m hk hm hlm) len 0 w base spare held cs xs hxs (by rw [hlen,hfl,Nat.zero_add])
   refine ⟨by simpa using p1,p2,fun w' base' spare' held'=>?_⟩
   rw [if_pos (by rw [cellsOf_sz hn,<- hl,hlen]),List.range_eq_range',p3];rfl
  ·cases h
end
theorem wf_i64 {n:Int} (h:(Lit.int .i64 n).wf=true):-9223372036854775808 <= n /\ n <= 9223372036854775807:=by simpa [Lit.wf,IntKind.min,IntKind.max,IntKind.signed,IntKind.bits] using h
end Go.Eng.K
end
section
namespace Go.Eng.K
open Go.Eng
theorem vr_ex (β:Emb):∀ v:Value,∃ a,VR β a v:=by
 have key:∀ (n:Nat) (v:Value),SizeOf.sizeOf v < n -> ∃ a,VR β a v:=by
  intro n
  induction n with
  | zero=>intro v h;omega
  | succ n ih=>
   intro v h
   have list:∀ l:List Value,(∀ x ∈ l,SizeOf.sizeOf x < n) -> ∃ bs,VRs β bs l:=by
    intro l
    induction l with
    | nil=>intro _;exact ⟨[],.nil⟩
    | cons x r ihl=>
     intro hx
     obtain ⟨a,ha⟩:=ih x (hx x (List.mem_cons_self ..))
     obtain ⟨bs,hs⟩:=ihl (fun y hy=>hx y (List.mem_cons_of_mem _ hy))
     exact ⟨a :: bs,.cons _ _ _ _ ha hs⟩
   by_cases ho:okCell v=true
   ·exact ⟨.chan none,.junk none v ho⟩
   ·match v,ho,h with
    | .agg ⟨l⟩,_,h=>
     obtain ⟨bs,hs⟩:=list l (fun x hx=>by
      have:=List.sizeOf_lt_of_mem hx
      simp only [Value.agg.sizeOf_spec,Array.mk.sizeOf_spec] at h
      omega)
     exact ⟨.agg ⟨bs⟩,.agg _ _ hs⟩
    | .tuple ⟨l⟩,_,h=>
     obtain ⟨bs,hs⟩:=list l (fun x hx=>by
      have:=List.sizeOf_lt_of_mem hx
      simp only [Value.tuple.sizeOf_spec,Array.mk.sizeOf_spec] at h
      omega)
     exact ⟨.tuple ⟨bs⟩,.tup _ _ hs⟩
 exact fun v=>key (SizeOf.sizeOf v+1) v (Nat.lt_succ_self _)
def mirE (W:World):Emb:=fun k=>if k < W.heap.size then some ⟨k,0,[]⟩ else none
open Classical in
noncomputable def absV (W:World) (v:Value):Value:=
 match v with
 | .slice (some a) len cap=>
  if len=0 then .slice (some ⟨0,0,some 1⟩) 0 0
  else if a.spot=none /\ a.block < W.heap.size then .slice (some a) len cap
  else Classical.choose (vr_ex (mirE W) (.slice (some a) len cap))
 | v=>if isBase v=true then v else Classical.choose (vr_ex (mirE W) v)
theorem absV_vr (W:World) (v:Value):VR (mirE W) (absV W v) v:=by
 unfold absV
 split
 ·rename_i a len cap
  split
  ·rename_i h;subst h;exact .sle _ _
  ·split
   ·rename_i h
    obtain ⟨b,off,s⟩:=a
    obtain ⟨h1,h2⟩:=h
    simp only at h1 h2
    subst h1
    exact VR.sl b off len cap ⟨b,0,[]⟩ (by unfold mirE;rw [if_pos h2])
   ·exact Classical.choose_spec (vr_ex (mirE W) _)
 ·split
  ·rename_i h;exact .base _ h
  ·exact Classical.choose_spec (vr_ex (mirE W) _)
theorem absV_base {W:World} {v:Value} (h:isBase v=true):absV W v=v:=by
 unfold absV
 split
 ·simp [isBase] at h
 ·rw [if_pos h]
theorem absV_map (W:World):∀ l:List Value,VRs (mirE W) (l.map (absV W)) l
 | [] => .nil
 | v :: r => .cons _ _ _ _ (absV_vr W v) (absV_map W r)
theorem absV_bases {W:World}:∀ {l:List Value},l.all isBase=true -> l.map (absV W)=l
 | [],_=>rfl
 | v :: r,h=>by
  simp only [List.all_cons,Bool.and_eq_true] at h
  rw [List.map_cons,absV_base h.1,absV_bases h.2]
noncomputable def mirB (W:World) (b:Nat):Option Blk:=
 match W.heap[b]? with
 | some (.cells c elem _)=>some ⟨elem,0,true,c.toList.map (absV W)⟩
 | _=>none
noncomputable def mirror (W:World):Heap:=(List.range W.heap.size).map fun b=>(b,mirB W b)
theorem hget_map {f:Nat -> Option Blk} {k:Nat}:∀ (l:List Nat),hget (l.map fun b=>(b,f b)) k=if k ∈ l then f k else none
 | []=>rfl
 | b :: r=>by
  simp only [List.map_cons,hget]
  by_cases e:b=k
  ·subst e;simp
  ·rw [if_neg e,hget_map r]
   simp [Ne.symm e]
theorem mir_get (W:World) (k:Nat):hget (mirror W) k=mirB W k:=by
 unfold mirror
 rw [hget_map]
 by_cases h:k < W.heap.size
 ·rw [if_pos (List.mem_range.2 h)]
 ·rw [if_neg (by simpa using h)]
  unfold mirB
  rw [Array.getElem?_eq_none (by omega)]
theorem mir_blk {W:World} {k:Nat} {blk:Blk} (h:hget (mirror W) k=some blk):k < W.heap.size /\ ∃ C fr,W.heap[k]?=some (.cells ⟨C⟩ blk.elem fr) /\ blk.sz=0 /\ blk.cells=C.map (absV W):=by
 rw [mir_get] at h
 unfold mirB at h
 split at h
 ·rename_i c elem fr hk
  cases h
  refine ⟨?_,c.toList,fr,hk,rfl,rfl⟩
  rcases Nat.lt_or_ge k W.heap.size with h | h
  ·exact h
  ·rw [Array.getElem?_eq_none h] at hk;cases hk
 ·cases h
theorem mir_wr {W:World} {k:Nat}:¬ wr (mirror W) k:=fun ⟨blk,h1,h2⟩=>by
 obtain ⟨_,C,fr,_,h3,_⟩:=mir_blk h1
 exact h2 h3
theorem mir_rel (W:World):Rel (mirE W) (mirror W) W:=by
 refine ⟨fun k blk hk=>?_,fun k k' L L' _ b=>absurd b mir_wr,fun k L h=>?_⟩
 ·obtain ⟨h1,C,fr,h2,h3,h4⟩:=mir_blk hk
  refine ⟨⟨k,0,[]⟩,C,fr,by unfold mirE;rw [if_pos h1],by simpa using h2,fun h=>absurd h3 h,by rw [h4];exact absV_map W C,by simp,fun _=>rfl⟩
 ·unfold mirE at h
  split at h
  ·rename_i hk;cases h;exact hk
  ·cases h
theorem mir_calls {P:Program} {f:Nat} {S:List Value -> Heap -> Nat -> Option Out} (hS:SpecOK P f S) {W:World} {aargs args:List Value} {v:Value} (h:S aargs (mirror W) W.heap.size=some (v,[],0))
  (ha:VRs (mirE W) aargs args) (hv:isBase v=true) :
  Calls P f ⟨args⟩ W fun e W'=>e = .returned v /\ W'.os=W.os /\ W'.output=W.output /\ ∀ b,b < W.heap.size -> W'.heap[b]?=W.heap[b]?:=by
 have h:=hS.ok aargs (mirror W) W.heap.size (v,[],0) h (mirE W) W args ha (mir_rel W) (fun k h1 h2=>by simp only at h2;omega)
  ⟨W.heap.size,fun k hk=>by
   rcases Nat.lt_or_ge k W.heap.size with h | h
   ·exact h
   ·exact absurd (by unfold mirE;rw [if_neg (by omega)]) hk⟩
 refine h.mono ?_
 rintro e W' ⟨β',v',he,hvr,hrel,hfr,_⟩
 exact ⟨by rw [he,hvr.base_left hv],hfr.os,hfr.out,fun b hb=>hfr.keep b hb (fun k L hk=>absurd hk mir_wr)⟩
theorem kept_of {W W':World} (h1:W'.os=W.os) (h2:W'.output=W.output) (h3:∀ b,b < W.heap.size -> W'.heap[b]?=W.heap[b]?):W.keptBut W' (fun _=>False):=by
 refine ⟨h1,h2,fun i hi=>?_⟩
 rw [h3 i hi]
 cases W.heap[i]? with
 | none=>rfl
 | some o=>
  cases o with
  | cells c t fr=>exact ⟨rfl,rfl,rfl,fun _ _=>rfl⟩
  | map es cl=>exact .inr ⟨rfl,rfl⟩
  | _=>rfl
section
variable {H:Type} {enc:TypeId × Value -> H} {P:Program}
theorem trodAll_old {W W':World} (hs:∀ b,b < W.heap.size -> W'.heap[b]?=W.heap[b]?) {base:Nat} {sp:Nat -> Bool} {held:Bool} :
  ∀ {ts:List TypeId} {vs:List Value} {ds:List (DataW H)} {ps:List MemPlace},DataW.TrodAll enc P W base sp held ts vs ds ps -> DataW.TrodAll enc P W' base sp held ts vs ds ps
 | [],[],[],_,h=>h
 | t :: ts,v :: vs,d :: ds,ps,⟨p,q,⟨n,h1⟩,h2,e⟩=>by
  have lt:=DataW.trod_lt n _ _ _ h1
  refine ⟨p,q,⟨n,DataW.trod_carry n _ _ _ h1 (fun x hx=>?_)⟩,trodAll_old hs h2,e⟩
  have hb:=lt x hx
  cases x with
  | cell b off=>simp only [MemPlace.block] at hb;simp only [World.sameAt,World.cell?,hs b hb]
  | map b=>simp only [MemPlace.block] at hb;simp only [World.sameAt,hs b hb]
 | [],[],_ :: _,_,h=>h.elim
 | [],_ :: _,_,_,h=>by cases h
 | _ :: _,[],_,_,h=>by cases h
 | _ :: _,_ :: _,[],_,h=>by cases h
theorem args_again {W W':World} (hl:laidOutB P=true) (hm:mapsRowed P=true) (hz:((List.range P.types.size).all fun t=>match P.underlying t with | some (.slice e)=>decide (0 < P.cellsOf e) | _=>true)=true)
  (hs:∀ b,b < W.heap.size -> W'.heap[b]?=W.heap[b]?) {ts:List TypeId} (ht:ts.all (fun t=>decide (t < P.types.size))=true) {vs:List Value} {ds:List (DataW H)} {ps:List MemPlace} (h:DataW.TrodAll enc P W 0 (fun _=>true) true ts vs ds ps) :
  DataW.TrodAll enc P W' 0 (fun b=>decide (b < W.heap.size)) true ts vs ds ps:=by
 refine DataW.TrodAll.respare (kids_rows hl hm) (slices_full_of P hz) (fun t h=>of_decide_eq_true (List.all_eq_true.1 ht t h)) (trodAll_old hs h) (fun p hp=>?_)
 exact decide_eq_true (DataW.TrodAll.lt h p hp)
theorem mir_at {W:World} {a:Addr} {n:Nat} {cs:List Value} (hn:0 < n) (h:W.cells? 0 a n=some cs) :
  a.spot=none /\ a.block < W.heap.size /\ ∃ blk,hget (mirror W) a.block=some blk /\ a.off+n <= blk.cells.length /\ (blk.cells.drop a.off).take n=cs.map (absV W):=by
 obtain ⟨_,hlen,hc⟩:=World.cells?_some h
 have h0:=hc 0 hn
 rw [List.getElem?_eq_getElem (by omega)] at h0
 have e0:a.add 0=a:=rfl
 rw [e0] at h0
 unfold World.cell? at h0
 split at h0
 case h_2=>cases h0
 rename_i c elem fr hk
 split at h0
 case isTrue=>cases h0
 rename_i hsp
 have hspot:a.spot=none:=by cases h:a.spot with | none=>rfl | some s=>rw [h] at hsp;simp at hsp
 have hlt:a.block < W.heap.size:=by
  rcases Nat.lt_or_ge a.block W.heap.size with h | h
  ·exact h
  ·rw [Array.getElem?_eq_none h] at hk;cases hk
 have cell:∀ i,i < n -> c.toList[a.off+i]?=cs[i]?:=fun i hi=>by
  have:=hc i hi
  rw [<- this]
  have ea:a.add i=⟨a.block,a.off+i,none⟩:=by
   unfold Addr.add
   split
   ·rename_i h0;subst h0;cases a;simp_all
   ·rfl
  rw [ea]
  simp only [World.cell?,hk]
  simp
 have hle:a.off+n <= c.toList.length:=by
  have:=cell (n - 1) (by omega)
  rw [List.getElem?_eq_getElem (by omega:n - 1 < cs.length)] at this
  have:=(List.getElem?_eq_some_iff.1 this).1
  omega
 refine ⟨hspot,hlt,⟨elem,0,true,c.toList.map (absV W)⟩,?_,by simpa using hle,?_⟩
 ·rw [mir_get];unfold mirB;rw [hk]
 ·refine List.ext_getElem? fun i=>?_
  rw [List.getElem?_take]
  by_cases hi:i < n
  ·rw [if_pos hi,List.getElem?_drop,List.getElem?_map,List.getElem?_map,cell i hi]
  ·rw [if_neg hi,List.getElem?_eq_none (by simp;omega)]
theorem many_ex {α:Type} {sz:Nat} {dec:List Value -> Option α}:∀ (l:Nat) (cs:List Value),(∀ i,i < l -> ∃ x,dec ((cs.drop (i * sz)).take sz)=some x) -> ∃ xs,many sz dec l cs=some xs
 | 0,cs,_=>⟨[],rfl⟩
 | l+1,cs,h=>by
  obtain ⟨x,hx⟩:=h 0 (by omega)
  simp only [Nat.zero_mul,List.drop_zero] at hx
  obtain ⟨xs,hxs⟩:=many_ex l (cs.drop sz) (fun i hi=>by
   obtain ⟨y,hy⟩:=h (i+1) (by omega)
   refine ⟨y,?_⟩
   rw [List.drop_drop,<- hy,Nat.succ_mul,Nat.add_comm (i * sz) sz])
  refine ⟨x :: xs,?_⟩
  unfold many
  simp only [hx,hxs]
theorem mir_list {W:World} {α:Type} {dec:List Value -> Option α} {t e:TypeId} {n fuel:Nat} {held:Bool} {sv:Value} {x:DataW H × List MemPlace} (ht:P.underlying t=some (.slice e)) (hsz:P.cellsOf e=n) (hn:0 < n)
  (h:DataW.trod enc P W 0 (fun _=>true) held fuel t [sv]=some x)
  (hdec:∀ (m:Nat) (cs:List Value) (y:DataW H × List MemPlace),DataW.trod enc P W 0 (fun _=>true) held m e cs=some y -> ∃ z,dec (cs.map (absV W))=some z) :
  ∃ xs,listAt n dec (mirror W) (absV W sv)=some xs /\ xs.length <= maxLen:=by
 rcases Go.Deep.open_slice ht h with ⟨h1,_⟩ | ⟨a,len,cap,m,k,D,Pl,h1,_,hl,hm,hmm,_,hx⟩
 ·simp only [List.cons.injEq,and_true] at h1
  subst h1
  exact ⟨[],by rw [absV_base rfl];rfl,by simp⟩
 ·simp only [List.cons.injEq,and_true] at h1
  subst h1
  simp only [if_true] at hmm
  subst hmm
  rw [hsz] at hx
  by_cases h0:len=0
  ·subst h0
   exact ⟨[],by unfold absV;simp only [if_true];rfl,by simp⟩
  ·obtain ⟨c0,hc0,_⟩:=hx 0 (by omega)
   rw [Nat.zero_mul] at hc0
   obtain ⟨s1,s2,blk,s3,_,_⟩:=mir_at hn hc0
   have ev:absV W (.slice (some a) len m) = .slice (some a) len m:=by unfold absV;simp only;rw [if_neg h0,if_pos ⟨s1,s2⟩]
   obtain ⟨b,off,sp⟩:=a
   replace s1:sp=none:=s1
   replace s3:hget (mirror W) b=some blk:=s3
   subst s1
   have cell:∀ i,i < len -> ∃ cs,off+i * n+n <= blk.cells.length /\ (blk.cells.drop (off+i * n)).take n=cs.map (absV W) /\ ∃ y,DataW.trod enc P W 0 (fun _=>true) held k e cs=some y:=fun i hi=>by
    obtain ⟨cs,hc,hy⟩:=hx i (by omega)
    obtain ⟨q1,q2,blk',q3,q4,q5⟩:=mir_at hn hc
    have ea:(⟨b,off,none⟩:Addr).add (i * n)=⟨b,off+i * n,none⟩:=add_none _ _ _
    rw [ea] at q3 q4 q5
    replace q3:hget (mirror W) b=some blk':=q3
    replace q4:off+i * n+n <= blk'.cells.length:=q4
    replace q5:(blk'.cells.drop (off+i * n)).take n=cs.map (absV W):=q5
    rw [s3] at q3;cases q3
    exact ⟨cs,q4,q5,_,hy⟩
   have hle:off+len * n <= blk.cells.length:=by
    obtain ⟨_,q,_⟩:=cell (len - 1) (by omega)
    obtain ⟨l',rfl⟩:∃ l',len=l'+1:=⟨len - 1,by omega⟩
    simp only [Nat.add_sub_cancel] at q
    rw [Nat.succ_mul];omega
   have la:lay n (mirror W) (.slice (some ⟨b,off,none⟩) len m)=some ((blk.cells.drop off).take (len * n)):=by
    obtain ⟨l',rfl⟩:∃ l',len=l'+1:=⟨len - 1,by omega⟩
    unfold lay
    simp only [s3]
    rw [if_pos ⟨hl,hle⟩]
   obtain ⟨xs,hxs⟩:=many_ex (sz:=n) (dec:=dec) len ((blk.cells.drop off).take (len * n)) (fun i hi=>by
    obtain ⟨cs,q1,q2,y,q3⟩:=cell i hi
    obtain ⟨z,hz⟩:=hdec k cs y q3
    refine ⟨z,?_⟩
    rw [List.drop_take,List.take_take,List.drop_drop]
    have:n <= len * n - i * n:=by rw [<- Nat.sub_mul];exact Nat.le_mul_of_pos_left _ (by omega)
    rw [Nat.min_eq_left this,q2]
    exact hz)
   refine ⟨xs,?_,?_⟩
   ·rw [ev]
    unfold listAt
    rw [la]
    exact hxs
   ·rw [(many_get hxs).1];omega
theorem kmatch_base:∀ {ks:List Ki} {cs:List Value},kmatch ks cs -> cs.all isBase=true
 | [],[],_=>rfl
 | .b :: ks,cs,h=>by
  match cs,h with
  | .bool _ :: r,h=>simp only [List.all_cons,isBase,Bool.true_and];exact kmatch_base (ks:=ks) h
 | .i k :: ks,cs,h=>by
  match cs,h with
  | .int _ _ :: r,h=>simp only [List.all_cons,isBase,Bool.true_and];exact kmatch_base (ks:=ks) h.2
 | .s :: ks,cs,h=>by
  match cs,h with
  | .string _ :: r,h=>simp only [List.all_cons,isBase,Bool.true_and];exact kmatch_base (ks:=ks) h.2
end
end Go.Eng.K
end
section
namespace Go.Eng
structure Pt where
 (s1:Bool) (l1:List UInt8) (s2:Bool) (l2:List UInt8) (s3:Bool) (l3:List UInt8) (s4:Bool) (l4:List UInt8)
deriving DecidableEq
namespace Pt
def cells (p:Pt):List Value:=[.bool p.s1,.string ⟨⟨p.l1⟩⟩,.bool p.s2,.string ⟨⟨p.l2⟩⟩,.bool p.s3,.string ⟨⟨p.l3⟩⟩,.bool p.s4,.string ⟨⟨p.l4⟩⟩]
def x (p:Pt):Int:=sv p.s1 p.l1
def y (p:Pt):Int:=sv p.s2 p.l2
def z (p:Pt):Int:=sv p.s3 p.l3
def w (p:Pt):Int:=sv p.s4 p.l4
def cmp (p q:Pt):Int:=cmp4 p.x p.y p.z p.w q.x q.y q.z q.w
def on (p q r:Pt):Prop:=flt p.x p.y p.z p.w q.x q.y q.z q.w r.x r.y r.z r.w
instance {p q r:Pt}:Decidable (on p q r):=by unfold on;infer_instance
def ok (p:Pt):Prop:=(p.l1.length <= 65536 /\ p.l2.length <= 65536 /\ p.l3.length <= 65536 /\ p.l4.length <= 65536) /\ 0 < p.w
instance {p:Pt}:Decidable p.ok:=by unfold ok;infer_instance
def hi (p q:Pt):Pt:=if 0 < cmp p q then p else q
end Pt
end Go.Eng
end
section
namespace Go.Eng
namespace Pt
def dflt:Pt:=⟨false,[],false,[],false,[],false,[]⟩
def sz (k:Nat) (p:Pt):Prop:=p.l1.length <= k /\ p.l2.length <= k /\ p.l3.length <= k /\ p.l4.length <= k
instance {k:Nat} {p:Pt}:Decidable (p.sz k):=by unfold sz;infer_instance
def c1 (p:Pt):List Value:=[.bool p.s1,.string ⟨⟨p.l1⟩⟩]
def c2 (p:Pt):List Value:=[.bool p.s2,.string ⟨⟨p.l2⟩⟩]
def c3 (p:Pt):List Value:=[.bool p.s3,.string ⟨⟨p.l3⟩⟩]
theorem g1 (p:Pt):p.cells.take 2=p.c1:=rfl
theorem g2 (p:Pt):(p.cells.drop 2).take 2=p.c2:=rfl
theorem g3 (p:Pt):(p.cells.drop 4).take 2=p.c3:=rfl
end Pt
def ptAt (l:List Pt) (i:Nat):Pt:=(l[i]?).getD Pt.dflt
def awx (a b:Pt):Int:=b.x * a.w - a.x * b.w
def awy (a b:Pt):Int:=b.y * a.w - a.y * b.w
def awz (a b:Pt):Int:=b.z * a.w - a.z * b.w
def lftZ (P a b x:Pt):Int:=
 0+P.x * (awy a b * awz a x - awz a b * awy a x)+P.y * (awz a b * awx a x - awx a b * awz a x)+P.z * (awx a b * awy a x - awy a b * awx a x)
def turnsP (P:Pt) (l:List Pt):Prop:=∀ i,i < l.length -> ∀ j,j < l.length -> j ≠ i -> j ≠ (i+1) % l.length -> 0 < lftZ P (ptAt l i) (ptAt l ((i+1) % l.length)) (ptAt l j)
instance {P:Pt} {l:List Pt}:Decidable (turnsP P l):=by unfold turnsP;infer_instance
end Go.Eng
end
section
namespace Go.Eng.K
open Go.Eng
section
variable {H:Type} {enc:TypeId × Value -> H} {P:Program}
theorem trod_struct {w:World} {base:Nat} {spare:Nat -> Bool} {held:Bool} {fuel:Nat} {t:TypeId} {cs:List Value} {x:DataW H × List MemPlace} {fs:Array Field} (hu:P.underlying t=some (.struct fs))
  (h:DataW.trod enc P w base spare held fuel t cs=some x) :
  cs.length=P.cellsOf t /\ ∃ fuel' xs,fs.toList.mapM (fun f=>DataW.trod enc P w base spare held fuel' f.type ((cs.drop f.offset).take (P.cellsOf f.type)))=some xs /\ x=(.agg (xs.map (·.1)),xs.flatMap (·.2)):=by
 cases fuel with
 | zero=>simp [DataW.trod] at h
 | succ fuel=>
  unfold DataW.trod at h
  rw [hu] at h
  simp only at h
  split at h
  case isFalse=>cases h
  rename_i hl
  rw [Option.map_eq_some_iff] at h
  obtain ⟨xs,hx,rfl⟩:=h
  exact ⟨hl,fuel,xs,hx,rfl⟩
def sumL:List Nat -> Nat
 | []=>0
 | x :: r=>x+sumL r
variable (bulk:DataW H -> Nat) (b1:∀ b:List UInt8,b.length <= bulk (.lit (.string b))) (b2:∀ ps:List (DataW H),sumL (ps.map bulk) <= bulk (.agg ps))
include b1 b2 in
include b1 b2 in
end
end Go.Eng.K
end
section
namespace Go.Eng.K
open Go.Eng Go.WideShapes
section
variable {H:Type} {enc:TypeId × Value -> H} {P:Program}
theorem km_q {cs:List Value} (h:kmatch [.b,.s,.s] cs):∃ q:RQ,cs=q.cells:=by
 match cs,h with
 | [.bool s,.string ⟨⟨n⟩⟩,.string ⟨⟨d⟩⟩],_=>exact ⟨⟨s,n,d⟩,rfl⟩
theorem km_i {k:IntKind} {cs:List Value} (h:kmatch [.i k] cs):∃ n,cs=[.int k n]:=by
 match cs,h with
 | [.int k' n],h=>obtain ⟨⟨rfl,_⟩,_⟩:=h;exact ⟨n,rfl⟩
theorem rats_trod {W:World} {fuel:Nat} {tv tq:TypeId} {sv:Value} {x:DataW H × List MemPlace} (hv:P.underlying tv=some (.slice tq)) (hq:kiTy P 20 tq=some [.b,.s,.s]) (hs:szOf P tq=some 3)
  (h:DataW.trod enc P W 0 (fun _=>true) true fuel tv [sv]=some x):∃ l,listAt 3 dec1 (mirror W) (absV W sv)=some l /\ l.length <= maxLen:=
 mir_list (dec:=dec1) (n:=3) hv (cellsOf_sz hs) (by omega) h (fun m cs y hy=>by
  obtain ⟨km,_,_⟩:=plain_ty m 20 tq _ 3 hq hs rfl W 0 _ true _ y hy
  obtain ⟨q,eq⟩:=km_q km
  rw [absV_bases (kmatch_base km),eq]
  exact ⟨q,rfl⟩)
theorem five {l:List Value} (h:l.length=5):∃ a b c d e,l=[a,b,c,d,e]:=by
 match l,h with
 | [a,b,c,d,e],_=>exact ⟨a,b,c,d,e,rfl⟩
theorem open_eqs {W:World} {base:Nat} {t te tc tq ti:TypeId} {n1 n2 n3 g1 g2 g3 q1 q2 q3:String} {b1 b2 b3 c1 c2 c3:_} {v:Value} {d:DataW H} {ps:List MemPlace} (ht:P.underlying t=some (.slice te))
  (hu:P.underlying te=some (.struct #[⟨n1,tc,0,b1,g1,q1,c1⟩,⟨n2,tq,1,b2,g2,q2,c2⟩,⟨n3,ti,4,b3,g3,q3,c3⟩])) (hce:P.cellsOf te=5) (hv:P.underlying tc=some (.slice tq)) (hcc:P.cellsOf tc=1)
  (hq:kiTy P 20 tq=some [.b,.s,.s]) (hs:szOf P tq=some 3) (hi:kiTy P 20 ti=some [.i .i64]) (hsi:szOf P ti=some 1)
  (hval:Value.okWide P W .any base t v) (h:DataW.Trod enc P W 0 (fun _=>true) true t v d ps):∃ l,decRows (mirror W) (absV W v)=some l /\ l.length <= maxLen:=by
 obtain ⟨a,len,cap,rfl⟩:=okWide_slice ht hval
 obtain ⟨fuel,h⟩:=h
 unfold decRows
 refine mir_list (dec:=decEq (mirror W)) (n:=5) ht hce (by omega) h (fun m cs y hy=>?_)
 obtain ⟨hl,fuel',xs,hx,_⟩:=trod_struct hu hy
 rw [hce] at hl
 simp only [List.mapM_cons,List.mapM_nil,Option.bind_eq_bind,Option.bind_eq_some_iff,Option.pure_def,Option.some.injEq] at hx
 obtain ⟨y1,hy1,ys,⟨y2,hy2,zs,⟨y3,hy3,_⟩,_⟩,_⟩:=hx
 have e3:P.cellsOf tq=3:=cellsOf_sz hs
 have e1:P.cellsOf ti=1:=cellsOf_sz hsi
 rw [hcc] at hy1
 rw [e3] at hy2
 rw [e1] at hy3
 obtain ⟨k0,k1,k2,k3,k4,rfl⟩:=five hl
 have hy1:DataW.trod enc P W 0 (fun _=>true) true fuel' tc [k0]=some y1:=hy1
 have hy2:DataW.trod enc P W 0 (fun _=>true) true fuel' tq [k1,k2,k3]=some y2:=hy2
 have hy3:DataW.trod enc P W 0 (fun _=>true) true fuel' ti [k4]=some y3:=hy3
 obtain ⟨l,hl1,_⟩:=rats_trod hv hq hs hy1
 obtain ⟨km,_,_⟩:=plain_ty fuel' 20 tq _ 3 hq hs rfl W 0 _ true _ y2 hy2
 obtain ⟨q,eq⟩:=km_q km
 obtain ⟨ki,_,_⟩:=plain_ty fuel' 20 ti _ 1 hi hsi rfl W 0 _ true _ y3 hy3
 obtain ⟨n,en⟩:=km_i ki
 simp only [RQ.cells,List.cons.injEq,and_true] at eq en
 obtain ⟨rfl,rfl,rfl⟩:=eq
 subst en
 refine ⟨⟨l,q,n⟩,?_⟩
 simp only [List.map_cons,List.map_nil]
 rw [absV_base (v:=.bool q.s) rfl,absV_base (v:=.string ⟨⟨q.n⟩⟩) rfl,absV_base (v:=.string ⟨⟨q.d⟩⟩) rfl,absV_base (v:=.int .i64 n) rfl]
 exact decEq_of (e:=⟨l,q,n⟩) hl1
end
end Go.Eng.K
end
section
namespace Go.Eng
open Go
end Go.Eng
namespace Go.Eng.K
open Go.Eng Go.WideShapes
section
variable {H:Type} {enc:TypeId × Value -> H} {P:Program}
end
end Go.Eng.K
end
section
set_option maxRecDepth 20000
namespace Go.Eng
open Go Go.Proofs Go.IntWalk
theorem NmS.ext {hp hp':Heap} {N M n i:Nat} {l:List EqR} {sl:Value} (S:NmS hp N M n l i sl) (he:ExtL M hp hp'):NmS hp' N M n l i sl:=by
 rcases S with x | ⟨z,kL,x,ρ,e,a1,a2,a3,a4⟩
 ·exact .inl x
 ·refine .inr ⟨z,kL,x,ρ,e,by rw [he _ a3];exact a1,a2,a3,fun hn=>⟨fun j hj=>?_,(a4 hn).2⟩⟩
  obtain ⟨⟨y,g⟩,r⟩:=(a4 hn).1 j hj
  exact ⟨⟨y,by rw [he _ r.2.1];exact g⟩,r⟩
def decBo:List Value -> Option Bool
 | [.bool b]=>some b
 | _=>none
theorem decBo_eq {cs:List Value} {b:Bool} (e:decBo cs=some b):cs=[.bool b]:=by
 unfold decBo at e
 split at e
 ·cases e;rfl
 ·cases e
def boC (l:List Bool):List Value:=l.map .bool
theorem boC_len (l:List Bool):(boC l).length=l.length:=by unfold boC;rw [List.length_map]
theorem boC_set (l:List Bool) (i:Nat) (b:Bool):(boC l).set i (.bool b)=boC (l.set i b):=by unfold boC;rw [List.map_set]
theorem boC_list {h:Heap} {k e s c m:Nat} {x:Bool} {L:List Bool} (hb:hget h k=some ⟨e,s,x,boC L⟩) (hm:m=L.length) (hc:m <= c):listAt 1 decBo h (.slice (some ⟨k,0,none⟩) m c)=some L:=by
 subst hm
 have ll:=boC_len L
 have la:lay 1 h (.slice (some ⟨k,0,none⟩) L.length c)=some (boC L):=by
  unfold lay
  cases e:L.length with
  | zero=>
   simp only [hb]
   rw [if_pos ⟨by omega,by omega⟩,List.drop_zero,Nat.mul_one,List.take_of_length_le (by omega)]
  | succ n=>
   simp only [hb]
   rw [if_pos ⟨by omega,by omega⟩,List.drop_zero,Nat.mul_one,List.take_of_length_le (by omega)]
 unfold listAt
 rw [la,Option.bind_some]
 refine many_some (by rfl) fun i z hz=>?_
 have g:(boC L)[i]?=some (.bool z):=by unfold boC;rw [List.getElem?_map,hz];rfl
 obtain ⟨hlt,ge⟩:=List.getElem?_eq_some_iff.1 g
 rw [Nat.mul_one,List.drop_eq_getElem_cons hlt,ge]
 rfl
def kpL (bs:List Bool):Nat -> List Int
 | 0=>[]
 | k+1=>kpL bs k ++ (if bs[k]?=some true then [] else [(k:Int)])
theorem kpL_mem {bs:List Bool}:∀ {k:Nat} {p:Int},p ∈ kpL bs k ↔ ∃ j:Nat,p=(j:Int) /\ j < k /\ bs[j]? ≠ some true
 | 0,p=>by
  constructor
  ·intro h;cases h
  ·rintro ⟨j,_,h,_⟩;omega
 | k+1,p=>by
  unfold kpL
  rw [List.mem_append,kpL_mem]
  constructor
  ·rintro (⟨j,a,b,c⟩ | h)
   ·exact ⟨j,a,by omega,c⟩
   ·split at h
    ·cases h
    ·rename_i hk
     rw [List.mem_singleton] at h
     exact ⟨k,h,by omega,hk⟩
  ·rintro ⟨j,a,b,c⟩
   by_cases e:j=k
   ·subst e
    rw [if_neg c,List.mem_singleton]
    exact .inr a
   ·exact .inl ⟨j,a,by omega,c⟩
theorem kpL_len (bs:List Bool):∀ k,(kpL bs k).length <= k
 | 0=>Nat.le_refl _
 | k+1=>by
  have:=kpL_len bs k
  unfold kpL
  rw [List.length_append]
  split
  ·simp;omega
  ·simp;omega
theorem kpL_sort (bs:List Bool):∀ k,(kpL bs k).Pairwise (· < ·)
 | 0=>List.Pairwise.nil
 | k+1=>by
  unfold kpL
  split
  ·rw [List.append_nil];exact kpL_sort bs k
  ·rw [List.pairwise_append]
   refine ⟨kpL_sort bs k,List.pairwise_singleton _ _,fun a ha b hb=>?_⟩
   rw [List.mem_singleton] at hb
   obtain ⟨j,h1,h2,_⟩:=kpL_mem.1 ha
   omega
def spBut5:List Value -> Heap -> Option NewL
 | [sl,bl],h=>match lay 5 h sl,listAt 1 decBo h bl with
  | some cs,some bs=>if cs.all (selfOK h)=true /\ cs.length=bs.length * 5 /\ bs.length <= 1000 then some (thNL cs (kpL bs bs.length)) else none
  | _,_=>none
 | _,_=>none
def c23:ICode:=
 (.seq (.reg [qq 4 (.mv (.c (.slice none 0 0)))]) (.seq (.reg [qq 5 (.mv (.c (.slice none 0 0)))]) (.seq (.seq (.reg [qq 6 (.mv (ci 0))]) (.block 0 (.loop (.seq (.seq (.reg [qq 7 (.mv (.t 6)),qq 8 (.mv (.t 0)),qq 9 (.lensl (.t 8)),qq 10 (.bin .lss (.t 7) (.t 9))]) (.cond (.t 10) .skip (.exit 0))) (.seq (.block 1 (.seq (.reg [qq 13 (.mv (.t 1)),qq 14 (.mv (.t 6)),qq 15 (.ixsl 1 (.t 13) (.t 14)),qq 16 (.load false 1 (.t 15)),qq 17 (.un .not (.t 16))]) (.cond (.t 17) (.reg [qq 18 (.mv (.t 5)),qq 19 (.mv (.t 0)),qq 20 (.mv (.t 6)),qq 21 (.ixsl 5 (.t 19) (.t 20)),qq 22 (.load true 5 (.t 21)),qq 23 (.bslice 40 5 1 [(.slice none 0 0),(.bool false),e0,e0,(.int .i64 0)] [(0,5,(.t 22))]),qq 24 (.app 40 5 72 (.t 18) (.t 23)),qq 5 (.mv (.t 24))]) .skip))) (.reg [qq 11 (.mv (.t 6)),qq 12 (.bin .add (.t 11) (ci 1)),qq 6 (.mv (.t 12))])))))) (.seq (.reg [qq 25 (.mv (.t 5)),qq 4 (.mv (.t 25))]) .ret))))
theorem tr23:trFun Tryz.prog 23=some ⟨26,[.t 4],c23⟩:=by kernel_rfl
set_option maxHeartbeats 8000000 in
theorem ok_but5:SpecOK Tryz.prog 23 (nwL spBut5):=by
 refine newL_run (env_nil _) mixed tr23 ?_ ?_
 ·intro args h h' r hl e
  unfold spBut5 at e ⊢
  split at e
  ·split at e
   ·rename_i cs ps h1 h2
    split at e
    ·rename_i hc
     simp only [lay_mono hl h1,listAt_mono hl (fun _ _ e=>e) h2]
     rw [if_pos ⟨selfsOK_mono hl hc.1,hc.2⟩];exact e
    ·cases e
   ·cases e
  ·cases e
 intro args h N r hG hN
 unfold spBut5 at hG
 split at hG
 case h_2=>cases hG
 rename_i sl bl
 split at hG
 case h_2=>cases hG
 rename_i cs bs h1 h2
 split at hG
 case isFalse=>cases hG
 rename_i hs
 obtain ⟨hself,hcl,hbs⟩:=hs
 cases hG
 obtain ⟨a',c',rfl⟩:=listAt_sl h2
 obtain ⟨ar,lr,cr,rfl,hlr⟩:=lay_len h1
 have elr:lr=bs.length:=by omega
 subst elr
 have hinK:∀ k,k <= bs.length -> (kpL bs k).all (inR cs)=true:=fun k hk=>by
  rw [List.all_eq_true]
  intro p hp
  obtain ⟨j,rfl,h3,_⟩:=kpL_mem.1 hp
  unfold inR
  rw [Bool.and_eq_true,decide_eq_true_eq,decide_eq_true_eq,Int.toNat_natCast]
  omega
 refine ⟨?_,by simp,?_⟩
 ·unfold thNL
  split
  ·exact ⟨fun β σ σ' _ _ => .base _ rfl,fun β σ σ' _ _ i hi=>absurd hi (Nat.not_lt_zero i)⟩
  ·exact ⟨fun β σ σ' b1 _=>VR.sl (σ 0) 0 _ _ ⟨σ' 0,0,[]⟩ (b1 0 Nat.one_pos),fun β σ σ' _ b2 i hi=>selfsOK_vrs b2 (thoC_all hself)⟩
 simp only [c23,G0,Nat.reduceAdd]
 simp only [↓R0,R1,simprocAttr,-Int.reduceAbs]
 refine lp_parts (fun q tm hp nx=>∃ (i M:Nat) (o:Value),q+i=bs.length /\ tmget tm 0 = .slice ar bs.length cr /\ tmget tm 1 = .slice a' bs.length c' /\ tmget tm 6 = .int .i64 i /\ tmget tm 5=o /\ OutE hp N M o (kpL bs i).length (thoC cs (kpL bs i)) /\ (∀ q,q < N -> hget hp q=hget h q) /\ N <= M /\ nx=M+0) ?_ bs.length
  ⟨0,N,.slice none 0 0,by omega,?_,?_,?_,?_,.inl ⟨rfl,rfl⟩,?_,Nat.le_refl _,rfl⟩
 rotate_left
 all_goals first | (simp only [↓R0,R1,simprocAttr,-Int.reduceAbs];done) | (simp only [↓R0,R1,simprocAttr,-Int.reduceAbs];rfl) | skip
 ·exact fun q _=>rfl
 rintro q tm hp nx ⟨i,M,o,hq,t0,t1,t6,t5,hO,hh,hM,hnx⟩
 rw [hnx]
 clear hnx nx
 have wi:IntKind.i64.wrap ((i:Int)+1)=((i+1:Nat):Int):=by rw [i64_in _ (by omega)];omega
 have inS:=hinK i (by omega)
 by_cases ci:i < bs.length
 case neg=>
  have ei:i=bs.length:=by omega
  subst ei
  have ci':((bs.length:Int) < (bs.length:Int))=False:=eq_false (by omega)
  unfold thNL
  rcases hO with ⟨z,rfl⟩ | ⟨z,kk,x,rfl,h3,h4,h5⟩
  ·have z0:kpL bs bs.length=[]:=List.eq_nil_of_length_eq_zero z
   rw [if_pos z0]
   simp only [↓R0,R1,simprocAttr,-Int.reduceAbs,t0,t1,t6,t5,ci',FinL,isEnd,resL,res1]
   refine ⟨fun i=>i,_,fun i hi=>absurd hi (Nat.not_lt_zero i),fun i j hi=>absurd hi (Nat.not_lt_zero i),rfl,rfl,fun i hi=>absurd hi (Nat.not_lt_zero i),hh⟩
  ·have z0:¬ kpL bs bs.length=[]:=fun e=>by rw [e] at z;exact absurd z (Nat.not_lt_zero _)
   rw [if_neg z0]
   simp only [↓R0,R1,simprocAttr,-Int.reduceAbs,t0,t1,t6,t5,ci',FinL,isEnd,resL,res1]
   refine ⟨fun _=>kk,_,fun i hi=>(by omega:N <= kk),fun i j (hi:i < 1) (hj:j < 1) _=>by omega,rfl,rfl,fun i hi=>⟨x,h3⟩,hh⟩
 have ci':((i:Int) < (bs.length:Int))=True:=eq_true (by omega)
 have sml:=kpL_len bs i
 have sms:kpL bs (i+1)=kpL bs i ++ (if bs[i]?=some true then [] else [(i:Int)]):=rfl
 have HL:hle h hp:=fun q b e=>by rw [hh q (hN _ _ e)];exact e
 obtain ⟨p,pt⟩:∃ p,bs[i]?=some p:=⟨_,List.getElem?_eq_getElem ci⟩
 obtain ⟨kp,op,bp,ea,hbp,_,_,hat⟩:=listAt_get h2 (by omega)
 obtain ⟨q1,q2⟩:=hat i p pt
 have q2:=cell1_of (decBo_eq q2)
 rw [Nat.mul_one] at q2
 subst ea
 have hbb:=HL _ _ hbp
 have nkp:=hN _ _ hbp
 rw [pt] at sms
 cases p with
 | true=>
  rw [if_pos rfl,List.append_nil] at sms
  simp only [↓R0,R1,simprocAttr,-Int.reduceAbs,t0,t1,t6,t5,ci,ci',hbb,q1,q2,wi,Bool.not_true,Bool.not_false]
  refine ⟨q - 1,by omega,i+1,M,o,by omega,rfl,rfl,by rw [sms];exact hO,hh,hM,rfl⟩
 | false=>
 rw [if_neg (by simp)] at sms
 have inp:inR cs i=true:=by
  have:=hinK (i+1) (by omega)
  rw [List.all_eq_true] at this
  exact this _ (by rw [sms];simp)
 have len5:=eqC_len inp
 obtain ⟨kr,orr,br,ea,hbr,hlc,hle,ecs⟩:=lay_pos h1 (by omega)
 subst ea
 have hbr':=HL _ _ hbr
 have nkr:=hN _ _ hbr
 have m5:orr+i * 5+5 <= br.cells.length:=by omega
 have ec:(br.cells.drop (orr+i * 5)).take 5=eqC cs i:=by
  unfold eqC
  rw [Int.toNat_natCast,ecs,List.drop_take,List.take_take,Nat.min_eq_left (by omega),List.drop_drop]
 have fok:(eqC cs i).all okCell=true:=eqC_all (selfsOK_cells hself)
 have ths:thoC cs (kpL bs (i+1))=thoC cs (kpL bs i) ++ eqC cs i:=by
  rw [sms]
  unfold thoC
  rw [List.flatMap_append]
  simp
 have lms:(kpL bs (i+1)).length=(kpL bs i).length+1:=by rw [sms,List.length_append];rfl
 have thl:=thoC_len inS
 generalize eSL:(kpL bs i).length=SL at *
 generalize eqC cs i=C5 at *
 generalize thoC cs (kpL bs i)=CT at *
 generalize eT1:thoC cs (kpL bs (i+1))=CT1 at *
 have tk5:C5.take 5=C5:=List.take_of_length_le (by omega)
 have st5:setR [.slice none 0 0,.bool false,.string ⟨⟨[]⟩⟩,.string ⟨⟨[]⟩⟩,.int .i64 0] 0 C5=C5:=by
  match C5,len5 with
  | [x1,x2,x3,x4,x5],_=>rfl
 have M0:∀ j,(M+j=kr)=False:=fun j=>eq_false (by omega)
 have M1:∀ j,(M+j=kp)=False:=fun j=>eq_false (by omega)
 rcases hO with ⟨z0,rfl⟩ | ⟨z0,kk,x,rfl,h3,h4,h5⟩
 ·have hCT:CT=[]:=List.eq_nil_of_length_eq_zero (by omega)
  subst hCT
  rw [List.nil_append] at ths
  simp only [↓R0,R1,simprocAttr,-Int.reduceAbs,t0,t1,t6,t5,ci,ci',hbb,q1,q2,hbr',m5,ec,len5,fok,st5,tk5,setR_length,wi,M0,M1,vcells,fillI,Bool.not_false]
  refine ⟨q - 1,by omega,i+1,M+2,.slice (some ⟨M+1,0,none⟩) 1 1,by omega,rfl,rfl,.inr ⟨by omega,M+1,false,by rw [lms,z0],?_,by omega,by omega⟩,fun q hq=>?_,by omega,rfl⟩
  ·rw [eT1,ths]
   simp only [↓R0,R1,simprocAttr,-Int.reduceAbs]
  ·have nb:∀ d,(M+d=q)=False:=fun d=>eq_false (by omega)
   simp only [↓R0,R1,simprocAttr,-Int.reduceAbs,nb]
   exact hh q hq
 ·have v1:∀ d,(M+d=kk)=False:=fun d=>eq_false (by omega)
  have v2:∀ d,(kk=M+d)=False:=fun d=>eq_false (by omega)
  have nler:(SL+1 <= SL)=False:=eq_false (by omega)
  have ovr:((SL+1) * 72 <= 140737488355328)=True:=eq_true (by omega)
  simp only [↓R0,R1,simprocAttr,-Int.reduceAbs,t0,t1,t6,t5,ci,ci',hbb,q1,q2,hbr',m5,ec,len5,fok,st5,tk5,setR_length,wi,M0,M1,h3,thl,nler,ovr,v1,v2,vcells,fillI,Bool.not_false]
  refine ⟨q - 1,by omega,i+1,M+2,.slice (some ⟨M+1,0,none⟩) (SL+1) (SL+1),by omega,rfl,rfl,.inr ⟨by omega,M+1,false,by rw [lms],?_,by omega,by omega⟩,fun q hq=>?_,by omega,rfl⟩
  ·rw [eT1,ths]
   simp only [↓R0,R1,simprocAttr,-Int.reduceAbs,v1,v2]
  ·have nb:∀ d,(M+d=q)=False:=fun d=>eq_false (by omega)
   have nq:(kk=q)=False:=eq_false (by omega)
   simp only [↓R0,R1,simprocAttr,-Int.reduceAbs,nb,nq]
   exact hh q hq
theorem but_call {h:Heap} {b:Nat} {l:List EqR} {sl bl:Value} {cs:List Value} {bs:List Bool} (R:RowsS h sl l cs) (hp:listAt 1 decBo h bl=some bs) (hbl:bs.length=l.length) (hl:l.length <= 1000) (hb:∀ k blk,hget h k=some blk -> k < b) :
  ∃ a D mm cs',nwL spBut5 [sl,bl] h b=some (.slice a (kpL bs bs.length).length (kpL bs bs.length).length,D,mm) /\ (∀ q,q < b -> hget (D ++ h) q=hget h q) /\ RowsS (D ++ h) (.slice a (kpL bs bs.length).length (kpL bs bs.length).length) (selL l (kpL bs bs.length)) cs':=by
 have hcl:=R.len.1
 have inS:(kpL bs bs.length).all (inR cs)=true:=by
  rw [List.all_eq_true]
  intro p hp
  obtain ⟨j,rfl,h3,_⟩:=kpL_mem.1 hp
  exact R.inR (by omega)
 have e:spBut5 [sl,bl] h=some (thNL cs (kpL bs bs.length)):=by
  unfold spBut5
  simp only [R.lay,hp]
  exact if_pos ⟨R.self,by omega,by omega⟩
 unfold nwL
 rw [e]
 unfold thNL
 by_cases z:kpL bs bs.length=[]
 ·rw [if_pos z,z]
  exact ⟨none,[],0,[],rfl,fun _ _=>rfl,rows_nil _⟩
 ·rw [if_neg z]
  refine ⟨some ⟨b+0,0,none⟩,_,1,thoC cs (kpL bs bs.length),rfl,fun q hq=>?_,?_⟩
  ·have:(b+0=q)=False:=eq_false (by omega)
   simp only [newH,List.cons_append,List.nil_append,hget,this,if_false]
  ·refine R.those (el:=40) (sz:=5) (x:=false) inS (fun k blk hk=>?_) (Nat.le_refl _) ?_
   ·have:=hb k blk hk
    have:(b+0=k)=False:=eq_false (by omega)
    simp only [newH,List.cons_append,List.nil_append,hget,this,if_false]
    exact hk
   ·simp only [newH,List.cons_append,List.nil_append,hget,if_true]
theorem imp_hom {n:Nat} {l:List EqR} {e:EqR} (h:Imp n l e) (con:Cns n l) (X:Row) (hX:∀ d ∈ l,lin n (qsV d.coef) X+d.rhs.v * X n=0):lin n (qsV e.coef) X+e.rhs.v * X n=0:=by
 obtain ⟨Y,hY⟩:=con
 have e0:=h Y hY
 have e1:=h (fun j=>X j+(1+X n) * Y j) fun d hd=>by
  have a:=hX d hd
  have b:=hY d hd
  unfold Sat at b ⊢
  rw [lin_addv,b];grind
 unfold Sat at e0 e1
 rw [lin_addv,e0] at e1
 grind
theorem EqsOK.sub {n:Nat} {l l':List EqR} (H:EqsOK n l) (hl:l'.length <= l.length) (h:∀ e ∈ l',e ∈ l):EqsOK n l' where
 n8:=H.n8
 len:=by have:=H.len;omega
 co:=fun e he=>H.co e (h e he)
theorem sorted_eq:∀ {L L':List Int},L.Pairwise (· < ·) -> L'.Pairwise (· < ·) -> (∀ x,x ∈ L ↔ x ∈ L') -> L=L'
 | [],[],_,_,_=>rfl
 | [],y :: L',_,_,h=>absurd ((h y).2 (by simp)) (by simp)
 | x :: L,[],_,_,h=>absurd ((h x).1 (by simp)) (by simp)
 | x :: L,y :: L',h1,h2,h=>by
  rw [List.pairwise_cons] at h1 h2
  have exy:x=y:=by
   rcases List.mem_cons.1 ((h x).1 (by simp)) with e | e
   ·exact e
   ·rcases List.mem_cons.1 ((h y).2 (by simp)) with e' | e'
    ·exact e'.symm
    ·have:=h2.1 x e
     have:=h1.1 y e'
     omega
  subst exy
  rw [sorted_eq h1.2 h2.2 fun z=>?_]
  constructor
  ·intro hz
   rcases List.mem_cons.1 ((h z).1 (List.mem_cons_of_mem _ hz)) with e | e
   ·have:=h1.1 z hz;omega
   ·exact e
  ·intro hz
   rcases List.mem_cons.1 ((h z).2 (List.mem_cons_of_mem _ hz)) with e | e
   ·have:=h2.1 z hz;omega
   ·exact e
def mkR (L:List Int) (m:Nat):List Bool:=(List.range m).map fun (k:Nat)=>decide ((k:Int) ∉ L)
theorem mkR_len (L:List Int) (m:Nat):(mkR L m).length=m:=by unfold mkR;rw [List.length_map,List.length_range]
theorem mkR_at {L:List Int} {m j:Nat} (h:j < m):(mkR L m)[j]?=some (decide ((j:Int) ∉ L)):=by
 unfold mkR
 rw [List.getElem?_map,List.getElem?_range h];rfl
theorem mkR_del {L:List Int} {m i:Nat} (h:i < m):(mkR L m).set i true=mkR (delL i L) m:=by
 refine List.ext_getElem? fun j=>?_
 by_cases hj:j < m
 ·rw [mkR_at hj,List.getElem?_set]
  by_cases e:i=j
  ·subst e
   rw [if_pos rfl,if_pos (by rw [mkR_len];exact h),decide_eq_true (show (i:Int) ∉ delL i L from fun x=>(delL_mem.1 x).2 rfl)]
  ·rw [if_neg e,mkR_at hj]
   congr 1
   rw [decide_eq_decide,delL_mem]
   constructor
   ·intro x y;exact x y.1
   ·intro x y;exact x ⟨y,by omega⟩
 ·rw [List.getElem?_eq_none (by rw [List.length_set,mkR_len];omega),List.getElem?_eq_none (by rw [mkR_len];omega)]
theorem mkR_back {L:List Int} {m i:Nat} (h:i < m) (hi:(i:Int) ∈ L):(mkR (delL i L) m).set i false=mkR L m:=by
 refine List.ext_getElem? fun j=>?_
 by_cases hj:j < m
 ·rw [mkR_at hj,List.getElem?_set]
  by_cases e:i=j
  ·subst e
   rw [if_pos rfl,if_pos (by rw [mkR_len];exact h),decide_eq_false (show ¬ (i:Int) ∉ L from fun x=>x hi)]
  ·rw [if_neg e,mkR_at hj]
   congr 1
   rw [decide_eq_decide,delL_mem]
   constructor
   ·intro x y;exact x ⟨y,by omega⟩
   ·intro x y;exact x y.1
 ·rw [List.getElem?_eq_none (by rw [List.length_set,mkR_len];omega),List.getElem?_eq_none (by rw [mkR_len];omega)]
theorem kp_mkR {L:List Int} {m:Nat} (hs:L.Pairwise (· < ·)) (hm:∀ p ∈ L,0 <= p /\ p.toNat < m):kpL (mkR L m) m=L:=by
 refine sorted_eq (kpL_sort _ _) hs fun x=>?_
 rw [kpL_mem]
 constructor
 ·rintro ⟨j,rfl,hj,h⟩
  rw [mkR_at hj] at h
  exact Classical.byContradiction fun y=>h (by rw [decide_eq_true y])
 ·intro hx
  have:=hm x hx
  refine ⟨x.toNat,by omega,this.2,?_⟩
  rw [mkR_at this.2,decide_eq_false (show ¬ (x.toNat:Int) ∉ L from fun y=>y (by rw [Int.toNat_of_nonneg this.1];exact hx))]
  simp
theorem minS_in (n:Int) (l:List EqR):∀ {i j:Nat},i <= j -> j < l.length -> (j:Int) ∈ (minS n l i).1
 | 0,j,_,hj=>List.mem_map.2 ⟨j,List.mem_range.2 hj,rfl⟩
 | i+1,j,hi,hj=>by
  have ih:=minS_in n l (i:=i) (j:=j) (by omega) hj
  show (j:Int) ∈ (if togL n (selL l (delL i (minS n l i).1))=true then minS n l i else (delL i (minS n l i).1,_)).1
  split
  ·exact ih
  ·exact delL_mem.2 ⟨ih,by omega⟩
def leL (n:Int) (l:List EqR):Nat -> List Nat
 | 0=>[]
 | i+1=>if togL n (selL l (delL i (minS n l i).1))=true then leL n l i ++ [i] else leL n l i
theorem leL_len (n:Int) (l:List EqR):∀ i,(leL n l i).length <= i
 | 0=>Nat.le_refl _
 | i+1=>by
  have:=leL_len n l i
  unfold leL
  split
  ·rw [List.length_append,List.length_singleton];omega
  ·omega
theorem leL_mem {n:Int} {l:List EqR}:∀ {i x:Nat},i <= l.length -> (x ∈ leL n l i ↔ x < i /\ (x:Int) ∈ (minS n l i).1)
 | 0,x,_=>by
  constructor
  ·intro h;cases h
  ·rintro ⟨h,_⟩;omega
 | i+1,x,hi=>by
  have ih:=leL_mem (n:=n) (l:=l) (i:=i) (x:=x) (by omega)
  show x ∈ (if togL n (selL l (delL i (minS n l i).1))=true then leL n l i ++ [i] else leL n l i) ↔ x < i+1 /\ (x:Int) ∈ (if togL n (selL l (delL i (minS n l i).1))=true then minS n l i else (delL i (minS n l i).1,_)).1
  split
  ·rw [List.mem_append,ih,List.mem_singleton]
   constructor
   ·rintro (⟨a,b⟩ | rfl)
    ·exact ⟨by omega,b⟩
    ·exact ⟨by omega,minS_in n l (Nat.le_refl _) (by omega)⟩
   ·rintro ⟨a,b⟩
    by_cases e:x=i
    ·exact .inr e
    ·exact .inl ⟨by omega,b⟩
  ·rw [ih,delL_mem]
   constructor
   ·rintro ⟨a,b⟩
    exact ⟨by omega,b,by omega⟩
   ·rintro ⟨a,b,c⟩
    exact ⟨by omega,b⟩
theorem leL_sort (n:Int) (l:List EqR):∀ i,((leL n l i).map fun (i:Nat)=>((i:Nat):Int)).Pairwise (· < ·) /\ ∀ x ∈ leL n l i,x < i
 | 0=>⟨List.Pairwise.nil,fun x h=>by cases h⟩
 | i+1=>by
  obtain ⟨a,b⟩:=leL_sort n l i
  unfold leL
  split
  ·refine ⟨?_,fun x hx=>?_⟩
   ·rw [List.map_append,List.pairwise_append]
    refine ⟨a,List.pairwise_singleton _ _,fun x hx y hy=>?_⟩
    obtain ⟨z,hz,rfl⟩:=List.mem_map.1 hx
    simp only [List.map_cons,List.map_nil,List.mem_singleton] at hy
    subst hy
    have:=b z hz
    omega
   ·rw [List.mem_append,List.mem_singleton] at hx
    rcases hx with h | h
    ·have:=b x h;omega
    ·omega
  ·exact ⟨a,fun x hx=>by have:=b x hx;omega⟩
theorem leL_minF (n:Int) (l:List EqR):(leL n l l.length).map (fun (i:Nat)=>((i:Nat):Int))=minF n l:=by
 refine sorted_eq (leL_sort n l _).1 (minS_sorted n l _) fun x=>?_
 constructor
 ·intro hx
  obtain ⟨y,hy,rfl⟩:=List.mem_map.1 hx
  exact ((leL_mem (Nat.le_refl _)).1 hy).2
 ·intro hx
  have:=minS_mem n l _ x hx
  refine List.mem_map.2 ⟨x.toNat,(leL_mem (Nat.le_refl _)).2 ⟨this.2,?_⟩,by omega⟩
  rw [Int.toNat_of_nonneg this.1];exact hx
def leF (n:Int) (l:List EqR):List Nat:=if togL n l=true then [] else leL n l l.length
noncomputable instance {n:Nat} {l:List EqR}:Decidable (EqsR n l):=Classical.propDecidable _
noncomputable def spLeast:List Value -> Heap -> Option NewL
 | [.int .i64 n,sl],h=>match lay 5 h sl,decRows h sl with
  | some cs,some l=>if cs.all (selfOK h)=true /\ 0 <= n /\ EqsR n.toNat l then some (intNL (leF n l)) else none
  | _,_=>none
 | _,_=>none
theorem least_of {h:Heap} {n:Nat} {l:List EqR} {sl:Value} {cs:List Value} (R:RowsS h sl l cs) (H:EqsR n l):spLeast [.int .i64 n,sl] h=some (intNL (leF n l)):=by
 unfold spLeast
 simp only [R.lay,R.rows]
 exact if_pos ⟨R.self,by omega,by rw [Int.toNat_natCast];exact H⟩
def c13:ICode:=
 (.seq (.reg [qq 4 (.mv (.c (.slice none 0 0)))]) (.seq (.seq (.reg [qq 8 (.mv (.t 0)),qq 9 (.mv (.t 1)),qq 10 (.call 18 [(.t 8),(.t 9)]),qq 11 (.un .not (.t 10))]) (.cond (.t 11) (.seq (.reg [qq 4 (.mv (.c (.slice none 0 0)))]) .ret) .skip)) (.seq (.reg [qq 12 (.mv (.t 1)),qq 13 (.lensl (.t 12)),qq 14 (.mkslice 4 1 1 [(.bool false)] (.t 13) (.t 13)),qq 5 (.mv (.t 14))]) (.seq (.reg [qq 6 (.mv (.c (.slice none 0 0)))]) (.seq (.seq (.reg [qq 7 (.mv (ci 0))]) (.block 0 (.loop (.seq (.seq (.reg [qq 15 (.mv (.t 7)),qq 16 (.mv (.t 1)),qq 17 (.lensl (.t 16)),qq 18 (.bin .lss (.t 15) (.t 17))]) (.cond (.t 18) .skip (.exit 0))) (.seq (.block 1 (.seq (.reg [qq 21 (.mv (.t 5)),qq 22 (.mv (.t 7)),qq 23 (.ixsl 1 (.t 21) (.t 22)),qn (.store 1 (.t 23) (.c (.bool true)))]) (.seq (.reg [qq 24 (.mv (.t 0)),qq 25 (.mv (.t 1)),qq 26 (.mv (.t 5)),qq 27 (.call 23 [(.t 25),(.t 26)]),qq 28 (.call 18 [(.t 24),(.t 27)]),qq 29 (.un .not (.t 28))]) (.cond (.t 29) (.seq (.reg [qq 30 (.mv (.t 5)),qq 31 (.mv (.t 7)),qq 32 (.ixsl 1 (.t 30) (.t 31)),qn (.store 1 (.t 32) (.c (.bool false)))]) (.reg [qq 33 (.mv (.t 6)),qq 34 (.mv (.t 7)),qq 35 (.bslice 3 1 1 [(.int .i64 0)] [(0,1,(.t 34))]),qq 36 (.app 3 1 8 (.t 33) (.t 35)),qq 6 (.mv (.t 36))])) .skip)))) (.reg [qq 19 (.mv (.t 7)),qq 20 (.bin .add (.t 19) (ci 1)),qq 7 (.mv (.t 20))])))))) (.seq (.reg [qq 37 (.mv (.t 6)),qq 4 (.mv (.t 37))]) .ret))))))
theorem tr13:trFun Tryz.prog 13=some ⟨38,[.t 4],c13⟩:=by kernel_rfl
set_option maxHeartbeats 16000000 in
theorem ok_least:SpecOK Tryz.prog 13 (nwL spLeast):=by
 refine newL_run (env_cons ok_clash5 (env_cons ok_but5 (env_nil _))) mixed tr13 ?_ ?_
 ·intro args h h' r hl e
  unfold spLeast at e ⊢
  split at e
  ·split at e
   ·rename_i cs l h1 h2
    split at e
    ·rename_i hc
     simp only [lay_mono hl h1,decRows_mono hl h2]
     rw [if_pos ⟨selfsOK_mono hl hc.1,hc.2⟩];exact e
    ·cases e
   ·cases e
  ·cases e
 intro args h N r hG hN
 unfold spLeast at hG
 split at hG
 case h_2=>cases hG
 rename_i n sl
 split at hG
 case h_2=>cases hG
 rename_i cs l h1 h2
 split at hG
 case isFalse=>cases hG
 rename_i hs
 obtain ⟨hself,hn0,H⟩:=hs
 cases hG
 obtain ⟨n,rfl⟩:=Int.eq_ofNat_of_zero_le hn0
 rw [Int.toNat_natCast] at H
 have R:RowsS h sl l cs:=⟨h1,h2,hself⟩
 obtain ⟨hcl,a,c,rfl⟩:=R.len
 have hlen:=H.len
 refine ⟨intNL_par _ _,by simp,?_⟩
 have kC:=clash5_of R.rows (H.sys (by omega) fun e h=>h)
 unfold leF
 cases tA:togL n l with
 | true=>
  rw [tA] at kC
  rw [if_pos rfl]
  unfold intNL
  rw [if_pos rfl]
  simp only [c13,G0,Nat.reduceAdd]
  simp only [↓R0,R1,simprocAttr,-Int.reduceAbs,rdS,kC,Bool.not_true,Bool.not_false,FinL,isEnd,resL,res1]
  refine ⟨fun i=>i,_,fun i hi=>absurd hi (Nat.not_lt_zero i),fun i j hi=>absurd hi (Nat.not_lt_zero i),rfl,rfl,fun i hi=>absurd hi (Nat.not_lt_zero i),fun k hk=>?_⟩
  first | rfl | trivial
 | false=>
 rw [tA] at kC
 rw [if_neg (by simp)]
 have fE:(List.replicate l.length [Value.bool false]).flatten=boC (mkR (minS n l 0).1 l.length):=by
  have e:mkR (minS n l 0).1 l.length=List.replicate l.length false:=by
   refine List.ext_getElem? fun j=>?_
   by_cases h:j < l.length
   ·rw [mkR_at h,List.getElem?_replicate,if_pos h,decide_eq_false (show ¬ (j:Int) ∉ (minS n l 0).1 from fun x=>x (minS_in n l (Nat.zero_le _) h))]
   ·rw [List.getElem?_eq_none (by rw [mkR_len];omega),List.getElem?_eq_none (by rw [List.length_replicate];omega)]
  rw [e]
  unfold boC
  rw [List.map_replicate]
  induction l.length with
  | zero=>rfl
  | succ m ih=>rw [List.replicate_succ,List.flatten_cons,ih,List.replicate_succ];rfl
 have mz:(0:Int) <= (l.length:Int):=by omega
 have mb:(1 * (l.length:Int) <= 281474976710656 /\ (l.length:Int) <= 9223372036854775807)=True:=eq_true (by omega)
 simp only [c13,G0,Nat.reduceAdd]
 simp only [↓R0,R1,simprocAttr,-Int.reduceAbs,rdS,kC,fE,mz,mb,if_true,Bool.not_true,Bool.not_false]
 refine lp_parts (fun q tm hp nx=>∃ (i M:Nat) (o:Value),q+i=l.length /\ tmget tm 0 = .int .i64 n /\ tmget tm 1 = .slice a l.length c /\ tmget tm 5 = .slice (some ⟨N+0,0,none⟩) l.length l.length /\ tmget tm 7 = .int .i64 i /\ tmget tm 6=o /\ OutI hp (N+1) M o (leL n l i) /\ (∃ x,hget hp (N+0)=some ⟨4,1,x,boC (mkR (minS n l i).1 l.length)⟩) /\ (∀ k blk,hget hp k=some blk -> k < M) /\ (∀ q,q < N -> hget hp q=hget h q) /\ N+1 <= M /\ nx=M+0) ?_ l.length
  ⟨0,N+1,.slice none 0 0,by omega,?_,?_,?_,?_,rfl,.inl ⟨rfl,rfl⟩,⟨false,?_⟩,?_,?_,Nat.le_refl _,rfl⟩
 rotate_left
 all_goals first | (simp only [↓R0,R1,simprocAttr,-Int.reduceAbs];done) | (simp only [↓R0,R1,simprocAttr,-Int.reduceAbs];rfl) | skip
 ·intro k blk hk
  by_cases e:N+0=k
  ·omega
  ·simp only [hget] at hk
   rw [if_neg e] at hk
   have:=hN k blk hk;omega
 ·intro q hq
  have nb:∀ d,(N+d=q)=False:=fun d=>eq_false (by omega)
  simp only [↓R0,R1,simprocAttr,-Int.reduceAbs,nb]
 rintro q tm hp nx ⟨i,M,o,hq,t0,t1,t5,t7,t6,hO,⟨x,gM⟩,bM,hh,hM,hnx⟩
 rw [hnx]
 clear hnx nx
 have wi:IntKind.i64.wrap ((i:Int)+1)=((i+1:Nat):Int):=by rw [i64_in _ (by omega)];omega
 by_cases ci:i < l.length
 case neg=>
  have ei:i=l.length:=by omega
  subst ei
  have ci':((l.length:Int) < (l.length:Int))=False:=eq_false (by omega)
  unfold intNL
  rcases hO with ⟨z,rfl⟩ | ⟨z,kk,y,rfl,h3,h4,h5⟩
  ·rw [if_pos z]
   simp only [↓R0,R1,simprocAttr,-Int.reduceAbs,t0,t1,t5,t7,t6,ci',FinL,isEnd,resL,res1]
   refine ⟨fun i=>i,_,fun i hi=>absurd hi (Nat.not_lt_zero i),fun i j hi=>absurd hi (Nat.not_lt_zero i),rfl,rfl,fun i hi=>absurd hi (Nat.not_lt_zero i),hh⟩
  ·rw [if_neg z]
   simp only [↓R0,R1,simprocAttr,-Int.reduceAbs,t0,t1,t5,t7,t6,ci',FinL,isEnd,resL,res1]
   refine ⟨fun _=>kk,_,fun i hi=>(by omega:N <= kk),fun i j (hi:i < 1) (hj:j < 1) _=>by omega,rfl,rfl,fun i hi=>⟨y,h3⟩,hh⟩
 have ci':((i:Int) < (l.length:Int))=True:=eq_true (by omega)
 obtain ⟨cur,ecur⟩:∃ x,(minS n l i).1=x:=⟨_,rfl⟩
 have inC:=minS_in n l (Nat.le_refl i) ci
 have memC:=minS_mem n l i
 have srtC:=minS_sorted n l i
 rw [ecur] at gM inC memC srtC
 have memD:∀ p ∈ delL i cur,0 <= p /\ p.toNat < l.length:=fun p hp=>memC p (delL_mem.1 hp).1
 have srtD:(delL i cur).Pairwise (· < ·):=by unfold delL;exact srtC.filter _
 have bl:=boC_len (mkR cur l.length)
 have bl2:=boC_len (mkR (delL i cur) l.length)
 rw [mkR_len] at bl bl2
 have bs:(boC (mkR cur l.length)).set i (.bool true)=boC (mkR (delL i cur) l.length):=by rw [boC_set,mkR_del ci]
 have bs2:(boC (mkR (delL i cur) l.length)).set i (.bool false)=boC (mkR cur l.length):=by rw [boC_set,mkR_back ci inC]
 have cl3:i+1 <= l.length:=by omega
 obtain ⟨H1,eH1⟩:∃ z:Heap,z=(N+0,some ⟨4,1,x,boC (mkR (delL i cur) l.length)⟩) :: hp:=⟨_,rfl⟩
 have g1:hget H1 (N+0)=some ⟨4,1,x,boC (mkR (delL i cur) l.length)⟩:=by rw [eH1];exact if_pos rfl
 have o1:∀ q,q ≠ N+0 -> hget H1 q=hget hp q:=fun q hq=>by
  rw [eH1]
  simp only [hget]
  rw [if_neg (fun e=>hq e.symm)]
 have b1:∀ k blk,hget H1 k=some blk -> k < M+0:=fun k blk hk=>by
  by_cases e:k=N+0
  ·omega
  ·rw [o1 k e] at hk
   exact bM k blk hk
 have l1:hle h H1:=fun k b hk=>by
  have:=hN k b hk
  rw [o1 k (by omega),hh k this];exact hk
 have bll:=boC_list (m:=l.length) (c:=l.length) g1 (by rw [mkR_len]) (Nat.le_refl _)
 obtain ⟨aB,DB,dB,csB,kB,oB,RB0⟩:=but_call (b:=M+0) (R.mono l1) bll (by rw [mkR_len]) (by omega) b1
 have bB:=nwL_bnd kB b1
 rw [mkR_len,kp_mkR srtD memD] at kB RB0
 obtain ⟨M_B,e_B⟩:∃ M',M'=M+0+dB:=⟨_,rfl⟩
 rw [<- e_B] at bB
 generalize eHC:DB ++ H1=H_B at *
 have ac_B:∀ (d:Nat) (tm:List (Nat × Value)) (V:Value) (K:St -> Prop),@aft (some d) (some (V,DB,dB)) ⟨(⟨tm,(N+0,some ⟨4,1,x,boC (mkR (delL i cur) l.length)⟩) :: hp,M+0⟩,K)⟩=K ⟨(d,V) :: tm,H_B,M_B+0⟩:=fun _ _ _ _=>by rw [<- eHC,e_B,eH1];exact propext Iff.rfl
 rw [eH1] at kB
 have gB:hget H_B (N+0)=some ⟨4,1,x,boC (mkR (delL i cur) l.length)⟩:=by rw [oB _ (by omega)];exact g1
 have selm:∀ e ∈ selL l (delL i cur),e ∈ l:=selL_mem memD
 have dl:(delL i cur).length <= l.length:=by
  have a1:=delL_len i cur
  have a2:=minS_len n l i
  rw [ecur] at a2
  omega
 have kD:=clash5_of RB0.rows (H.sys (by unfold selL;rw [List.length_map];omega) selm)
 have les:leL n l (i+1)=if togL n (selL l (delL i cur))=true then leL n l i ++ [i] else leL n l i:=by rw [<- ecur];rfl
 have mss:(minS n l (i+1)).1=if togL n (selL l (delL i cur))=true then cur else delL i cur:=by
  rw [<- ecur]
  show (if togL n (selL l (delL i (minS n l i).1))=true then minS n l i else _).1=_
  split <;> rfl
 have lel:=leL_len n l i
 have NB:∀ d,(M_B+d=N+0)=False:=fun d=>eq_false (by omega)
 have NB2:∀ d,(N+0=M_B+d)=False:=fun d=>eq_false (by omega)
 generalize eBC:boC (mkR cur l.length)=BC at *
 generalize eBD:boC (mkR (delL i cur) l.length)=BD at *
 cases tg:togL n (selL l (delL i cur)) with
 | false=>
  rw [tg] at kD
  rw [if_neg (by rw [tg];simp)] at les mss
  simp only [↓R0,R1,simprocAttr,-Int.reduceAbs,rdS,t0,t1,t5,t7,t6,ci,ci',cl3,gM,bl,bs,kB,ac_B,kD,wi,Nat.zero_add,Bool.not_true,Bool.not_false]
  refine ⟨q - 1,by omega,i+1,M_B,o,by omega,rfl,rfl,?_,⟨x,?_⟩,bB,fun q hq=>?_,by omega,rfl⟩
  ·rw [les]
   rcases hO with ⟨z,rfl⟩ | ⟨z,kk,y,rfl,h3,h4,h5⟩
   ·exact .inl ⟨z,rfl⟩
   ·exact .inr ⟨z,kk,y,rfl,by rw [oB kk (by omega),o1 kk (by omega)];exact h3,h4,by omega⟩
  ·rw [mss,eBD];exact gB
  ·rw [oB q (by omega),o1 q (by omega)];exact hh q hq
 | true=>
  rw [tg] at kD
  rw [if_pos tg] at les mss
  generalize leL n l i=out at *
  rcases hO with ⟨z,rfl⟩ | ⟨z,kk,y,rfl,h3,h4,h5⟩
  ·simp only [↓R0,R1,simprocAttr,-Int.reduceAbs,rdS,t0,t1,t5,t7,t6,ci,ci',cl3,gM,bl,bs,kB,ac_B,kD,gB,bl2,bs2,NB,NB2,wi,Nat.zero_add,Bool.not_true,Bool.not_false]
   refine ⟨q - 1,by omega,i+1,M_B+2,.slice (some ⟨M_B+1,0,none⟩) 1 1,by omega,rfl,rfl,.inr ⟨by rw [les];simp,M_B+1,false,by rw [les,z];rfl,?_,by omega,by omega⟩,⟨x,?_⟩,fun k blk hk=>?_,fun q hq=>?_,by omega,rfl⟩
   ·rw [les,z]
    simp only [↓R0,R1,simprocAttr,-Int.reduceAbs]
    rfl
   ·rw [mss,eBC]
    try simp only [↓R0,R1,simprocAttr,-Int.reduceAbs,NB,NB2]
   ·by_cases e:k < M_B
    ·omega
    ·by_cases e1:M_B+1=k
     ·omega
     ·by_cases e2:M_B+0=k
      ·omega
      ·by_cases e3:N+0=k
       ·omega
       ·rw [if_neg e1,if_neg e2,if_neg e3] at hk
        have:=bB k blk hk
        omega
   ·have nb:∀ d,(M_B+d=q)=False:=fun d=>eq_false (by omega)
    have nc:(N+0=q)=False:=eq_false (by omega)
    try simp only [↓R0,R1,simprocAttr,-Int.reduceAbs,nb,nc]
    rw [oB q (by omega),o1 q (by omega)];exact hh q hq
  ·have gk:hget H_B kk=some ⟨3,1,y,intC out⟩:=by rw [oB kk (by omega),o1 kk (by omega)];exact h3
   have v1:∀ d,(M_B+d=kk)=False:=fun d=>eq_false (by omega)
   have v2:∀ d,(kk=M_B+d)=False:=fun d=>eq_false (by omega)
   have v3:(N+0=kk)=False:=eq_false (by omega)
   have v4:(kk=N+0)=False:=eq_false (by omega)
   have lI:(intC out).length=out.length:=by unfold intC;rw [List.length_map]
   have aI:intC out ++ [.int .i64 (i:Nat)]=intC (out ++ [i]):=by unfold intC;rw [List.map_append];rfl
   have nler:(out.length+1 <= out.length)=False:=eq_false (by omega)
   have ovr:((out.length+1) * 8 <= 140737488355328)=True:=eq_true (by omega)
   generalize intC out=IC0 at *
   generalize eIC:intC (out ++ [i])=IC1 at *
   simp only [↓R0,R1,simprocAttr,-Int.reduceAbs,rdS,t0,t1,t5,t7,t6,ci,ci',cl3,gM,bl,bs,kB,ac_B,kD,gB,gk,bl2,bs2,NB,NB2,v1,v2,v3,v4,lI,aI,nler,ovr,wi,Nat.zero_add,Bool.not_true,Bool.not_false]
   refine ⟨q - 1,by omega,i+1,M_B+2,.slice (some ⟨M_B+1,0,none⟩) (out.length+1) (out.length+1),by omega,rfl,rfl,.inr ⟨by rw [les];simp,M_B+1,false,by rw [les];simp,?_,by omega,by omega⟩,⟨x,?_⟩,fun k blk hk=>?_,fun q hq=>?_,by omega,rfl⟩
   ·rw [les,eIC]
    simp only [↓R0,R1,simprocAttr,-Int.reduceAbs,v1,v2,v3,v4]
   ·rw [mss,eBC]
    try simp only [↓R0,R1,simprocAttr,-Int.reduceAbs,NB,NB2,v1,v2,v3,v4]
   ·by_cases e:k < M_B
    ·omega
    ·by_cases e1:M_B+1=k
     ·omega
     ·by_cases e2:M_B+0=k
      ·omega
      ·by_cases e3:N+0=k
       ·omega
       ·by_cases e4:kk=k
        ·omega
        ·first | rw [if_neg e1,if_neg e4,if_neg e2,if_neg e3] at hk | rw [if_neg e1,if_neg e2,if_neg e3] at hk
         have:=bB k blk hk
         omega
   ·have nb:∀ d,(M_B+d=q)=False:=fun d=>eq_false (by omega)
    have nc:(N+0=q)=False:=eq_false (by omega)
    have nq:(kk=q)=False:=eq_false (by omega)
    try simp only [↓R0,R1,simprocAttr,-Int.reduceAbs,nb,nc,nq]
    rw [oB q (by omega),o1 q (by omega)];exact hh q hq
end Go.Eng
end
