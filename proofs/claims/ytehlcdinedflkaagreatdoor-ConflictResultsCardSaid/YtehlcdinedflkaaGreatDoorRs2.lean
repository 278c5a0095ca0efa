/-
  A part of the proof: the machine, the contracts of the functions and the plain laws, merged from smaller texts.
-/
import Derived.Test.YtehlcdinedflkaaGreatDoorRs1
import Derived.IntWalk
import Derived.Test.YtehlcdinedflkaaGreatDoorProg
import Derived.KernelRfl
set_option linter.unusedVariables false
set_option linter.unusedSimpArgs false
set_option linter.unusedSectionVars false
section
namespace Go.Eng
abbrev KP:=Inhabited (St × (St -> Prop))
abbrev KD:=Inhabited (Log × St × (Log -> St -> Prop))
abbrev KL:=Inhabited (Env × ICode × (IExit -> St -> Prop))
section
variable {E:Env} {Q:IExit -> St -> Prop} {K:St -> Prop} {s:St}
theorem x_skip:wpI E .skip Q s=Q .normal s:=propext Iff.rfl
theorem x_ret:wpI E .ret Q s=Q .ret s:=propext Iff.rfl
theorem x_seq {a b:ICode}:wpI E (.seq a b) Q s=wpI E a (thenQ (wpI E b Q) Q) s:=propext Iff.rfl
theorem x_block {id:Nat} {a:ICode}:wpI E (.block id a) Q s=wpI E a (blockQ id Q) s:=propext Iff.rfl
theorem x_exit {id:Nat}:wpI E (.exit id) Q s=Q (.exit id) s:=propext Iff.rfl
theorem x_reg {ops:List ROp}:wpI E (.reg ops) Q s=wpR E (Q .normal) ops s:=propext Iff.rfl
theorem x_dreg {ops:List DOp}:wpI E (.dreg ops) Q s=wpD E (Q .normal) ops 0 [] s:=propext Iff.rfl
theorem x_fail:wpI E .fail Q s=False:=propext Iff.rfl
theorem x_then1 {next:St -> Prop}:thenQ next Q .normal s=next s:=propext Iff.rfl
theorem x_then2 {next:St -> Prop} {id:Nat}:thenQ next Q (.exit id) s=Q (.exit id) s:=propext Iff.rfl
theorem x_then3 {next:St -> Prop}:thenQ next Q .ret s=Q .ret s:=propext Iff.rfl
theorem x_blk1 {id:Nat}:blockQ id Q .normal s=Q .normal s:=propext Iff.rfl
theorem x_blk2 {id:Nat}:blockQ id Q (.exit id) s=Q .normal s:=by simp [blockQ]
theorem x_blk3 {id:Nat}:blockQ id Q .ret s=Q .ret s:=propext Iff.rfl
theorem x_blk4 {id id':Nat}:blockQ id Q (.exit id') s=if id'=id then Q .normal s else Q (.exit id') s:=propext Iff.rfl
def LP (s:St) [k:KL]:Prop:=wpI k.default.1 (.loop k.default.2.1) k.default.2.2 s
theorem x_loop {a:ICode}:wpI E (.loop a) Q s=@LP s ⟨(E,a,Q)⟩:=propext Iff.rfl
def cd (v:Value) [yes:Inhabited Prop] [no:Inhabited Prop]:Prop:=
 match v with
 | .bool t=>(t=true -> yes.default) /\ (t=false -> no.default)
 | _=>False
theorem x_cond {c:Opd} {a b:ICode} {tm:List (Nat × Value)} {hp:Heap} {nx:Nat}:wpI E (.cond c a b) Q ⟨tm,hp,nx⟩=@cd (ev tm c) ⟨wpI E a Q ⟨tm,hp,nx⟩⟩ ⟨wpI E b Q ⟨tm,hp,nx⟩⟩:=by
 simp only [wpI,cd]
 cases ev tm c <;> rfl
theorem cd_true {yes no:Prop}:@cd (.bool true) ⟨yes⟩ ⟨no⟩=yes:=by simp [cd]
theorem cd_false {yes no:Prop}:@cd (.bool false) ⟨yes⟩ ⟨no⟩=no:=by simp [cd]
theorem cd_case {b:Bool} {yes no:Prop} (h1:b=true -> yes) (h2:b=false -> no):@cd (.bool b) ⟨yes⟩ ⟨no⟩:=⟨h1,h2⟩
def gd (v:Value) (want:Bool) [yes:Inhabited Prop] [no:Inhabited Prop]:Prop:=
 match v with
 | .bool b=>(b=want -> yes.default) /\ (b ≠ want -> no.default)
 | .chan _=>False
 | _=>no.default
theorem gd_true_true {yes no:Prop}:@gd (.bool true) true ⟨yes⟩ ⟨no⟩=yes:=by simp [gd]
theorem gd_true_false {yes no:Prop}:@gd (.bool true) false ⟨yes⟩ ⟨no⟩=no:=by simp [gd]
theorem gd_false_true {yes no:Prop}:@gd (.bool false) true ⟨yes⟩ ⟨no⟩=no:=by simp [gd]
theorem gd_false_false {yes no:Prop}:@gd (.bool false) false ⟨yes⟩ ⟨no⟩=yes:=by simp [gd]
theorem gd_undef {want:Bool} {yes no:Prop}:@gd undef want ⟨yes⟩ ⟨no⟩=no:=propext Iff.rfl
theorem gd_case {b want:Bool} {yes no:Prop} (h1:b=true -> @gd (.bool true) want ⟨yes⟩ ⟨no⟩) (h2:b=false -> @gd (.bool false) want ⟨yes⟩ ⟨no⟩):@gd (.bool b) want ⟨yes⟩ ⟨no⟩:=by
 cases b
 ·exact h2 rfl
 ·exact h1 rfl
def aft (dst:Option Nat) (out:Option Out) [k:KP]:Prop:=after dst k.default.1 k.default.2 out
theorem r_nil:wpR E K [] s=K s:=propext Iff.rfl
theorem r_plain {dst:Option Nat} {op:IOp} {r:List ROp} {tm:List (Nat × Value)} {hp:Heap} {nx:Nat}:wpR E K (⟨dst,none,op⟩ :: r) ⟨tm,hp,nx⟩=@aft dst (istep E (ev tm) hp nx op) ⟨(⟨tm,hp,nx⟩,wpR E K r)⟩:=propext Iff.rfl
theorem r_guard {dst:Option Nat} {t:Nat} {want:Bool} {op:IOp} {r:List ROp} {tm:List (Nat × Value)} {hp:Heap} {nx:Nat}:wpR E K (⟨dst,some (t,want),op⟩ :: r) ⟨tm,hp,nx⟩ =
  @gd (tmget tm t) want ⟨@aft dst (istep E (ev tm) hp nx op) ⟨(⟨tm,hp,nx⟩,wpR E K r)⟩⟩ ⟨wpR E K r ⟨putT dst undef tm,hp,nx⟩⟩:=by
 simp only [wpR,guarded,gd,aft]
 cases tmget tm t <;> rfl
variable {tm:List (Nat × Value)} {hp:Heap} {N k d j:Nat} {v:Value} {x y z:Nat × Option Blk} {δ:Heap} {m:Nat}
theorem a_pure:@aft (some d) (some (v,[],0)) ⟨(⟨tm,hp,N⟩,K)⟩=K ⟨(d,v) :: tm,hp,N⟩:=propext Iff.rfl
theorem a_pure0:@aft none (some (v,[],0)) ⟨(⟨tm,hp,N⟩,K)⟩=K ⟨tm,hp,N⟩:=propext Iff.rfl
theorem a_store:@aft none (some (v,[x],0)) ⟨(⟨tm,hp,N⟩,K)⟩=K ⟨tm,x :: hp,N⟩:=propext Iff.rfl
theorem a_new:@aft (some d) (some (v,[x],1)) ⟨(⟨tm,hp,N+k⟩,K)⟩=K ⟨(d,v) :: tm,x :: hp,N+(k+1)⟩:=propext Iff.rfl
theorem a_upd:@aft (some d) (some (v,[x],0)) ⟨(⟨tm,hp,N⟩,K)⟩=K ⟨(d,v) :: tm,x :: hp,N⟩:=propext Iff.rfl
theorem a_new2:@aft (some d) (some (v,[x,y],1)) ⟨(⟨tm,hp,N+k⟩,K)⟩=K ⟨(d,v) :: tm,x :: y :: hp,N+(k+1)⟩:=propext Iff.rfl
theorem put_some:putT (some d) v tm=(d,v) :: tm:=rfl
theorem put_none:putT none v tm=tm:=rfl
def aftD (dst:Option Nat) (call:Bool) (j:Nat) (out:Option Out) [k:KD]:Prop:=
 match out with
 | some (v,δ,m)=>(call=true -> freshOnly δ k.default.2.1.nx m) /\ k.default.2.2 ((j,δ) :: k.default.1) ⟨putT dst v k.default.2.1.tm,δ ++ k.default.2.1.hp,k.default.2.1.nx+m⟩
 | none=>False
variable {log:Log} {KK:Log -> St -> Prop} {um:List Nat} {op:IOp} {dst:Option Nat}
theorem d_nil:wpD E K [] j log s=K s:=propext Iff.rfl
theorem d_plain {r:List DOp}:wpD E K (⟨dst,none,um,op⟩ :: r) j log ⟨tm,hp,N⟩=@aftD dst (isCall op) j (istep E (ev tm) (maskH um log ++ hp) N op) ⟨(rdL j (ev tm) op log,⟨tm,hp,N⟩,wpD E K r (j+1))⟩:=by
 simp only [wpD,guarded]
 cases istep E (ev tm) (maskH um log ++ hp) N op <;> rfl
theorem d_guard {t:Nat} {want:Bool} {r:List DOp}:wpD E K (⟨dst,some (t,want),um,op⟩ :: r) j log ⟨tm,hp,N⟩ =
  @gd (tmget tm t) want ⟨@aftD dst (isCall op) j (istep E (ev tm) (maskH um log ++ hp) N op) ⟨(rdL j (ev tm) op log,⟨tm,hp,N⟩,wpD E K r (j+1))⟩⟩ ⟨wpD E K r (j+1) log ⟨putT dst undef tm,hp,N⟩⟩:=by
 simp only [wpD,guarded,gd]
 have e:∀ o,afterD ⟨dst,some (t,want),um,op⟩ j log ⟨tm,hp,N⟩ (wpD E K r (j+1)) o=@aftD dst (isCall op) j o ⟨(rdL j (ev tm) op log,⟨tm,hp,N⟩,wpD E K r (j+1))⟩:=by
  intro o;cases o <;> rfl
 rw [e]
 cases tmget tm t <;> rfl
theorem b_pure {c:Bool}:@aftD (some d) c j (some (v,[],0)) ⟨(log,⟨tm,hp,N⟩,KK)⟩=KK ((j,[]) :: log) ⟨(d,v) :: tm,hp,N⟩:=by
 simp [aftD,freshOnly,putT]
theorem b_pure0 {c:Bool}:@aftD none c j (some (v,[],0)) ⟨(log,⟨tm,hp,N⟩,KK)⟩=KK ((j,[]) :: log) ⟨tm,hp,N⟩:=by
 simp [aftD,freshOnly,putT]
theorem b_store:@aftD none false j (some (v,[x],0)) ⟨(log,⟨tm,hp,N⟩,KK)⟩=KK ((j,[x]) :: log) ⟨tm,x :: hp,N⟩:=by
 simp [aftD,putT]
theorem b_new:@aftD (some d) false j (some (v,[x],1)) ⟨(log,⟨tm,hp,N+k⟩,KK)⟩=KK ((j,[x]) :: log) ⟨(d,v) :: tm,x :: hp,N+(k+1)⟩:=by
 simp [aftD,putT,Nat.add_assoc]
theorem b_upd:@aftD (some d) false j (some (v,[x],0)) ⟨(log,⟨tm,hp,N⟩,KK)⟩=KK ((j,[x]) :: log) ⟨(d,v) :: tm,x :: hp,N⟩:=by
 simp [aftD,putT]
theorem b_new2:@aftD (some d) false j (some (v,[x,y],1)) ⟨(log,⟨tm,hp,N+k⟩,KK)⟩=KK ((j,[x,y]) :: log) ⟨(d,v) :: tm,x :: y :: hp,N+(k+1)⟩:=by
 simp [aftD,putT,Nat.add_assoc]
theorem b_call1 {b:Option Blk}:@aftD (some d) true j (some (v,[(N+k,b)],1)) ⟨(log,⟨tm,hp,N+k⟩,KK)⟩=KK ((j,[(N+k,b)]) :: log) ⟨(d,v) :: tm,(N+k,b) :: hp,N+(k+1)⟩:=by
 simp [aftD,putT,freshOnly,Nat.add_assoc]
theorem mask_nil:maskH [] log=[]:=rfl
theorem mask_cons {i:Nat}:maskH (i :: um) log=(lget log i).map (fun x=>(x.1,none)) ++ maskH um log:=rfl
theorem lget_cons {i i':Nat}:lget ((i,δ) :: log) i'=if i=i' then δ else lget log i':=rfl
theorem t_get {t t':Nat}:tmget ((t,v) :: tm) t'=if t=t' then v else tmget tm t':=rfl
theorem h_get {k k':Nat} {b:Option Blk}:hget ((k,b) :: hp) k'=if k=k' then b else hget hp k':=rfl
theorem e_t {t:Nat}:ev tm (.t t)=tmget tm t:=rfl
theorem e_c:ev tm (.c v)=v:=rfl
theorem env_at {f g:Nat} {S:Spec} {r:List (Nat × Spec)} {args:List Value} {h:Heap} {n:Nat}:mkEnv ((f,S) :: r) g args h n=if f=g then S args h n else mkEnv r g args h n:=rfl
theorem add_ne (N a b:Nat):(N+a=N+b)=(a=b):=by simp
theorem lp_parts {a:ICode} (I:Nat -> List (Nat × Value) -> Heap -> Nat -> Prop)
  (hr:∀ m tm hp nx,I m tm hp nx -> wpI E a (thenQ (fun s'=>∃ m',m' < m /\ I m' s'.tm s'.hp s'.nx) Q) ⟨tm,hp,nx⟩) (m:Nat) {tm:List (Nat × Value)} {hp:Heap} {nx:Nat} (h:I m tm hp nx):@LP ⟨tm,hp,nx⟩ ⟨(E,a,Q)⟩:=
 loop_inv (fun m s=>I m s.tm s.hp s.nx) (fun m s hs=>hr m s.tm s.hp s.nx hs) m ⟨tm,hp,nx⟩ h
def Fin (res:List IRes) (v:Value) (h:Heap) (N:Nat) (e:IExit) (s:St):Prop:=
 isEnd e /\ ∃ vs,resL s res=some vs /\ one vs=v /\ ∀ k,k < N -> hget s.hp k=hget h k
theorem flat_run {P:Program} (hE:EnvOK P E) (hm:P.follows .mixedOrders=true) {f:Nat} {nt:Nat} {res:List IRes} {c:ICode} (ht:trFun P f=some ⟨nt,res,c⟩) {G:List Value -> Option Value}
  (hrun:∀ args v h N,G args=some v -> flatW v=true /\ args.length <= nt /\ wpI E c (Fin res v h N) ⟨initT args,h,N+0⟩):SpecOK P f (flat G):=
 flat_ok hE hm ht hrun
theorem fin_t {t:Nat} {v:Value} {h hp:Heap} {N nx:Nat} {tm:List (Nat × Value)} {e:IExit} (h1:isEnd e) (h2:tmget tm t=v) (h4:∀ k,k < N -> hget hp k=hget h k):Fin [.t t] v h N e ⟨tm,hp,nx⟩:=
 ⟨h1,[v],by simp only [resL,res1,h2],rfl,h4⟩
theorem fin_2 {t u:Nat} {v w:Value} {h hp:Heap} {N nx:Nat} {tm:List (Nat × Value)} {e:IExit} (h1:isEnd e) (h2:tmget tm t=v) (h3:tmget tm u=w) (h4:∀ k,k < N -> hget hp k=hget h k):Fin [.t t,.t u] (.tuple ⟨[v,w]⟩) h N e ⟨tm,hp,nx⟩:=
 ⟨h1,[v,w],by simp only [resL,res1,h2,h3],rfl,h4⟩
theorem fin_3 {t u r:Nat} {v w x:Value} {h hp:Heap} {N nx:Nat} {tm:List (Nat × Value)} {e:IExit} (h1:isEnd e) (h2:tmget tm t=v) (h3:tmget tm u=w) (h3':tmget tm r=x) (h4:∀ k,k < N -> hget hp k=hget h k):Fin [.t t,.t u,.t r] (.tuple ⟨[v,w,x]⟩) h N e ⟨tm,hp,nx⟩:=
 ⟨h1,[v,w,x],by simp only [resL,res1,h2,h3,h3'],rfl,h4⟩
end
end Go.Eng
end
section
namespace Go.Eng
theorem s_size (l:List UInt8):(ByteArray.mk ⟨l⟩).size=l.length:=rfl
theorem s_get (l:List UInt8) (i:Nat):(ByteArray.mk ⟨l⟩)[i]?=l[i]?:=by
 by_cases h:i < l.length
 ·have h':i < (ByteArray.mk ⟨l⟩).size:=h
  rw [getElem?_pos (ByteArray.mk ⟨l⟩) i h',List.getElem?_eq_getElem h]
  rfl
 ·have h':¬ i < (ByteArray.mk ⟨l⟩).size:=h
  rw [getElem?_neg (ByteArray.mk ⟨l⟩) i h',List.getElem?_eq_none (by omega)]
theorem s_extract (l:List UInt8) (i j:Nat):(ByteArray.mk ⟨l⟩).extract i j=⟨⟨(l.take j).drop i⟩⟩:=by
 have:((ByteArray.mk ⟨l⟩).extract i j).data=⟨(l.take j).drop i⟩:=by
  rw [ByteArray.data_extract]
  apply Array.ext'
  simp [List.drop_take]
 calc (ByteArray.mk ⟨l⟩).extract i j=⟨((ByteArray.mk ⟨l⟩).extract i j).data⟩:=rfl
  _=_:=by rw [this]
theorem s_append (l m:List UInt8):(ByteArray.mk ⟨l⟩) ++ (ByteArray.mk ⟨m⟩)=⟨⟨l ++ m⟩⟩:=by
 have:((ByteArray.mk ⟨l⟩) ++ (ByteArray.mk ⟨m⟩)).data=⟨l ++ m⟩:=by
  rw [ByteArray.data_append]
  apply Array.ext'
  simp
 calc (ByteArray.mk ⟨l⟩) ++ (ByteArray.mk ⟨m⟩)=⟨((ByteArray.mk ⟨l⟩) ++ (ByteArray.mk ⟨m⟩)).data⟩:=rfl
  _=_:=by rw [this]
theorem s_eq (l m:List UInt8):((ByteArray.mk ⟨l⟩)=(ByteArray.mk ⟨m⟩))=(l=m):=by simp
def nl:List UInt8 -> Nat
 | []=>0
 | b :: l=>b.toNat+256 * nl l
def bl (n:Nat):List UInt8:=if h:n=0 then [] else UInt8.ofNat (n % 256) :: bl (n / 256)
 termination_by n
 decreasing_by omega
theorem bl_zero:bl 0=[]:=by rw [bl];simp
theorem bl_pos {n:Nat} (h:n ≠ 0):bl n=UInt8.ofNat (n % 256) :: bl (n / 256):=by rw [bl];simp [h]
theorem nl_bl (n:Nat):nl (bl n)=n:=by
 induction n using Nat.strongRecOn with
 | _ n ih=>
  by_cases h:n=0
  ·subst h;rw [bl_zero];rfl
  ·rw [bl_pos h,nl,ih _ (by omega)]
   have:(UInt8.ofNat (n % 256)).toNat=n % 256:=by simp
   rw [this];omega
theorem bl_inj {a b:Nat} (h:bl a=bl b):a=b:=by rw [<- nl_bl a,<- nl_bl b,h]
theorem bl_eq_nil {n:Nat}:bl n=[] ↔ n=0:=⟨fun h=>bl_inj (by rw [h,bl_zero]),fun h=>by rw [h,bl_zero]⟩
theorem nl_append (l m:List UInt8):nl (l ++ m)=nl l+256 ^ l.length * nl m:=by
 induction l with
 | nil=>simp [nl]
 | cons b l ih=>
  simp only [List.cons_append,nl,ih,List.length_cons,Nat.pow_succ]
  rw [Nat.mul_add,<- Nat.mul_assoc,Nat.mul_comm 256 (256 ^ l.length)];omega
theorem nl_lt (l:List UInt8):nl l < 256 ^ l.length:=by
 induction l with
 | nil=>simp [nl]
 | cons b l ih=>
  simp only [nl,List.length_cons,Nat.pow_succ]
  have:=b.toNat_lt
  omega
theorem nl_zeros (n:Nat):nl (List.replicate n 0)=0:=by
 induction n with
 | zero=>rfl
 | succ n ih=>simp only [List.replicate_succ,nl,ih];rfl
theorem bl_nl:∀ (l:List UInt8),(∀ b,l.getLast?=some b -> b ≠ 0) -> bl (nl l)=l
 | [],_=>by rw [nl,bl_zero]
 | b :: l,h=>by
  have hl:∀ c,l.getLast?=some c -> c ≠ 0:=by
   intro c hc
   cases l with
   | nil=>cases hc
   | cons d l=>exact h c (by rw [List.getLast?_cons_cons];exact hc)
  have ih:=bl_nl l hl
  have hb:=b.toNat_lt
  have hne:nl (b :: l) ≠ 0:=by
   intro e
   simp only [nl] at e
   have hb0:b=0:=by apply UInt8.toNat_inj.1;simp;omega
   have:nl l=0:=by omega
   rw [this,bl_zero] at ih
   subst ih
   exact h b (by simp) hb0
  rw [bl_pos hne]
  have e1:nl (b :: l) % 256=b.toNat:=by simp only [nl];omega
  have e2:nl (b :: l) / 256=nl l:=by simp only [nl];omega
  rw [e1,e2,ih]
  simp
theorem take_norm {l:List UInt8} {n:Nat} (hn:n <= l.length) (hz:∀ i,n <= i -> i < l.length -> l[i]?=some 0) (hl:n=0 \/ ∃ b,l[n - 1]?=some b /\ b ≠ 0):l.take n=bl (nl l):=by
 have h1:l.drop n=List.replicate (l.length - n) 0:=by
  apply List.ext_getElem?
  intro i
  rw [List.getElem?_drop,List.getElem?_replicate]
  split
  ·exact hz (n+i) (by omega) (by omega)
  ·exact List.getElem?_eq_none (by omega)
 have h2:nl l=nl (l.take n):=by
  conv=>lhs;rw [<- List.take_append_drop n l]
  rw [nl_append,h1,nl_zeros];simp
 rw [h2,bl_nl]
 intro b hb
 rw [List.getLast?_eq_getElem?,List.length_take,Nat.min_eq_left hn] at hb
 rcases hl with rfl | ⟨c,hc,hc0⟩
 ·simp at hb
 ·by_cases h0:n=0
  ·subst h0;simp at hb
  ·rw [List.getElem?_take,if_pos (by omega),hc] at hb
   cases hb;exact hc0
theorem bl_length_le {n k:Nat}:(bl n).length <= k ↔ n < 256 ^ k:=by
 induction k generalizing n with
 | zero=>
  simp only [Nat.le_zero,List.length_eq_zero_iff,Nat.pow_zero,Nat.lt_one_iff]
  exact bl_eq_nil
 | succ k ih=>
  by_cases h:n=0
  ·subst h;simp [bl_zero];exact Nat.pow_pos (by omega)
  ·rw [bl_pos h,List.length_cons,Nat.add_le_add_iff_right,ih,Nat.pow_succ]
   exact Nat.div_lt_iff_lt_mul (by omega)
theorem bl_length_mono {a b:Nat} (h:a <= b):(bl a).length <= (bl b).length:=by
 have h1:b < 256 ^ (bl b).length:=bl_length_le.1 (Nat.le_refl _)
 exact bl_length_le.2 (Nat.lt_of_le_of_lt h h1)
theorem bl_length_nl (l:List UInt8):(bl (nl l)).length <= l.length:=bl_length_le.2 (nl_lt l)
theorem nl_split {l:List UInt8} {i:Nat} {b:UInt8} (h:l[i]?=some b):nl l=nl (l.take i)+256 ^ i * (b.toNat+256 * nl (l.drop (i+1))):=by
 have hi:i < l.length:=(List.getElem?_eq_some_iff.1 h).1
 have e:l=l.take i ++ (b :: l.drop (i+1)):=by
  rw [<- (List.getElem?_eq_some_iff.1 h).2,List.getElem_cons_drop,List.take_append_drop]
 conv=>lhs;rw [e]
 rw [nl_append,List.length_take,Nat.min_eq_left (by omega)]
 rfl
theorem nl_take_lt (l:List UInt8) (i:Nat):nl (l.take i) < 256 ^ i:=by
 have h:=nl_lt (l.take i)
 refine Nat.lt_of_lt_of_le h (Nat.pow_le_pow_right (by omega) ?_)
 rw [List.length_take];omega
theorem nl_lt_of {l m:List UInt8} {i:Nat} {b c:UInt8} (hb:l[i]?=some b) (hc:m[i]?=some c) (hd:l.drop (i+1)=m.drop (i+1)) (h:b.toNat < c.toNat):nl l < nl m:=by
 rw [nl_split hb,nl_split hc,hd]
 have h1:=nl_take_lt l i
 have h2:256 ^ i * (b.toNat+256 * nl (m.drop (i+1))+1) <= 256 ^ i * (c.toNat+256 * nl (m.drop (i+1))):=Nat.mul_le_mul_left _ (by omega)
 rw [Nat.mul_add,Nat.mul_one] at h2
 omega
theorem bl_length_lt {a b:Nat} (h:(bl a).length < (bl b).length):a < b:=by
 refine Nat.lt_of_not_le fun hle=>?_
 have h1:(bl a).length <= (bl a).length:=Nat.le_refl _
 rw [bl_length_le] at h1
 have:(bl b).length <= (bl a).length:=bl_length_le.2 (by omega)
 omega
def cmpN (a b:Nat):Int:=if a < b then -1 else if a=b then 0 else 1
theorem cmpN_lt {a b:Nat} (h:a < b):cmpN a b=-1:=by simp [cmpN,h]
theorem cmpN_gt {a b:Nat} (h:b < a):cmpN a b=1:=by unfold cmpN;rw [if_neg (by omega),if_neg (by omega)]
theorem cmpN_eq {a:Nat}:cmpN a a=0:=by simp [cmpN]
def sv (s:Bool) (l:List UInt8):Int:=if s then -(nl l:Int) else (nl l:Int)
def iE (z:Int):List Value:=[.bool (decide (z < 0)),.string ⟨⟨bl z.natAbs⟩⟩]
theorem sv_can (z:Int):sv (decide (z < 0)) (bl z.natAbs)=z:=by
 unfold sv
 rw [nl_bl]
 by_cases h:z < 0
 ·simp [h];omega
 ·simp [h];omega
theorem sv_true (l:List UInt8):sv true l=-(nl l:Int):=rfl
theorem sv_false (l:List UInt8):sv false l=(nl l:Int):=rfl
theorem sv_natAbs (s:Bool) (l:List UInt8):(sv s l).natAbs=nl l:=by cases s <;> simp [sv]
theorem sv_neg (s:Bool) (l:List UInt8):sv (!s) l=- sv s l:=by cases s <;> simp [sv]
theorem sv_lt (s:Bool) (l:List UInt8):decide (sv s l < 0)=(s && decide (bl (nl l) ≠ [])):=by
 rw [Bool.eq_iff_iff]
 simp only [decide_eq_true_eq,Bool.and_eq_true,ne_eq,bl_eq_nil]
 cases s
 ·simp only [sv,Bool.false_eq_true,if_false,false_and,iff_false];omega
 ·simp only [sv,if_true,true_and];omega
theorem iE_sv (s:Bool) (l:List UInt8):iE (sv s l)=[.bool (s && decide (bl (nl l) ≠ [])),.string ⟨⟨bl (nl l)⟩⟩]:=by
 unfold iE;rw [sv_lt,sv_natAbs]
theorem sv_eq_zero (s:Bool) (l:List UInt8):sv s l=0 ↔ nl l=0:=by cases s <;> simp [sv]
theorem sv_bl (s:Bool) (n:Nat):sv s (bl n)=if s then -(n:Int) else n:=by simp [sv,nl_bl]
def ln (z:Int):Nat:=(bl z.natAbs).length
theorem sgn_sv (s:Bool) (l:List UInt8):(sv s l).sign=if nl l=0 then 0 else if s then -1 else 1:=by
 by_cases h:nl l=0
 ·rw [if_pos h,(sv_eq_zero s l).2 h];rfl
 ·rw [if_neg h]
  cases s
  ·simp only [sv];simp;omega
  ·simp only [sv];simp;omega
theorem bl_length_add {a b k:Nat} (ha:(bl a).length <= k) (hb:(bl b).length <= k):(bl (a+b)).length <= k+1:=by
 rw [bl_length_le] at ha hb ⊢
 rw [Nat.pow_succ];omega
theorem bl_length_mul (a b:Nat):(bl (a * b)).length <= (bl a).length+(bl b).length:=by
 rw [bl_length_le,Nat.pow_add]
 exact Nat.mul_lt_mul'' (bl_length_le.1 (Nat.le_refl _)) (bl_length_le.1 (Nat.le_refl _))
theorem hget_new {N a k:Nat} {b:Option Blk} {hp:Heap} (h:k < N):hget ((N+a,b) :: hp) k=hget hp k:=by
 simp only [hget];rw [if_neg (by omega)]
def bc (l:List UInt8):List Value:=l.map fun b => .int .u8 b.toNat
theorem bc_length (l:List UInt8):(bc l).length=l.length:=by simp [bc]
theorem bc_append (l m:List UInt8):bc (l ++ m)=bc l ++ bc m:=by simp [bc]
theorem bc_take_all (l:List UInt8):(bc l).take l.length=bc l:=by rw [<- bc_length l,List.take_length]
theorem byteList_bc (l:List UInt8):byteList (bc l)=some l:=by
 induction l with
 | nil=>rfl
 | cons b l ih=>
  have:bc (b :: l) = .int .u8 b.toNat :: bc l:=rfl
  rw [this,byteList,ih]
  simp
def rdS (F:List Value -> Heap -> Option Value):Spec:=fun args h n=>(F args h).map fun v=>(v,[],0)
theorem rd_run {P:Program} {E:Env} (hE:EnvOK P E) (hm:P.follows .mixedOrders=true) {f:Nat} {nt:Nat} {res:List IRes} {c:ICode} (ht:trFun P f=some ⟨nt,res,c⟩) {F:List Value -> Heap -> Option Value}
  (mono:∀ args h h' v,hle h h' -> F args h=some v -> F args h'=some v)
  (hrun:∀ args v h N,F args h=some v -> (∀ k b,hget h k=some b -> k < N) -> flatW v=true /\ args.length <= nt /\ wpI E c (Fin res v h N) ⟨initT args,h,N+0⟩):SpecOK P f (rdS F):=by
 refine spec_ok hE hm ht ?_ ?_
 ·intro args h h' n o hl e
  simp only [rdS,Option.map_eq_some_iff] at e ⊢
  obtain ⟨v,e1,e2⟩:=e
  exact ⟨v,mono args h h' v hl e1,e2⟩
 ·intro args h n v δ m N e hn hN _
  simp only [rdS,Option.map_eq_some_iff,Prod.mk.injEq] at e
  obtain ⟨v0,e1,rfl,rfl,rfl⟩:=e
  obtain ⟨h1,h2,h3⟩:=hrun args v0 h N e1 hN
  refine ⟨h2,wpI_mono _ ?_ h3⟩
  rintro e s ⟨he,vs,hvs,hv,hh⟩
  exact ⟨he,vs,hvs,fc_flat h1 hv hN hh⟩
theorem lp_step {E:Env} {a:ICode} {Q:IExit -> St -> Prop} {s:St} (h:wpI E a (thenQ (wpI E (.loop a) Q) Q) s):@LP s ⟨(E,a,Q)⟩:=loop_step h
theorem ne_nb {N j k:Nat} (h:k < N):(N+j=k)=False:=eq_false (by omega)
theorem i_un {E:Env} {ρ:Opd -> Value} {h:Heap} {n:Nat} {op:UnOp} {x:Opd}:istep E ρ h n (.un op x)=match op,ρ x with
  | .not,.bool b=>some (.bool (!b),[],0)
  | .neg,.int k a=>some (.int k (k.wrap (0 - a)),[],0)
  | .xor,.int k a=>some (.int k (k.wrap (BitVec.ofInt k.bits (if k.signed then -1 else k.max) ^^^ BitVec.ofInt k.bits a).toNat),[],0)
  | _,_=>none:=rfl
theorem wrapK:IntKind.i64.wrap 0=0 /\ IntKind.i64.wrap 1=1 /\ IntKind.i64.wrap 2=2 /\ IntKind.i64.wrap 3=3 /\ IntKind.i64.wrap 4=4 /\ IntKind.i64.wrap 5=5 /\ IntKind.i64.wrap 6=6 /\ IntKind.i64.wrap 7=7 /\ IntKind.i64.wrap 8=8 /\ IntKind.i64.wrap 9=9 /\ IntKind.i64.wrap 10=10 /\ IntKind.i64.wrap 11=11 /\ IntKind.i64.wrap 12=12 /\ IntKind.i64.wrap 13=13 /\ IntKind.i64.wrap 14=14 /\ IntKind.i64.wrap 15=15 /\ IntKind.i64.wrap 16=16:=by
 refine ⟨?_,?_,?_,?_,?_,?_,?_,?_,?_,?_,?_,?_,?_,?_,?_,?_,?_⟩ <;> exact Go.IntWalk.i64_in _ (by omega)
def qq (d:Nat) (o:IOp):ROp:=⟨some d,none,o⟩
def qn (o:IOp):ROp:=⟨none,none,o⟩
def qu (d:Nat) (o:IOp):DOp:=⟨some d,none,[],o⟩
def qm (o:IOp):DOp:=⟨none,none,[],o⟩
def qv (d:Nat) (l:List Nat) (o:IOp):DOp:=⟨some d,none,l,o⟩
def e0:Value:=.string ⟨⟨[]⟩⟩
def ci (n:Int):Opd:=.c (.int .i64 n)
theorem G0:(type_of% @initT.eq_1) /\ (type_of% @List.zipIdx_cons.{0}) /\ (type_of% @List.zipIdx_nil.{0}) /\ (type_of% @List.map_cons.{0,0}) /\ (type_of% @List.map_nil.{0,0}) /\ (type_of% @qq.eq_1) /\ (type_of% @qn.eq_1) /\ (type_of% @qu.eq_1) /\ (type_of% @qm.eq_1) /\ (type_of% @qv.eq_1) /\ (type_of% @e0.eq_1) /\ (type_of% @ci.eq_1):=
 ⟨@initT.eq_1,@List.zipIdx_cons.{0},@List.zipIdx_nil.{0},@List.map_cons.{0,0},@List.map_nil.{0,0},@qq.eq_1,@qn.eq_1,@qu.eq_1,@qm.eq_1,@qv.eq_1,@e0.eq_1,@ci.eq_1⟩
theorem R0:(type_of% @x_skip) /\ (type_of% @x_ret) /\ (type_of% @x_seq) /\ (type_of% @x_block) /\ (type_of% @x_exit) /\ (type_of% @x_reg) /\ (type_of% @x_dreg) /\ (type_of% @x_fail) /\ (type_of% @x_then1) /\ (type_of% @x_then2) /\ (type_of% @x_then3) /\ (type_of% @x_blk1) /\ (type_of% @x_blk2) /\ (type_of% @x_blk3) /\ (type_of% @x_blk4) /\ (type_of% @x_loop) /\ (type_of% @x_cond) /\ (type_of% @r_nil) /\ (type_of% @r_plain) /\ (type_of% @r_guard) /\ (type_of% @d_nil) /\ (type_of% @d_plain) /\ (type_of% @d_guard):=
 ⟨@x_skip,@x_ret,@x_seq,@x_block,@x_exit,@x_reg,@x_dreg,@x_fail,@x_then1,@x_then2,@x_then3,@x_blk1,@x_blk2,@x_blk3,@x_blk4,@x_loop,@x_cond,@r_nil,@r_plain,@r_guard,@d_nil,@d_plain,@d_guard⟩
theorem R1:(type_of% @cd_true) /\ (type_of% @cd_false) /\ (type_of% @gd_true_true) /\ (type_of% @gd_true_false) /\ (type_of% @gd_false_true) /\ (type_of% @gd_false_false) /\ (type_of% @gd_undef) /\ (type_of% @a_pure) /\ (type_of% @a_pure0) /\ (type_of% @a_store) /\ (type_of% @a_new) /\ (type_of% @a_upd) /\ (type_of% @a_new2) /\ (type_of% @b_pure) /\ (type_of% @b_pure0) /\ (type_of% @b_store) /\ (type_of% @b_new) /\ (type_of% @b_upd) /\ (type_of% @b_new2) /\ (type_of% @b_call1) /\ (type_of% @mask_nil) /\ (type_of% @mask_cons) /\ (type_of% @lget_cons) /\ (type_of% @put_some) /\ (type_of% @put_none) /\ (type_of% @t_get) /\ (type_of% @h_get) /\ (type_of% @e_t) /\ (type_of% @e_c) /\ (type_of% @env_at) /\ (type_of% @Option.map_some.{0,0}) /\ (type_of% @List.map_cons.{0,0}) /\ (type_of% @List.map_nil.{0,0}) /\ (type_of% @add_ne) /\ (type_of% @List.length_cons.{0}) /\ (type_of% @List.length_nil.{0}) /\ (type_of% @and_self) /\ (type_of% @and_true) /\ (type_of% @true_and) /\ (type_of% @List.all_cons.{0}) /\ (type_of% @List.all_nil.{0}) /\ (type_of% @Bool.and_true) /\ (type_of% @Bool.true_and) /\ (type_of% @decide_true) /\ (type_of% @decide_false) /\ (type_of% @Bool.false_eq_true) /\ (type_of% @List.drop_succ_cons.{0}) /\ (type_of% @List.drop_zero.{0}) /\ (type_of% @List.take_succ_cons.{0}) /\ (type_of% @List.take_zero.{0}) /\ (type_of% @List.cons_append.{0}) /\ (type_of% @List.nil_append.{0}) /\ (type_of% @s_size) /\ (type_of% @s_get) /\ (type_of% @s_extract) /\ (type_of% @s_append) /\ (type_of% @s_eq) /\ (type_of% @Int.natCast_nonneg) /\ (type_of% @Int.toNat_natCast) /\ (type_of% @Int.ofNat_le) /\ (type_of% @Int.ofNat_lt) /\ (type_of% @Int.ofNat_inj) /\ (type_of% @Option.bind_some.{0,0}) /\ (type_of% @Nat.mul_one) /\ (type_of% @bc_length) /\ (type_of% @Nat.one_ne_zero) /\ (type_of% @Nat.add_eq_zero_iff) /\ (type_of% @false_and) /\ (type_of% @and_false) /\ (type_of% @false_or) /\ (type_of% @or_false) /\ (type_of% @Nat.zero_add) /\ (type_of% @Nat.le_refl) /\ (type_of% @sv_can) /\ (type_of% @List.getElem?_cons_zero.{0}) /\ (type_of% @List.getElem?_cons_succ.{0}) /\ (type_of% @Int.cast_ofNat_Int) /\ (type_of% @ne_eq.{1}) /\ (type_of% @not_true_eq_false) /\ (type_of% @not_false_eq_true) /\ (type_of% @rdL.eq_1) /\ (type_of% @rdL.eq_2) /\ (type_of% @rdH.eq_1) /\ (type_of% @rdH.eq_2) /\ (type_of% @isCall.eq_1) /\ (type_of% @isCall.eq_2) /\ (type_of% @isCall.eq_3) /\ (type_of% @istep.eq_1) /\ (type_of% @istep.eq_2) /\ (type_of% @istep.eq_3) /\ (type_of% @istep.eq_4) /\ (type_of% @istep.eq_5) /\ (type_of% @istep.eq_6) /\ (type_of% @istep.eq_7) /\ (type_of% @istep.eq_8) /\ (type_of% @istep.eq_9) /\ (type_of% @istep.eq_10) /\ (type_of% @istep.eq_11) /\ (type_of% @istep.eq_12) /\ (type_of% @istep.eq_13) /\ (type_of% @istep.eq_18) /\ (type_of% @istep.eq_19) /\ (type_of% @istep.eq_20) /\ (type_of% @istep.eq_21) /\ (type_of% @istep.eq_22) /\ (type_of% @istep.eq_23) /\ (type_of% @istep.eq_24) /\ (type_of% @istep.eq_25) /\ (type_of% @istep.eq_26) /\ (type_of% @istep.eq_27) /\ (type_of% @istep.eq_28) /\ (type_of% @istep.eq_29) /\ (type_of% @istep.eq_30) /\ (type_of% @istep.eq_31) /\ (type_of% @istep.eq_32) /\ (type_of% @istep.eq_33) /\ (type_of% @istep.eq_34) /\ (type_of% @istep.eq_35) /\ (type_of% @istep.eq_36) /\ (type_of% @istep.eq_37) /\ (type_of% @istep.eq_38) /\ (type_of% @istep.eq_39) /\ (type_of% @istep.eq_40) /\ (type_of% @ibin.eq_1) /\ (type_of% @ibin.eq_2) /\ (type_of% @ibin.eq_3) /\ (type_of% @ibin.eq_4) /\ (type_of% @ibin.eq_5) /\ (type_of% @ibin.eq_6) /\ (type_of% @ibin.eq_7) /\ (type_of% @ibin.eq_8) /\ (type_of% @ibin.eq_9) /\ (type_of% @ibin.eq_10) /\ (type_of% @ibin.eq_11) /\ (type_of% @ibin.eq_12) /\ (type_of% @ibin.eq_13) /\ (type_of% @ibin.eq_14) /\ (type_of% @ibin.eq_15) /\ (type_of% @ibin.eq_16) /\ (type_of% @ibin.eq_17) /\ (type_of% @ibin.eq_18) /\ (type_of% @ibin.eq_19) /\ (type_of% @ibin.eq_20) /\ (type_of% @ibin.eq_21) /\ (type_of% @ibin.eq_22) /\ (type_of% @vcells.eq_1) /\ (type_of% @vcells.eq_2) /\ (type_of% @fillI.eq_1) /\ (type_of% @fillI.eq_2) /\ (type_of% @setR.eq_1) /\ (type_of% @setR.eq_2) /\ (type_of% @flat.eq_1) /\ (type_of% @okCell.eq_1) /\ (type_of% @okCell.eq_2) /\ (type_of% @okCell.eq_3) /\ (type_of% @isBase.eq_1) /\ (type_of% @isBase.eq_2) /\ (type_of% @isBase.eq_3) /\ (type_of% @isBase.eq_4) /\ (type_of% @isBase.eq_5) /\ (type_of% @isBase.eq_6) /\ (type_of% @isBase.eq_7) /\ (type_of% @isBase.eq_8) /\ (type_of% @isBase.eq_9) /\ (type_of% @bnds.eq_1) /\ (type_of% @bhi.eq_1) /\ (type_of% @bhi.eq_2) /\ (type_of% @blo.eq_1) /\ (type_of% @blo.eq_2) /\ (type_of% @srcOf.eq_1) /\ (type_of% @srcOf.eq_2) /\ (type_of% @srcOf.eq_3) /\ (type_of% @List.set.eq_1.{0}) /\ (type_of% @List.set.eq_2.{0}) /\ (type_of% @List.set.eq_3.{0}) /\ (type_of% @List.drop.eq_1.{0}) /\ (type_of% @List.drop.eq_2.{0}) /\ (type_of% @List.drop.eq_3.{0}) /\ (type_of% @List.take.eq_1.{0}) /\ (type_of% @List.take.eq_2.{0}) /\ (type_of% @List.take.eq_3.{0}) /\ (type_of% @List.append.eq_1.{0}) /\ (type_of% @List.append.eq_2.{0}) /\ (type_of% @i_un) /\ (type_of% @wrapK):=
 ⟨@cd_true,@cd_false,@gd_true_true,@gd_true_false,@gd_false_true,@gd_false_false,@gd_undef,@a_pure,@a_pure0,@a_store,@a_new,@a_upd,@a_new2,@b_pure,@b_pure0,@b_store,@b_new,@b_upd,@b_new2,@b_call1,@mask_nil,@mask_cons,@lget_cons,@put_some,@put_none,@t_get,@h_get,@e_t,@e_c,@env_at,@Option.map_some.{0,0},@List.map_cons.{0,0},@List.map_nil.{0,0},@add_ne,@List.length_cons.{0},@List.length_nil.{0},@and_self,@and_true,@true_and,@List.all_cons.{0},@List.all_nil.{0},@Bool.and_true,@Bool.true_and,@decide_true,@decide_false,@Bool.false_eq_true,@List.drop_succ_cons.{0},@List.drop_zero.{0},@List.take_succ_cons.{0},@List.take_zero.{0},@List.cons_append.{0},@List.nil_append.{0},@s_size,@s_get,@s_extract,@s_append,@s_eq,@Int.natCast_nonneg,@Int.toNat_natCast,@Int.ofNat_le,@Int.ofNat_lt,@Int.ofNat_inj,@Option.bind_some.{0,0},@Nat.mul_one,@bc_length,@Nat.one_ne_zero,@Nat.add_eq_zero_iff,@false_and,@and_false,@false_or,@or_false,@Nat.zero_add,@Nat.le_refl,@sv_can,@List.getElem?_cons_zero.{0},@List.getElem?_cons_succ.{0},@Int.cast_ofNat_Int,@ne_eq.{1},@not_true_eq_false,@not_false_eq_true,@rdL.eq_1,@rdL.eq_2,@rdH.eq_1,@rdH.eq_2,@isCall.eq_1,@isCall.eq_2,@isCall.eq_3,@istep.eq_1,@istep.eq_2,@istep.eq_3,@istep.eq_4,@istep.eq_5,@istep.eq_6,@istep.eq_7,@istep.eq_8,@istep.eq_9,@istep.eq_10,@istep.eq_11,@istep.eq_12,@istep.eq_13,@istep.eq_18,@istep.eq_19,@istep.eq_20,@istep.eq_21,@istep.eq_22,@istep.eq_23,@istep.eq_24,@istep.eq_25,@istep.eq_26,@istep.eq_27,@istep.eq_28,@istep.eq_29,@istep.eq_30,@istep.eq_31,@istep.eq_32,@istep.eq_33,@istep.eq_34,@istep.eq_35,@istep.eq_36,@istep.eq_37,@istep.eq_38,@istep.eq_39,@istep.eq_40,@ibin.eq_1,@ibin.eq_2,@ibin.eq_3,@ibin.eq_4,@ibin.eq_5,@ibin.eq_6,@ibin.eq_7,@ibin.eq_8,@ibin.eq_9,@ibin.eq_10,@ibin.eq_11,@ibin.eq_12,@ibin.eq_13,@ibin.eq_14,@ibin.eq_15,@ibin.eq_16,@ibin.eq_17,@ibin.eq_18,@ibin.eq_19,@ibin.eq_20,@ibin.eq_21,@ibin.eq_22,@vcells.eq_1,@vcells.eq_2,@fillI.eq_1,@fillI.eq_2,@setR.eq_1,@setR.eq_2,@flat.eq_1,@okCell.eq_1,@okCell.eq_2,@okCell.eq_3,@isBase.eq_1,@isBase.eq_2,@isBase.eq_3,@isBase.eq_4,@isBase.eq_5,@isBase.eq_6,@isBase.eq_7,@isBase.eq_8,@isBase.eq_9,@bnds.eq_1,@bhi.eq_1,@bhi.eq_2,@blo.eq_1,@blo.eq_2,@srcOf.eq_1,@srcOf.eq_2,@srcOf.eq_3,@List.set.eq_1.{0},@List.set.eq_2.{0},@List.set.eq_3.{0},@List.drop.eq_1.{0},@List.drop.eq_2.{0},@List.drop.eq_3.{0},@List.take.eq_1.{0},@List.take.eq_2.{0},@List.take.eq_3.{0},@List.append.eq_1.{0},@List.append.eq_2.{0},@i_un,@wrapK⟩
end Go.Eng
end
section
namespace Go.Eng
open Go Go.Proofs Go.IntWalk
theorem mixed:Tryz.prog.follows .mixedOrders=true:=by kernel_rfl
def spNorm:List Value -> Option Value
 | [.string ⟨⟨l⟩⟩]=>if l.length <= 1099511627776 then some (.string ⟨⟨bl (nl l)⟩⟩) else none
 | _=>none
def c103:ICode:=
 (.seq (.reg [qq 2 (.mv (.c e0))]) (.seq (.reg [qq 4 (.mv (.t 0)),qq 5 (.lens (.t 4)),qq 3 (.mv (.t 5))]) (.seq (.block 0 (.loop (.seq (.seq (.reg [qq 6 (.mv (.t 3)),qq 7 (.bin .gtr (.t 6) (ci 0)),qq 8 (.mv (.t 7)),⟨(some 9),(some (8,true)),(.mv (.t 0))⟩,⟨(some 10),(some (8,true)),(.mv (.t 3))⟩,⟨(some 11),(some (8,true)),(.bin .sub (.t 10) (ci 1))⟩,⟨(some 12),(some (8,true)),(.idstr (.t 9) (.t 11))⟩,⟨(some 13),(some (8,true)),(.bin .eql (.t 12) (.c (.int .u8 0)))⟩,qq 14 (.pick (.t 8) (.t 13) (.c (.bool false)))]) (.cond (.t 14) .skip (.exit 0))) (.block 1 (.reg [qq 15 (.mv (.t 3)),qq 16 (.bin .sub (.t 15) (ci 1)),qq 3 (.mv (.t 16))]))))) (.seq (.reg [qq 17 (.mv (.t 0)),qq 18 (.mv (.t 3)),qq 19 (.slstr (.t 17) none (some (.t 18))),qq 2 (.mv (.t 19))]) .ret))))
theorem tr103:trFun Tryz.prog 103=some ⟨20,[.t 2],c103⟩:=by kernel_rfl
theorem ok_r1Norm:SpecOK Tryz.prog 103 (flat spNorm):=by
 refine flat_run (env_nil _) mixed tr103 ?_
 intro args v h N hG
 unfold spNorm at hG
 split at hG
 case h_2=>cases hG
 rename_i l
 split at hG
 case isFalse=>cases hG
 rename_i hl
 cases hG
 refine ⟨rfl,by simp,?_⟩
 simp only [c103,G0,Nat.reduceAdd]
 simp only [↓R0,R1,simprocAttr,-Int.reduceAbs]
 refine lp_parts (fun n tm hp nx=>tmget tm 0 = .string ⟨⟨l⟩⟩ /\ tmget tm 3 = .int .i64 n /\ n <= l.length /\ (∀ i,n <= i -> i < l.length -> l[i]?=some 0) /\ hp=h /\ nx=N+0) ?_ l.length ⟨?_,?_,Nat.le_refl _,fun i h1 h2=>by omega,rfl,rfl⟩
 ·intro n tm hp nx ⟨h0,h3,hn,hz,rfl,rfl⟩
  simp only [↓R0,R1,simprocAttr,-Int.reduceAbs,h0,h3]
  refine gd_case (fun hb=>?_) (fun hb=>?_)
  ·obtain ⟨n,rfl⟩:∃ n',n=n'+1:=⟨n - 1,by simp at hb;omega⟩
   have e1:IntKind.i64.wrap (((n+1:Nat):Int) - 1)=(n:Int):=by rw [i64_in _ (by omega)];omega
   obtain ⟨b,hbb⟩:∃ b,l[n]?=some b:=⟨_,List.getElem?_eq_getElem (by omega)⟩
   simp only [↓R0,R1,simprocAttr,-Int.reduceAbs,h0,h3,hb,e1,hbb]
   refine cd_case (fun hc=>?_) (fun hc=>?_)
   ·simp only [↓R0,R1,simprocAttr,-Int.reduceAbs,h0,h3,e1]
    refine ⟨n,by omega,rfl,by omega,fun i h1 h2=>?_⟩
    by_cases e:i=n
    ·subst e;rw [hbb];congr 1;apply UInt8.toNat_inj.1;simp at hc ⊢;omega
    ·exact hz i (by omega) h2
   ·simp only [↓R0,R1,simprocAttr,-Int.reduceAbs,h0,h3,hn]
    refine fin_t trivial ?_ (fun k hk=>rfl)
    simp only [↓R0,R1,simprocAttr,-Int.reduceAbs]
    rw [take_norm hn hz (.inr ⟨b,hbb,fun e=>by subst e;simp at hc⟩)]
  ·simp only [↓R0,R1,simprocAttr,-Int.reduceAbs,h0,h3,hb,hn]
   refine fin_t trivial ?_ (fun k hk=>rfl)
   simp only [↓R0,R1,simprocAttr,-Int.reduceAbs]
   rw [take_norm hn hz (.inl (by simp at hb;omega))]
 ·simp only [↓R0,R1,simprocAttr,-Int.reduceAbs]
 ·simp only [↓R0,R1,simprocAttr,-Int.reduceAbs]
def spAt:List Value -> Option Value
 | [.string ⟨⟨l⟩⟩,.int .i64 i]=>if l.length <= 1099511627776 /\ 0 <= i then some (.int .i64 ((l[i.toNat]?.getD 0).toNat:Int)) else none
 | _=>none
def c104:ICode:=
 (.seq (.reg [qq 4 (.mv (ci 0))]) (.seq (.seq (.reg [qq 5 (.mv (.t 1)),qq 6 (.mv (.t 0)),qq 7 (.lens (.t 6)),qq 8 (.bin .lss (.t 5) (.t 7))]) (.cond (.t 8) (.seq (.reg [qq 9 (.mv (.t 0)),qq 10 (.mv (.t 1)),qq 11 (.idstr (.t 9) (.t 10)),qq 12 (.conv .i64 (.t 11)),qq 4 (.mv (.t 12))]) .ret) .skip)) (.seq (.reg [qq 4 (.mv (ci 0))]) .ret)))
theorem tr104:trFun Tryz.prog 104=some ⟨13,[.t 4],c104⟩:=by kernel_rfl
theorem ok_r1At:SpecOK Tryz.prog 104 (flat spAt):=by
 refine flat_run (env_nil _) mixed tr104 ?_
 intro args v h N hG
 unfold spAt at hG
 split at hG
 case h_2=>cases hG
 rename_i l i
 split at hG
 case isFalse=>cases hG
 rename_i hl
 cases hG
 refine ⟨rfl,by simp,?_⟩
 simp only [c104,G0,Nat.reduceAdd]
 simp only [↓R0,R1,simprocAttr,-Int.reduceAbs]
 refine cd_case (fun hc=>?_) (fun hc=>?_)
 ·have hi:i.toNat < l.length:=by simp at hc;omega
  have hb:=l[i.toNat].toNat_lt
  simp only [↓R0,R1,simprocAttr,-Int.reduceAbs,hl,List.getElem?_eq_getElem hi,Option.getD_some]
  refine fin_t trivial ?_ (fun k hk=>rfl)
  simp only [↓R0,R1,simprocAttr,-Int.reduceAbs]
  rw [i64_in _ (by omega)]
 ·have hi:¬ i.toNat < l.length:=by simp at hc;omega
  simp only [↓R0,R1,simprocAttr,-Int.reduceAbs]
  refine fin_t trivial ?_ (fun k hk=>rfl)
  simp only [↓R0,R1,simprocAttr,-Int.reduceAbs]
  rw [List.getElem?_eq_none (by omega)];rfl
def spCmp:List Value -> Option Value
 | [.string ⟨⟨l⟩⟩,.string ⟨⟨m⟩⟩]=>if l.length <= 1099511627776 /\ m.length <= 1099511627776 then some (.int .i64 (cmpN (nl l) (nl m))) else none
 | _=>none
def c105:ICode:=
 (.seq (.reg [qq 4 (.mv (ci 0))]) (.seq (.reg [qq 8 (.mv (.t 0)),qq 9 (.call 103 [(.t 8)]),qq 10 (.mv (.t 1)),qq 11 (.call 103 [(.t 10)]),qq 5 (.mv (.t 9)),qq 6 (.mv (.t 11))]) (.seq (.seq (.reg [qq 12 (.mv (.t 5)),qq 13 (.lens (.t 12)),qq 14 (.mv (.t 6)),qq 15 (.lens (.t 14)),qq 16 (.bin .lss (.t 13) (.t 15))]) (.cond (.t 16) (.seq (.reg [qq 4 (.mv (ci (-1)))]) .ret) .skip)) (.seq (.seq (.reg [qq 17 (.mv (.t 5)),qq 18 (.lens (.t 17)),qq 19 (.mv (.t 6)),qq 20 (.lens (.t 19)),qq 21 (.bin .gtr (.t 18) (.t 20))]) (.cond (.t 21) (.seq (.reg [qq 4 (.mv (ci 1))]) .ret) .skip)) (.seq (.seq (.reg [qq 22 (.mv (.t 5)),qq 23 (.lens (.t 22)),qq 24 (.bin .sub (.t 23) (ci 1)),qq 7 (.mv (.t 24))]) (.block 0 (.loop (.seq (.seq (.reg [qq 25 (.mv (.t 7)),qq 26 (.bin .geq (.t 25) (ci 0))]) (.cond (.t 26) .skip (.exit 0))) (.seq (.block 1 (.seq (.seq (.dreg [qu 29 (.mv (.t 5)),qu 30 (.mv (.t 7)),qu 31 (.idstr (.t 29) (.t 30)),qu 32 (.mv (.t 6)),qu 33 (.mv (.t 7)),qu 34 (.idstr (.t 32) (.t 33)),qu 35 (.bin .lss (.t 31) (.t 34))]) (.cond (.t 35) (.seq (.reg [qq 4 (.mv (ci (-1)))]) .ret) .skip)) (.seq (.dreg [qu 36 (.mv (.t 5)),qu 37 (.mv (.t 7)),qu 38 (.idstr (.t 36) (.t 37)),qu 39 (.mv (.t 6)),qu 40 (.mv (.t 7)),qu 41 (.idstr (.t 39) (.t 40)),qu 42 (.bin .gtr (.t 38) (.t 41))]) (.cond (.t 42) (.seq (.reg [qq 4 (.mv (ci 1))]) .ret) .skip)))) (.reg [qq 27 (.mv (.t 7)),qq 28 (.bin .sub (.t 27) (ci 1)),qq 7 (.mv (.t 28))])))))) (.seq (.reg [qq 4 (.mv (ci 0))]) .ret))))))
theorem tr105:trFun Tryz.prog 105=some ⟨43,[.t 4],c105⟩:=by kernel_rfl
theorem ok_r1Cmp:SpecOK Tryz.prog 105 (flat spCmp):=by
 refine flat_run (env_cons ok_r1Norm (env_nil _)) mixed tr105 ?_
 intro args v h N hG
 unfold spCmp at hG
 split at hG
 case h_2=>cases hG
 rename_i l m
 split at hG
 case isFalse=>cases hG
 rename_i hl
 cases hG
 refine ⟨rfl,by simp,?_⟩
 have hla:(bl (nl l)).length <= 1099511627776:=Nat.le_trans (bl_length_le.2 (nl_lt l)) hl.1
 have hlb:(bl (nl m)).length <= 1099511627776:=Nat.le_trans (bl_length_le.2 (nl_lt m)) hl.2
 simp only [c105,G0,Nat.reduceAdd]
 simp only [↓R0,R1,simprocAttr,-Int.reduceAbs,spNorm,hl.1,hl.2]
 generalize ha:nl l=a at *
 generalize hb:nl m=b at *
 refine cd_case (fun hc=>?_) (fun hc=>?_)
 ·simp only [↓R0,R1,simprocAttr,-Int.reduceAbs]
  refine fin_t trivial ?_ (fun k hk=>rfl)
  simp only [↓R0,R1,simprocAttr,-Int.reduceAbs]
  rw [cmpN_lt (bl_length_lt (by simpa using hc))]
 simp only [↓R0,R1,simprocAttr,-Int.reduceAbs]
 refine cd_case (fun hd=>?_) (fun hd=>?_)
 ·simp only [↓R0,R1,simprocAttr,-Int.reduceAbs]
  refine fin_t trivial ?_ (fun k hk=>rfl)
  simp only [↓R0,R1,simprocAttr,-Int.reduceAbs]
  rw [cmpN_gt (bl_length_lt (by simpa using hd))]
 have hlen:(bl a).length=(bl b).length:=by simp at hc hd;omega
 simp only [↓R0,R1,simprocAttr,-Int.reduceAbs]
 refine lp_parts (fun n tm hp nx=>tmget tm 5 = .string ⟨⟨bl a⟩⟩ /\ tmget tm 6 = .string ⟨⟨bl b⟩⟩ /\ tmget tm 7 = .int .i64 ((n:Int) - 1) /\ n <= (bl a).length /\ (bl a).drop n=(bl b).drop n /\ hp=h /\ nx=N+0) ?_ (bl a).length ⟨?_,?_,?_,Nat.le_refl _,?_,rfl,rfl⟩
 ·intro n tm hp nx ⟨h5,h6,h7,hn,hz,rfl,rfl⟩
  simp only [↓R0,R1,simprocAttr,-Int.reduceAbs,h5,h6,h7]
  refine cd_case (fun hb=>?_) (fun hb=>?_)
  ·obtain ⟨n,rfl⟩:∃ n',n=n'+1:=⟨n - 1,by simp at hb;omega⟩
   have e1:((n+1:Nat):Int) - 1=(n:Int):=by omega
   obtain ⟨x,hx⟩:∃ x,(bl a)[n]?=some x:=⟨_,List.getElem?_eq_getElem (by omega)⟩
   obtain ⟨y,hy⟩:∃ y,(bl b)[n]?=some y:=⟨_,List.getElem?_eq_getElem (by omega)⟩
   simp only [↓R0,R1,simprocAttr,-Int.reduceAbs,h5,h6,h7,e1,hx,hy]
   refine cd_case (fun hc=>?_) (fun hc=>?_)
   ·simp only [↓R0,R1,simprocAttr,-Int.reduceAbs]
    refine fin_t trivial ?_ (fun k hk=>rfl)
    simp only [↓R0,R1,simprocAttr,-Int.reduceAbs]
    have:=nl_lt_of hx hy hz (by simpa using hc)
    rw [nl_bl,nl_bl] at this
    rw [cmpN_lt this]
   simp only [↓R0,R1,simprocAttr,-Int.reduceAbs,h5,h6,h7,e1,hx,hy]
   refine cd_case (fun hd=>?_) (fun hd=>?_)
   ·simp only [↓R0,R1,simprocAttr,-Int.reduceAbs]
    refine fin_t trivial ?_ (fun k hk=>rfl)
    simp only [↓R0,R1,simprocAttr,-Int.reduceAbs]
    have:=nl_lt_of hy hx hz.symm (by simpa using hd)
    rw [nl_bl,nl_bl] at this
    rw [cmpN_gt this]
   simp only [↓R0,R1,simprocAttr,-Int.reduceAbs,h5,h6,h7,e1,hx,hy]
   have hxy:x=y:=by apply UInt8.toNat_inj.1;simp at hc hd;omega
   refine ⟨n,by omega,?_,by omega,?_⟩
   ·rw [i64_in _ (by omega)]
   ·rw [List.drop_eq_getElem_cons (by omega),List.drop_eq_getElem_cons (i:=n) (l:=bl b) (by omega),hz]
    rw [List.getElem?_eq_some_iff] at hx hy
    rw [hx.2,hy.2,hxy]
  ·have h0:n=0:=by simp at hb;omega
   subst h0
   have:a=b:=bl_inj (by simpa using hz)
   subst this
   simp only [↓R0,R1,simprocAttr,-Int.reduceAbs]
   refine fin_t trivial ?_ (fun k hk=>rfl)
   simp only [↓R0,R1,simprocAttr,-Int.reduceAbs]
   rw [cmpN_eq]
 ·simp only [↓R0,R1,simprocAttr,-Int.reduceAbs]
 ·simp only [↓R0,R1,simprocAttr,-Int.reduceAbs]
 ·simp only [↓R0,R1,simprocAttr,-Int.reduceAbs]
  rw [i64_in _ (by omega)]
 ·rw [List.drop_length,hlen,List.drop_length]
end Go.Eng
end
section
namespace Go.Eng
def lm (n j:Nat):Nat:=n / 4294967296 ^ j % 4294967296
theorem lm_lt (n j:Nat):lm n j < 4294967296:=Nat.mod_lt _ (by omega)
theorem lm_zero (n:Nat):lm n 0=n % 4294967296:=by unfold lm;rw [Nat.pow_zero,Nat.div_one]
theorem lm_succ (n j:Nat):lm n (j+1)=lm (n / 4294967296) j:=by
 unfold lm;rw [Nat.pow_succ,Nat.mul_comm,Nat.div_div_eq_div_mul]
theorem pB (j:Nat):0 < 4294967296 ^ j:=Nat.pow_pos (by omega)
theorem lm_of_lt {n j:Nat} (h:n < 4294967296 ^ j):lm n j=0:=by
 unfold lm;rw [Nat.div_eq_of_lt h]
theorem lm_of_lt' {n k j:Nat} (h:n < 4294967296 ^ k) (hj:k <= j):lm n j=0:=
 lm_of_lt (Nat.lt_of_lt_of_le h (Nat.pow_le_pow_right (by omega) hj))
theorem lm_top {n j:Nat} (h:n < 4294967296 ^ (j+1)):lm n j=n / 4294967296 ^ j:=by
 unfold lm
 rw [Nat.mod_eq_of_lt]
 rw [Nat.pow_succ] at h
 exact Nat.div_lt_of_lt_mul h
theorem lm_mod {n k j:Nat} (h:j < k):lm (n % 4294967296 ^ k) j=lm n j:=by
 unfold lm
 have e:4294967296 ^ k=4294967296 ^ j * (4294967296 * 4294967296 ^ (k - j - 1)):=by
  rw [<- Nat.pow_add_one',<- Nat.pow_add];congr 1;omega
 rw [e,Nat.mod_mul_right_div_self,Nat.mod_mul_right_mod]
theorem lm_add_mul {n x i j:Nat} (h:j < i):lm (n+x * 4294967296 ^ i) j=lm n j:=by
 rw [<- lm_mod (n:=n+x * 4294967296 ^ i) h,Nat.add_mul_mod_self_right,lm_mod h]
theorem mod_step (n i:Nat):n % 4294967296 ^ (i+1)=n % 4294967296 ^ i+4294967296 ^ i * lm n i:=by
 rw [Nat.pow_succ,Nat.mod_mul];rfl
theorem div_step (n i:Nat):n / 4294967296 ^ i=4294967296 * (n / 4294967296 ^ (i+1))+lm n i:=by
 unfold lm
 rw [Nat.pow_succ,<- Nat.div_div_eq_div_mul,Nat.div_add_mod]
def tb (k:Nat) (f:Nat -> Nat):List Value:=(List.range k).map fun j => .int .u32 (f j:Nat)
theorem tb_length (k:Nat) (f:Nat -> Nat):(tb k f).length=k:=by simp [tb]
theorem tb_get (k:Nat) (f:Nat -> Nat) (i:Nat):(tb k f)[i]?=if i < k then some (.int .u32 (f i:Nat)) else none:=by
 unfold tb
 rw [List.getElem?_map]
 by_cases h:i < k
 ·rw [if_pos h,List.getElem?_range h];rfl
 ·rw [if_neg h,List.getElem?_eq_none (by simp;omega)];rfl
theorem tb_get' {k i:Nat} (f:Nat -> Nat) (h:i < k):(tb k f)[i]?=some (.int .u32 (f i:Nat)):=by rw [tb_get,if_pos h]
theorem tb_congr {k:Nat} {f g:Nat -> Nat} (h:∀ j,j < k -> f j=g j):tb k f=tb k g:=by
 apply List.ext_getElem?
 intro i
 rw [tb_get,tb_get]
 split
 ·rename_i hi;rw [h i hi]
 ·rfl
theorem tb_set (k:Nat) (f:Nat -> Nat) (i v:Nat):(tb k f).set i (.int .u32 (v:Nat))=tb k (fun j=>if j=i then v else f j):=by
 apply List.ext_getElem?
 intro j
 rw [tb_get,List.getElem?_set,tb_get,tb_length]
 by_cases h:i=j
 ·subst h
  simp
 ·rw [if_neg h]
  by_cases h2:j < k
  ·rw [if_pos h2,if_pos h2,if_neg (by omega)]
  ·rw [if_neg h2,if_neg h2]
theorem tb_slice {k a b:Nat} (f:Nat -> Nat) (h:a+b <= k):((tb k f).drop a).take b=tb b (fun j=>f (a+j)):=by
 apply List.ext_getElem?
 intro j
 rw [tb_get,List.getElem?_take,List.getElem?_drop,tb_get]
 by_cases h1:j < b
 ·rw [if_pos h1,if_pos h1,if_pos (by omega)]
 ·rw [if_neg h1,if_neg h1]
theorem tb_take {k b:Nat} (f:Nat -> Nat) (h:b <= k):(tb k f).take b=tb b f:=by
 have:=tb_slice (k:=k) (a:=0) (b:=b) f (by omega)
 rw [List.drop_zero] at this
 rw [this];apply tb_congr;intro j _;rw [Nat.zero_add]
theorem tb_all (k:Nat) (f:Nat -> Nat):(tb k f).take k=tb k f:=tb_take f (Nat.le_refl _)
theorem tb_zero (f:Nat -> Nat):tb 0 f=[]:=rfl
theorem tb_succ (k:Nat) (f:Nat -> Nat):tb (k+1) f = .int .u32 (f 0:Nat) :: tb k (fun j=>f (j+1)):=by
 unfold tb;rw [List.range_succ_eq_map];simp
theorem tb_rep (k:Nat):(List.replicate k [Value.int .u32 0]).flatten=tb k (fun _=>0):=by
 induction k with
 | zero=>rfl
 | succ k ih=>rw [List.replicate_succ,List.flatten_cons,ih,tb_succ];rfl
theorem tb_base (k:Nat) (f:Nat -> Nat):(tb k f).all isBase=true:=by
 unfold tb;rw [List.all_map,List.all_eq_true];intro x _;rfl
def ud:List Value -> Nat
 | .int _ i :: r=>i.toNat+4294967296 * ud r
 | _=>0
def uok:List Value -> Bool
 | []=>true
 | .int .u32 i :: r=>decide (0 <= i) && decide (i < 4294967296) && uok r
 | _=>false
theorem uok_tb:∀ (k:Nat) (f:Nat -> Nat),(∀ j,j < k -> f j < 4294967296) -> uok (tb k f)=true
 | 0,f,h=>rfl
 | k+1,f,h=>by
  rw [tb_succ]
  have h0:=h 0 (by omega)
  simp only [uok,Bool.and_eq_true,decide_eq_true_eq]
  refine ⟨⟨by omega,by omega⟩,uok_tb k _ fun j hj=>h (j+1) (by omega)⟩
theorem uok_lm (k n:Nat):uok (tb k (lm n))=true:=uok_tb k _ fun j _=>lm_lt n j
theorem ud_tb:∀ (k n:Nat),ud (tb k (lm n))=n % 4294967296 ^ k
 | 0,n=>by simp [tb_zero,ud,Nat.mod_one]
 | k+1,n=>by
  rw [tb_succ]
  have e:(fun j=>lm n (j+1))=lm (n / 4294967296):=by funext j;rw [lm_succ]
  rw [e,ud,ud_tb k,lm_zero,Nat.pow_succ,Nat.mul_comm (4294967296 ^ k),Nat.mod_mul,Int.toNat_natCast]
theorem ud_lt:∀ {cells:List Value},uok cells=true -> ud cells < 4294967296 ^ cells.length
 | [],_=>by simp [ud]
 | c :: r,h=>by
  unfold uok at h
  split at h
  ·rename_i heq;cases heq
  ·rename_i a i r' heq
   cases heq
   simp only [Bool.and_eq_true,decide_eq_true_eq] at h
   have:=ud_lt h.2
   simp only [ud,List.length_cons,Nat.pow_succ]
   omega
  ·cases h
theorem tb_ud:∀ {cells:List Value},uok cells=true -> cells=tb cells.length (lm (ud cells))
 | [],_=>rfl
 | c :: r,h=>by
  unfold uok at h
  split at h
  ·rename_i heq;cases heq
  ·rename_i a i r' heq
   cases heq
   simp only [Bool.and_eq_true,decide_eq_true_eq] at h
   rw [List.length_cons,tb_succ]
   have e:(fun j=>lm (ud (.int .u32 i :: r)) (j+1))=lm (ud r):=by
    funext j;rw [lm_succ,ud];congr 1;omega
   rw [e,<- tb_ud h.2,lm_zero,ud]
   congr 2
   omega
  ·cases h
def cyA (a b i:Nat):Nat:=(a % 4294967296 ^ i+b % 4294967296 ^ i) / 4294967296 ^ i
theorem cyA_zero (a b:Nat):cyA a b 0=0:=by simp [cyA,Nat.mod_one]
theorem cyA_le (a b i:Nat):cyA a b i <= 1:=by
 unfold cyA
 have h1:=Nat.mod_lt a (pB i)
 have h2:=Nat.mod_lt b (pB i)
 rw [<- Nat.lt_succ_iff,Nat.div_lt_iff_lt_mul (pB i)]
 omega
theorem add_limb (a b i:Nat):lm (a+b) i=(lm a i+lm b i+cyA a b i) % 4294967296:=by
 have h:(a+b) / 4294967296 ^ i=a / 4294967296 ^ i+b / 4294967296 ^ i+cyA a b i:=by
  unfold cyA
  have ea:=Nat.div_add_mod a (4294967296 ^ i)
  have eb:=Nat.div_add_mod b (4294967296 ^ i)
  have e:a+b=4294967296 ^ i * (a / 4294967296 ^ i+b / 4294967296 ^ i)+(a % 4294967296 ^ i+b % 4294967296 ^ i):=by rw [Nat.mul_add];omega
  rw [e,Nat.mul_add_div (pB i)]
 unfold lm
 rw [h];omega
theorem cyA_succ (a b i:Nat):cyA a b (i+1)=(lm a i+lm b i+cyA a b i) / 4294967296:=by
 unfold cyA
 rw [mod_step,mod_step,Nat.pow_succ,<- Nat.div_div_eq_div_mul]
 have e:a % 4294967296 ^ i+4294967296 ^ i * lm a i+(b % 4294967296 ^ i+4294967296 ^ i * lm b i)=4294967296 ^ i * (lm a i+lm b i)+(a % 4294967296 ^ i+b % 4294967296 ^ i):=by rw [Nat.mul_add];omega
 rw [e,Nat.mul_add_div (pB i)]
def cyS (a b i:Nat):Nat:=if a % 4294967296 ^ i < b % 4294967296 ^ i then 1 else 0
theorem cyS_zero (a b:Nat):cyS a b 0=0:=by simp [cyS,Nat.mod_one]
theorem cyS_le (a b i:Nat):cyS a b i <= 1:=by unfold cyS;split <;> omega
theorem cyS_succ (a b i:Nat):cyS a b (i+1)=if lm a i < lm b i+cyS a b i then 1 else 0:=by
 unfold cyS
 rw [mod_step,mod_step]
 have h1:=Nat.mod_lt a (pB i)
 have h2:=Nat.mod_lt b (pB i)
 generalize a % 4294967296 ^ i=r at *
 generalize b % 4294967296 ^ i=s at *
 generalize 4294967296 ^ i=P at *
 generalize lm a i=x
 generalize lm b i=y
 by_cases c:x < y
 ·have:P * (x+1) <= P * y:=Nat.mul_le_mul_left _ (by omega)
  rw [Nat.mul_add,Nat.mul_one] at this
  rw [if_pos (by omega),if_pos (by split <;> omega)]
 ·by_cases c2:y < x
  ·have:P * (y+1) <= P * x:=Nat.mul_le_mul_left _ (by omega)
   rw [Nat.mul_add,Nat.mul_one] at this
   rw [if_neg (by omega),if_neg (by split <;> omega)]
  ·have:x=y:=by omega
   subst this
   by_cases c3:r < s
   ·rw [if_pos (by omega),if_pos (by rw [if_pos c3];omega)]
   ·rw [if_neg (by omega),if_neg (by rw [if_neg c3];omega)]
theorem sub_limb {a b c:Nat} {i:Nat} (h:c % 4294967296 ^ (i+1)+b % 4294967296 ^ (i+1)=a % 4294967296 ^ (i+1) \/ c % 4294967296 ^ (i+1)+b % 4294967296 ^ (i+1)=a % 4294967296 ^ (i+1)+4294967296 ^ (i+1)) :
  (lm c i:Int)=((lm a i:Int) - lm b i - cyS a b i) % 4294967296:=by
 unfold cyS
 rw [mod_step,mod_step,mod_step,Nat.pow_succ] at h
 have h1:=Nat.mod_lt a (pB i)
 have h2:=Nat.mod_lt b (pB i)
 have h3:=Nat.mod_lt c (pB i)
 have l3:=lm_lt c i
 generalize a % 4294967296 ^ i=r at *
 generalize b % 4294967296 ^ i=s at *
 generalize c % 4294967296 ^ i=t at *
 generalize 4294967296 ^ i=P at *
 generalize lm a i=x at *
 generalize lm b i=y at *
 generalize lm c i=z at *
 have key:∀ u v:Nat,P * u+t+s=P * v+r -> (r < s -> u+1=v) /\ (¬ r < s -> u=v):=by
  intro u v e
  constructor
  ·intro hr
   rcases Nat.lt_trichotomy (u+1) v with g | g | g
   ·have:P * (u+2) <= P * v:=Nat.mul_le_mul_left _ (by omega)
    rw [Nat.mul_add] at this;omega
   ·exact g
   ·have:P * v <= P * u:=Nat.mul_le_mul_left _ (by omega)
    omega
  ·intro hr
   rcases Nat.lt_trichotomy u v with g | g | g
   ·have:P * (u+1) <= P * v:=Nat.mul_le_mul_left _ (by omega)
    rw [Nat.mul_add,Nat.mul_one] at this;omega
   ·exact g
   ·have:P * (v+1) <= P * u:=Nat.mul_le_mul_left _ (by omega)
    rw [Nat.mul_add,Nat.mul_one] at this;omega
 rcases h with h | h
 ·have:=key (z+y) x (by rw [Nat.mul_add];omega)
  by_cases c:r < s
  ·rw [if_pos c];have:=this.1 c;omega
  ·rw [if_neg c];have:=this.2 c;omega
 ·have:=key (z+y) (x+4294967296) (by rw [Nat.mul_add,Nat.mul_add];omega)
  by_cases c:r < s
  ·rw [if_pos c];have:=this.1 c;omega
  ·rw [if_neg c];have:=this.2 c;omega
theorem pow4 (k:Nat):(256:Nat) ^ (4 * k)=4294967296 ^ k:=by rw [Nat.pow_mul]
def lk (n:Nat):Nat:=((bl n).length+3) / 4
theorem lk_lt (n:Nat):n < 4294967296 ^ lk n:=by
 rw [<- pow4,<- bl_length_le];unfold lk;omega
theorem lk_le {n k:Nat} (h:n < 4294967296 ^ k):lk n <= k:=by
 rw [<- pow4,<- bl_length_le] at h;unfold lk;omega
theorem lk_zero {n:Nat}:lk n=0 ↔ n=0:=by
 constructor
 ·intro h;have:=lk_lt n;rw [h] at this;omega
 ·intro h;subst h;unfold lk;rw [bl_zero];rfl
theorem lk_top {n k:Nat} (h:lk n=k+1):4294967296 ^ k <= n:=by
 refine Nat.le_of_not_lt fun hlt=>?_
 have:=lk_le hlt
 omega
end Go.Eng
end
section
namespace Go.Eng
open Go Go.IntWalk
theorem or_nat {x c s:Nat} (h:x < 2 ^ s):x ||| c * 2 ^ s=x+c * 2 ^ s:=by
 rw [Nat.or_comm,<- Nat.shiftLeft_eq,<- Nat.shiftLeft_add_eq_or_of_lt h,Nat.add_comm]
theorem u32_nat {n:Nat} (h:n < 4294967296):IntKind.u32.wrap (n:Int)=(n:Int):=by
 have:IntKind.u32.wrap (n:Int)=((n:Int) % 4294967296):=rfl
 rw [this];omega
theorem u64_nat {n:Nat} (h:n < 18446744073709551616):IntKind.u64.wrap (n:Int)=(n:Int):=by
 have:IntKind.u64.wrap (n:Int)=((n:Int) % 18446744073709551616):=rfl
 rw [this];omega
theorem u32_mod (n:Nat):IntKind.u32.wrap (n:Int)=((n % 4294967296:Nat):Int):=by
 have:IntKind.u32.wrap (n:Int)=((n:Int) % 4294967296):=rfl
 rw [this];omega
theorem u32_int (n:Int):IntKind.u32.wrap n=n % 4294967296:=rfl
theorem bv32 {n:Nat} (h:n < 4294967296):(BitVec.ofInt IntKind.u32.bits (n:Int)).toNat=n:=by
 have:(BitVec.ofInt 32 (n:Int)).toNat=n:=by
  rw [BitVec.ofInt_natCast,BitVec.toNat_ofNat];omega
 exact this
theorem bv64 {n:Nat} (h:n < 18446744073709551616):(BitVec.ofInt IntKind.u64.bits (n:Int)).toNat=n:=by
 have:(BitVec.ofInt 64 (n:Int)).toNat=n:=by
  rw [BitVec.ofInt_natCast,BitVec.toNat_ofNat];omega
 exact this
theorem or_u32 {x c s:Nat} (hx:x < 2 ^ s) (h:x+c * 2 ^ s < 4294967296):IntKind.u32.wrap ((BitVec.ofInt IntKind.u32.bits (x:Int) ||| BitVec.ofInt IntKind.u32.bits ((c * 2 ^ s:Nat):Int)).toNat:Int)=((x+c * 2 ^ s:Nat):Int):=by
 rw [BitVec.toNat_or,bv32 (by omega),bv32 (by omega),or_nat hx,u32_nat h]
theorem or_u64 {x c s:Nat} (hx:x < 2 ^ s) (h:x+c * 2 ^ s < 18446744073709551616):IntKind.u64.wrap ((BitVec.ofInt IntKind.u64.bits (x:Int) ||| BitVec.ofInt IntKind.u64.bits ((c * 2 ^ s:Nat):Int)).toNat:Int)=((x+c * 2 ^ s:Nat):Int):=by
 rw [BitVec.toNat_or,bv64 (by omega),bv64 (by omega),or_nat hx,u64_nat h]
theorem borrow32 (X Y D:BitVec 32) (b:Nat) (hb:b <= 1) (hD:(D.toNat:Int)=((X.toNat:Int) - Y.toNat - b) % 4294967296) :
  ((~~~X &&& Y) ||| (~~~(X ^^^ Y) &&& D)).toNat / 2147483648=if X.toNat < Y.toNat+b then 1 else 0:=by
 have top:∀ V:BitVec 32,V.toNat / 2147483648=if V.msb then 1 else 0:=by
  intro V
  have:=V.isLt
  rw [BitVec.msb_eq_decide]
  by_cases h:2 ^ (32 - 1) <= V.toNat
  ·simp only [h,decide_true,if_true];omega
  ·simp only [h,decide_false];simp at h ⊢;omega
 rw [top]
 have hx:=X.isLt
 have hy:=Y.isLt
 have hd:=D.isLt
 simp only [BitVec.msb_or,BitVec.msb_and,BitVec.msb_not,BitVec.msb_xor]
 rw [BitVec.msb_eq_decide,BitVec.msb_eq_decide,BitVec.msb_eq_decide]
 by_cases h1:2 ^ (32 - 1) <= X.toNat <;> by_cases h2:2 ^ (32 - 1) <= Y.toNat <;> by_cases h3:2 ^ (32 - 1) <= D.toNat <;> simp only [h1,h2,h3,decide_true,decide_false] <;> simp <;> simp at h1 h2 h3 <;> omega
end Go.Eng
end
section
namespace Go.Eng
theorem lm_shift (n k j:Nat):lm (n / 4294967296 ^ k) j=lm n (k+j):=by
 unfold lm;rw [Nat.div_div_eq_div_mul,<- Nat.pow_add]
theorem kn_step {front top d2 u2 q r qd B:Nat} (h:qd * (top * B+d2) <= front * B+u2) (hr:q * top+r=front) (hq:qd <= q) (hB:qd < B) (c:q >= B \/ r * B+u2 < q * d2):qd+1 <= q:=by
 rcases Nat.lt_or_ge qd q with g | g
 ·exact g
 ·have e:q=qd:=by omega
  subst e
  rcases c with c | c
  ·omega
  ·rw [<- hr,Nat.mul_add,Nat.add_mul,Nat.mul_assoc q top B] at h
   omega
theorem kn_end {front top d2 u2 q r dl P B:Nat} (hr:q * top+r=front) (c:q * d2 <= r * B+u2) (hq:q < B) (ht:1 <= top) (hdl:dl < P):(q - 1) * ((top * B+d2) * P+dl) <= (front * B+u2) * P:=by
 rcases Nat.eq_zero_or_pos q with e | e
 ·subst e;simp
 ·obtain ⟨p,rfl⟩:∃ p,q=p+1:=⟨q - 1,by omega⟩
  rw [Nat.add_sub_cancel]
  have h1:(p+1) * (top * B+d2) <= front * B+u2:=by
   rw [<- hr,Nat.mul_add,Nat.add_mul ((p+1) * top),Nat.mul_assoc (p+1) top B];omega
  have h2:(p+1) * (top * B+d2) * P <= (front * B+u2) * P:=Nat.mul_le_mul_right _ h1
  refine Nat.le_trans ?_ h2
  have h3:p * dl <= (top * B+d2) * P:=Nat.mul_le_mul (by have:1 * B <= top * B:=Nat.mul_le_mul_right _ ht;omega) (by omega)
  generalize top * B+d2=X at *
  rw [Nat.mul_add,Nat.add_mul p 1 X,Nat.add_mul,Nat.one_mul,<- Nat.mul_assoc]
  omega
theorem kn_break {front top d2 u2 q r B:Nat} (hr:q * top+r=front) (hf:front < (top+1) * B) (h:B <= r) (hd:d2 < B):q < B /\ q * d2 <= r * B+u2:=by
 have hq:q < B:=by
  refine Nat.lt_of_not_le fun hle=>?_
  have:B * top <= q * top:=Nat.mul_le_mul_right _ hle
  rw [Nat.add_mul,Nat.one_mul,Nat.mul_comm top] at hf
  omega
 refine ⟨hq,?_⟩
 have h1:q * d2 <= r * B:=Nat.mul_le_mul (by omega) (by omega)
 omega
theorem kn_parts {n m:Nat} (h:n < 4294967296 ^ (m+2)):n=(lm n (m+1) * 4294967296+lm n m) * 4294967296 ^ m+n % 4294967296 ^ m:=by
 have h1:=div_step n m
 have h2:=Nat.div_add_mod n (4294967296 ^ m)
 rw [h1,lm_top (j:=m+1) h] at *
 rw [<- Nat.mul_comm] at h2
 rw [Nat.mul_comm (n / 4294967296 ^ (m+1))]
 omega
theorem kn_front {n m:Nat} (h:n < 4294967296 ^ (m+3)):n=((lm n (m+2) * 4294967296+lm n (m+1)) * 4294967296+lm n m) * 4294967296 ^ m+n % 4294967296 ^ m:=by
 have h1:=div_step n m
 have h0:=div_step n (m+1)
 have h2:=Nat.div_add_mod n (4294967296 ^ m)
 rw [<- Nat.mul_comm,h1,h0,<- lm_top (j:=m+2) h] at h2
 rw [Nat.mul_comm (lm n (m+2)),Nat.mul_comm _ 4294967296]
 omega
theorem kn_true {dv seg top d2 dl X u2 sl P B qd:Nat} (hd:dv=(top * B+d2) * P+dl) (hs:seg=(X * B+u2) * P+sl) (hsl:sl < P) (h:qd * dv <= seg):qd * (top * B+d2) <= X * B+u2:=by
 refine Nat.le_of_not_lt fun hlt=>?_
 have h1:(X * B+u2+1) * P <= qd * (top * B+d2) * P:=Nat.mul_le_mul_right _ hlt
 rw [Nat.add_mul,Nat.one_mul] at h1
 have h2:qd * (top * B+d2) * P <= qd * dv:=by
  rw [hd,Nat.mul_assoc];exact Nat.mul_le_mul_left _ (by omega)
 omega
theorem kn_lt {dv seg top d2 dl X u2 sl P B:Nat} (hd:dv=(top * B+d2) * P+dl) (hd2:d2 < B) (hdl:dl < P) (hs:seg=(X * B+u2) * P+sl) (h:seg < dv * B) (hB:0 < B):X < (top+1) * B:=by
 refine Nat.lt_of_not_le fun hle=>?_
 have h0:dv < (top+1) * B * P:=by
  rw [hd]
  have:(top * B+d2+1) * P <= (top+1) * B * P:=Nat.mul_le_mul_right _ (by rw [Nat.add_mul];omega)
  rw [Nat.add_mul,Nat.one_mul] at this
  omega
 have h1:dv * B <= (top+1) * B * P * B:=Nat.mul_le_mul_right _ (by omega)
 have h2:(top+1) * B * B * P <= (X * B+u2) * P:=Nat.mul_le_mul_right _ (by
  have:=Nat.mul_le_mul_right B hle;omega)
 have e:(top+1) * B * P * B=(top+1) * B * B * P:=by rw [Nat.mul_assoc,Nat.mul_comm P B,<- Nat.mul_assoc]
 omega
theorem dig_lm (u dv k:Nat) (hd:0 < dv):(u % (dv * 4294967296 ^ (k+1))) / 4294967296 ^ k / dv=lm (u / dv) k:=by
 unfold lm
 rw [Nat.div_div_eq_div_mul,Nat.mul_comm _ dv,Nat.pow_succ,<- Nat.mul_assoc,Nat.mod_mul_right_div_self,<- Nat.div_div_eq_div_mul]
theorem dig_rest (u dv k:Nat) (hd:0 < dv):u % (dv * 4294967296 ^ k)=(u % (dv * 4294967296 ^ (k+1))) - lm (u / dv) k * (dv * 4294967296 ^ k):=by
 have e:u % (dv * 4294967296 ^ (k+1)) % (dv * 4294967296 ^ k)=u % (dv * 4294967296 ^ k):=by
  rw [Nat.pow_succ,<- Nat.mul_assoc,Nat.mod_mul_right_mod]
 rw [<- e,<- dig_lm u dv k hd,Nat.div_div_eq_div_mul,Nat.mul_comm (4294967296 ^ k) dv]
 generalize u % (dv * 4294967296 ^ (k+1))=R
 have:=Nat.div_add_mod R (dv * 4294967296 ^ k)
 rw [Nat.mul_comm] at this
 omega
theorem limb_byte {v c i:Nat} (hv:v < 256 ^ i) (hc:c < 256) :
  (∀ j,lm (v+256 ^ i * c) j=if j=i / 4 then lm v (i / 4)+c * 2 ^ (8 * (i % 4)) else lm v j) /\ lm v (i / 4) < 2 ^ (8 * (i % 4)) /\ lm v (i / 4)+c * 2 ^ (8 * (i % 4)) < 4294967296:=by
 have e2:2 ^ (8 * (i % 4))=256 ^ (i % 4):=by rw [Nat.pow_mul]
 have ei:256 ^ i=4294967296 ^ (i / 4) * 256 ^ (i % 4):=by rw [<- pow4,<- Nat.pow_add];congr 1;omega
 have hW:256 ^ (i % 4) * 256 <= 4294967296:=by
  have:i % 4=0 \/ i % 4=1 \/ i % 4=2 \/ i % 4=3:=by omega
  rcases this with h | h | h | h <;> rw [h] <;> decide
 rw [e2]
 rw [ei] at hv ⊢
 generalize 256 ^ (i % 4)=W at *
 have hq:v / 4294967296 ^ (i / 4) < W:=Nat.div_lt_of_lt_mul hv
 have hlq:lm v (i / 4)=v / 4294967296 ^ (i / 4):=by unfold lm;rw [Nat.mod_eq_of_lt (by omega)]
 have hb:v / 4294967296 ^ (i / 4)+c * W < 4294967296:=by
  have:(c+1) * W <= 256 * W:=Nat.mul_le_mul_right _ (by omega)
  rw [Nat.add_mul,Nat.one_mul] at this
  omega
 refine ⟨fun j=>?_,by rw [hlq];exact hq,by rw [hlq];exact hb⟩
 have es:v+4294967296 ^ (i / 4) * W * c=v+W * c * 4294967296 ^ (i / 4):=by rw [Nat.mul_assoc,Nat.mul_comm]
 rcases Nat.lt_trichotomy j (i / 4) with g | g | g
 ·rw [if_neg (by omega),es,lm_add_mul g]
 ·rw [if_pos g,g,hlq]
  unfold lm
  rw [es,Nat.add_mul_div_right _ _ (pB _),Nat.mul_comm W c,Nat.mod_eq_of_lt hb]
 ·rw [if_neg (by omega)]
  have h1:v < 4294967296 ^ (i / 4+1):=by
   rw [Nat.pow_succ]
   exact Nat.lt_of_lt_of_le hv (Nat.mul_le_mul_left _ (by omega))
  have h2:v+4294967296 ^ (i / 4) * W * c < 4294967296 ^ (i / 4+1):=by
   have hd:=Nat.div_add_mod v (4294967296 ^ (i / 4))
   have hm:=Nat.mod_lt v (pB (i / 4))
   have:4294967296 ^ (i / 4) * (v / 4294967296 ^ (i / 4)+c * W+1) <= 4294967296 ^ (i / 4) * 4294967296:=Nat.mul_le_mul_left _ (by omega)
   rw [Nat.mul_add,Nat.mul_add,Nat.mul_one,<- Nat.mul_assoc,<- Nat.pow_succ] at this
   have e3:4294967296 ^ (i / 4) * c * W=4294967296 ^ (i / 4) * W * c:=by rw [Nat.mul_assoc,Nat.mul_comm c W,<- Nat.mul_assoc]
   omega
  rw [lm_of_lt' h1 (by omega),lm_of_lt' h2 (by omega)]
theorem byte_limb (n i k:Nat) (hk:k < 4):lm n i / 2 ^ (8 * k) % 256=n / 256 ^ (4 * i+k) % 256:=by
 have e2:2 ^ (8 * k)=256 ^ k:=by rw [Nat.pow_mul]
 rw [e2,Nat.pow_add,pow4,<- Nat.div_div_eq_div_mul]
 unfold lm
 have hk':k=0 \/ k=1 \/ k=2 \/ k=3:=by omega
 rcases hk' with h | h | h | h <;> subst h <;> simp only [Nat.pow_zero,Nat.reducePow] <;> omega
theorem byte_step (n p:Nat):n % 256 ^ (p+1)=n % 256 ^ p+256 ^ p * (n / 256 ^ p % 256):=by
 rw [Nat.pow_succ,Nat.mod_mul]
theorem mod_add_cases (b c:Nat) {P:Nat} (hP:0 < P):c % P+b % P=(b+c) % P \/ c % P+b % P=(b+c) % P+P:=by
 rw [Nat.add_mod b c]
 have u1:=Nat.mod_lt b hP
 have u2:=Nat.mod_lt c hP
 generalize b % P=x at *
 generalize c % P=y at *
 by_cases g:x+y < P
 ·rw [Nat.mod_eq_of_lt g];omega
 ·rw [Nat.mod_eq_sub_mod (by omega),Nat.mod_eq_of_lt (by omega)];omega
theorem sub_mods {a b:Nat} (h:b <= a) (i:Nat):(a - b) % 4294967296 ^ (i+1)+b % 4294967296 ^ (i+1)=a % 4294967296 ^ (i+1) \/ (a - b) % 4294967296 ^ (i+1)+b % 4294967296 ^ (i+1)=a % 4294967296 ^ (i+1)+4294967296 ^ (i+1):=by
 obtain ⟨c,rfl⟩:∃ c,a=b+c:=⟨a - b,by omega⟩
 rw [Nat.add_sub_cancel_left]
 exact mod_add_cases b c (pB _)
def rE (q:Rat):List Value:=[.bool (decide (q.num < 0)),.string ⟨⟨bl q.num.natAbs⟩⟩,.string ⟨⟨if q.den=1 then [] else bl q.den⟩⟩]
def dv (d:List UInt8):Int:=if nl d=0 then 1 else (nl d:Int)
def rv (s:Bool) (n d:List UInt8):Rat:=Rat.divInt (sv s n) (dv d)
theorem dv_pos (d:List UInt8):0 < dv d:=by unfold dv;split <;> omega
theorem dv_can (q:Rat):dv (if q.den=1 then [] else bl q.den)=(q.den:Int):=by
 unfold dv
 by_cases h:q.den=1
 ·rw [if_pos h];simp [nl,h]
 ·rw [if_neg h,nl_bl,if_neg q.den_nz]
theorem rv_can (q:Rat):rv (decide (q.num < 0)) (bl q.num.natAbs) (if q.den=1 then [] else bl q.den)=q:=by
 unfold rv;rw [sv_can,dv_can,Rat.num_divInt_den]
theorem divInt_cells {N D:Int} (hD:D ≠ 0):(Rat.divInt N D).num.natAbs=N.natAbs / Nat.gcd N.natAbs D.natAbs /\ (Rat.divInt N D).den=D.natAbs / Nat.gcd N.natAbs D.natAbs /\
  ((Rat.divInt N D).num < 0 ↔ (decide (N < 0) ≠ decide (D < 0) /\ N ≠ 0)):=by
 have hg:D.gcd N=Nat.gcd N.natAbs D.natAbs:=by rw [Int.gcd_comm];rfl
 have hG:0 < Nat.gcd N.natAbs D.natAbs:=Nat.gcd_pos_of_pos_right _ (by omega)
 rw [Rat.num_divInt,Rat.den_divInt,if_neg hD,hg]
 obtain ⟨k,hk⟩:∃ k,N.natAbs=Nat.gcd N.natAbs D.natAbs * k:=Nat.gcd_dvd_left _ _
 generalize Nat.gcd N.natAbs D.natAbs=G at *
 have e:D.sign * N=(G:Int) * (D.sign * N.sign * (k:Int)):=by
  have:N=N.sign * (N.natAbs:Int):=by rw [Int.sign_mul_natAbs]
  conv=>lhs;rw [this,hk]
  rw [Int.natCast_mul]
  grind
 rw [e,Int.mul_ediv_cancel_left _ (by omega)]
 refine ⟨?_,rfl,?_⟩
 ·rw [Int.natAbs_mul,Int.natAbs_mul,hk,Nat.mul_div_cancel_left _ hG]
  rcases Int.lt_trichotomy N 0 with h | h | h
  ·rw [Int.sign_eq_neg_one_of_neg h]
   rcases Int.lt_trichotomy D 0 with h' | h' | h'
   ·rw [Int.sign_eq_neg_one_of_neg h'];simp
   ·exact absurd h' hD
   ·rw [Int.sign_eq_one_of_pos h'];simp
  ·subst h
   have:k=0:=by
    rcases Nat.eq_zero_or_pos k with h | h
    ·exact h
    ·have:=Nat.mul_pos hG h;simp at hk;omega
   subst this;simp
  ·rw [Int.sign_eq_one_of_pos h]
   rcases Int.lt_trichotomy D 0 with h' | h' | h'
   ·rw [Int.sign_eq_neg_one_of_neg h'];simp
   ·exact absurd h' hD
   ·rw [Int.sign_eq_one_of_pos h'];simp
 ·have hk0:N ≠ 0 -> 0 < k:=by
   intro h
   rcases Nat.eq_zero_or_pos k with e | e
   ·subst e;simp at hk;omega
   ·exact e
  rcases Int.lt_trichotomy N 0 with h | h | h
  ·have:=hk0 (by omega)
   rw [Int.sign_eq_neg_one_of_neg h]
   rcases Int.lt_trichotomy D 0 with h' | h' | h'
   ·rw [Int.sign_eq_neg_one_of_neg h'];simp [h,h']
   ·exact absurd h' hD
   ·rw [Int.sign_eq_one_of_pos h'];simp [h];omega
  ·subst h;simp
  ·have:=hk0 (by omega)
   rw [Int.sign_eq_one_of_pos h]
   rcases Int.lt_trichotomy D 0 with h' | h' | h'
   ·rw [Int.sign_eq_neg_one_of_neg h'];simp [h'];omega
   ·exact absurd h' hD
   ·rw [Int.sign_eq_one_of_pos h'];simp;omega
end Go.Eng
end
section
namespace Go.Eng
variable {P:Program} {E:Env}
theorem iota1 (n k N k':Nat):iotaE [(n,k)] N k'=if n=k' then some ⟨k,0,[]⟩ else if k' < N then some ⟨k',0,[]⟩ else none:=by
 unfold iotaE
 by_cases h:n=k'
 ·simp [h]
 ·simp [h]
theorem iota2 (n k m l N k':Nat):iotaE [(n,k),(m,l)] N k'=if n=k' then some ⟨k,0,[]⟩ else if m=k' then some ⟨l,0,[]⟩ else if k' < N then some ⟨k',0,[]⟩ else none:=by
 unfold iotaE
 by_cases h:n=k'
 ·simp [h]
 ·by_cases h2:m=k'
  ·simp [h,h2]
  ·simp [h,h2]
theorem iota0 (N k':Nat):iotaE [] N k'=if k' < N then some ⟨k',0,[]⟩ else none:=by
 simp [iotaE]
def vr1 (vf:Nat -> Value):Prop:=∀ (β:Emb) i j,β i=some ⟨j,0,[]⟩ -> VR β (vf i) (vf j)
theorem vr1_sl (off len cap:Nat):vr1 fun k => .slice (some ⟨k,off,none⟩) len cap:=fun β i j h => .sl i off len cap ⟨j,0,[]⟩ h
theorem vr1_flat {v:Value} (h:flatV v=true):vr1 fun _=>v:=fun β i j _=>flatV_vr h
theorem vr1_pair {f g:Nat -> Value} (hf:vr1 f) (hg:vr1 g):vr1 fun k => .tuple ⟨[f k,g k]⟩:=
 fun β i j h => .tup _ _ (.cons _ _ _ _ (hf β i j h) (.cons _ _ _ _ (hg β i j h) .nil))
def nwS (F:List Value -> Heap -> Option ((Nat -> Value) × Blk)):Spec:=fun args h n=>(F args h).map fun r=>(r.1 n,[(n,some r.2)],1)
def FinN (res:List IRes) (vf:Nat -> Value) (b:Blk) (h:Heap) (N:Nat) (e:IExit) (s:St):Prop:=
 isEnd e /\ ∃ vs k x,resL s res=some vs /\ one vs=vf k /\ N <= k /\ hget s.hp k=some ⟨b.elem,b.sz,x,b.cells⟩ /\ ∀ k,k < N -> hget s.hp k=hget h k
theorem nw_run (hE:EnvOK P E) (hm:P.follows .mixedOrders=true) {f:Nat} {nt:Nat} {res:List IRes} {c:ICode} (ht:trFun P f=some ⟨nt,res,c⟩) {F:List Value -> Heap -> Option ((Nat -> Value) × Blk)}
  (mono:∀ args h h' v,hle h h' -> F args h=some v -> F args h'=some v)
  (hrun:∀ args vf b h N,F args h=some (vf,b) -> (∀ k b,hget h k=some b -> k < N) -> b.x=false /\ b.cells.all isBase=true /\ vr1 vf /\ args.length <= nt /\ wpI E c (FinN res vf b h N) ⟨initT args,h,N+0⟩):SpecOK P f (nwS F):=by
 refine spec_ok hE hm ht ?_ ?_
 ·intro args h h' n o hl e
  simp only [nwS,Option.map_eq_some_iff] at e ⊢
  obtain ⟨v,e1,e2⟩:=e
  exact ⟨v,mono args h h' v hl e1,e2⟩
 ·intro args h n v δ m N e hn hN _
  simp only [nwS,Option.map_eq_some_iff,Prod.mk.injEq] at e
  obtain ⟨⟨vf,b⟩,e1,rfl,rfl,rfl⟩:=e
  obtain ⟨hx,hb,hv,h2,h3⟩:=hrun args vf b h N e1 hN
  refine ⟨h2,wpI_mono _ ?_ h3⟩
  rintro e s ⟨he,vs,k,x,hvs,hvk,hNk,hk,hh⟩
  refine ⟨he,vs,hvs,[(n,k)],?_,?_,?_,?_⟩
  ·intro p hp
   rw [List.mem_singleton] at hp;subst hp
   simp only;omega
  ·rw [hvk];exact hv _ n k (by rw [iota1,if_pos rfl])
  ·intro k' blk e
   simp only [List.cons_append,List.nil_append,hget] at e
   by_cases c:n=k'
   ·rw [if_pos c] at e;cases e
    refine .inr ⟨⟨k,0,[]⟩,_,by rw [iota1,if_pos c],hk,rfl,rfl,fun h=>?_,VRs.of_base hb⟩
    rw [hx] at h;cases h
   ·rw [if_neg c] at e
    have hlt:=hN k' blk e
    exact .inl ⟨hlt,e,by rw [hh k' hlt];exact e⟩
  ·intro k1 k2 L1 L2 a1 a2 b1 b2 e
   rw [iota1] at b1 b2
   by_cases c1:n=k1
   ·by_cases c2:n=k2
    ·omega
    ·rw [if_pos c1] at b1;cases b1
     rw [if_neg c2] at b2
     by_cases c3:k2 < N
     ·rw [if_pos c3] at b2;cases b2;simp only at e;omega
     ·rw [if_neg c3] at b2;cases b2
   ·rw [if_neg c1] at b1
    by_cases c3:k1 < N
    ·rw [if_pos c3] at b1;cases b1
     by_cases c2:n=k2
     ·rw [if_pos c2] at b2;cases b2;simp only at e;omega
     ·rw [if_neg c2] at b2
      by_cases c4:k2 < N
      ·rw [if_pos c4] at b2;cases b2;exact e
      ·rw [if_neg c4] at b2;cases b2
    ·rw [if_neg c3] at b1;cases b1
def vr2 (vf:Nat -> Nat -> Value):Prop:=∀ (β:Emb) i j i' j',β i=some ⟨j,0,[]⟩ -> β i'=some ⟨j',0,[]⟩ -> VR β (vf i i') (vf j j')
def nw2S (F:List Value -> Heap -> Option ((Nat -> Nat -> Value) × Blk × Blk)):Spec:=fun args h n=>(F args h).map fun r=>(r.1 n (n+1),[(n,some r.2.1),(n+1,some r.2.2)],2)
def Fin2 (res:List IRes) (vf:Nat -> Nat -> Value) (b b':Blk) (h:Heap) (N:Nat) (e:IExit) (s:St):Prop:=
 isEnd e /\ ∃ vs k k' x x',resL s res=some vs /\ one vs=vf k k' /\ N <= k /\ N <= k' /\ k ≠ k' /\ hget s.hp k=some ⟨b.elem,b.sz,x,b.cells⟩ /\ hget s.hp k'=some ⟨b'.elem,b'.sz,x',b'.cells⟩ /\ ∀ k,k < N -> hget s.hp k=hget h k
theorem nw2_run (hE:EnvOK P E) (hm:P.follows .mixedOrders=true) {f:Nat} {nt:Nat} {res:List IRes} {c:ICode} (ht:trFun P f=some ⟨nt,res,c⟩) {F:List Value -> Heap -> Option ((Nat -> Nat -> Value) × Blk × Blk)}
  (mono:∀ args h h' v,hle h h' -> F args h=some v -> F args h'=some v)
  (hrun:∀ args vf b b' h N,F args h=some (vf,b,b') -> (∀ k b,hget h k=some b -> k < N) -> b.x=false /\ b'.x=false /\ b.cells.all isBase=true /\ b'.cells.all isBase=true /\ vr2 vf /\ args.length <= nt /\ wpI E c (Fin2 res vf b b' h N) ⟨initT args,h,N+0⟩):SpecOK P f (nw2S F):=by
 refine spec_ok hE hm ht ?_ ?_
 ·intro args h h' n o hl e
  simp only [nw2S,Option.map_eq_some_iff] at e ⊢
  obtain ⟨v,e1,e2⟩:=e
  exact ⟨v,mono args h h' v hl e1,e2⟩
 ·intro args h n v δ m N e hn hN _
  simp only [nw2S,Option.map_eq_some_iff,Prod.mk.injEq] at e
  obtain ⟨⟨vf,b,b'⟩,e1,rfl,rfl,rfl⟩:=e
  obtain ⟨hx,hx',hb,hb',hv,h2,h3⟩:=hrun args vf b b' h N e1 hN
  refine ⟨h2,wpI_mono _ ?_ h3⟩
  rintro e s ⟨he,vs,k,l,x,x',hvs,hvk,hNk,hNl,hkl,hk,hl,hh⟩
  refine ⟨he,vs,hvs,[(n,k),(n+1,l)],?_,?_,?_,?_⟩
  ·intro p hp
   rw [List.mem_cons,List.mem_singleton] at hp
   rcases hp with rfl | rfl
   ·simp only;omega
   ·simp only;omega
  ·rw [hvk];exact hv _ n k (n+1) l (by rw [iota2,if_pos rfl]) (by rw [iota2,if_neg (by omega),if_pos rfl])
  ·intro k' blk e
   simp only [List.cons_append,List.nil_append,hget] at e
   by_cases c:n=k'
   ·rw [if_pos c] at e;cases e
    refine .inr ⟨⟨k,0,[]⟩,_,by rw [iota2,if_pos c],hk,rfl,rfl,fun h=>?_,VRs.of_base hb⟩
    rw [hx] at h;cases h
   ·rw [if_neg c] at e
    by_cases c':n+1=k'
    ·rw [if_pos c'] at e;cases e
     refine .inr ⟨⟨l,0,[]⟩,_,by rw [iota2,if_neg c,if_pos c'],hl,rfl,rfl,fun h=>?_,VRs.of_base hb'⟩
     rw [hx'] at h;cases h
    ·rw [if_neg c'] at e
     have hlt:=hN k' blk e
     exact .inl ⟨hlt,e,by rw [hh k' hlt];exact e⟩
  ·have tell:∀ k1 L1,iotaE [(n,k),(n+1,l)] N k1=some L1 -> (k1=n /\ L1.b=k) \/ (k1=n+1 /\ L1.b=l) \/ (k1 ≠ n /\ k1 ≠ n+1 /\ L1.b=k1 /\ k1 < N):=by
    intro k1 L1 b1
    rw [iota2] at b1
    by_cases c1:n=k1
    ·rw [if_pos c1] at b1;cases b1;exact .inl ⟨c1.symm,rfl⟩
    ·rw [if_neg c1] at b1
     by_cases c2:n+1=k1
     ·rw [if_pos c2] at b1;cases b1;exact .inr (.inl ⟨c2.symm,rfl⟩)
     ·rw [if_neg c2] at b1
      by_cases c3:k1 < N
      ·rw [if_pos c3] at b1;cases b1;exact .inr (.inr ⟨fun h=>c1 h.symm,fun h=>c2 h.symm,rfl,c3⟩)
      ·rw [if_neg c3] at b1;cases b1
   intro k1 k2 L1 L2 a1 a2 b1 b2 e
   have t1:=tell k1 L1 b1
   have t2:=tell k2 L2 b2
   omega
def upS (F:List Value -> Heap -> Option (Value × Nat × Blk)):Spec:=fun args h n=>(F args h).map fun r=>(r.1,[(r.2.1,some r.2.2)],0)
def FinU (res:List IRes) (v:Value) (k:Nat) (b:Blk) (h:Heap) (N:Nat) (e:IExit) (s:St):Prop:=
 isEnd e /\ ∃ vs,resL s res=some vs /\ one vs=v /\ hget s.hp k=some b /\ ∀ k',k' < N -> k' ≠ k -> hget s.hp k'=hget h k'
theorem up_run (hE:EnvOK P E) (hm:P.follows .mixedOrders=true) {f:Nat} {nt:Nat} {res:List IRes} {c:ICode} (ht:trFun P f=some ⟨nt,res,c⟩) {F:List Value -> Heap -> Option (Value × Nat × Blk)}
  (mono:∀ args h h' v,hle h h' -> F args h=some v -> F args h'=some v)
  (hrun:∀ args v k b h N,F args h=some (v,k,b) -> (∀ k b,hget h k=some b -> k < N) -> k < N /\ b.cells.all isBase=true /\ flatW v=true /\ args.length <= nt /\ wpI E c (FinU res v k b h N) ⟨initT args,h,N+0⟩):SpecOK P f (upS F):=by
 refine spec_ok hE hm ht ?_ ?_
 ·intro args h h' n o hl e
  simp only [upS,Option.map_eq_some_iff] at e ⊢
  obtain ⟨v,e1,e2⟩:=e
  exact ⟨v,mono args h h' v hl e1,e2⟩
 ·intro args h n v δ m N e hn hN _
  simp only [upS,Option.map_eq_some_iff,Prod.mk.injEq] at e
  obtain ⟨⟨v0,k,b⟩,e1,rfl,rfl,rfl⟩:=e
  obtain ⟨hk,hb,hv,h2,h3⟩:=hrun args v0 k b h N e1 hN
  refine ⟨h2,wpI_mono _ ?_ h3⟩
  rintro e s ⟨he,vs,hvs,hvk,hbk,hh⟩
  refine ⟨he,vs,hvs,[],fun p hp=>(by simp at hp),by rw [hvk];exact flatW_vr hv,?_,?_⟩
  ·intro k' blk e
   simp only [List.cons_append,List.nil_append,hget] at e
   by_cases c:k=k'
   ·rw [if_pos c] at e;cases e
    refine .inr ⟨⟨k,0,[]⟩,b,by rw [iota0,if_pos (by omega),c],hbk,rfl,rfl,id,VRs.of_base hb⟩
   ·rw [if_neg c] at e
    have hlt:=hN k' blk e
    exact .inl ⟨hlt,e,by rw [hh k' hlt (fun e=>c e.symm)];exact e⟩
  ·intro k1 k2 L1 L2 a1 a2 b1 b2 e
   rw [iota0] at b1 b2
   by_cases c1:k1 < N
   ·by_cases c2:k2 < N
    ·rw [if_pos c1] at b1;rw [if_pos c2] at b2
     cases b1;cases b2;exact e
    ·rw [if_neg c2] at b2;cases b2
   ·rw [if_neg c1] at b1;cases b1
theorem a_call2 {tm:List (Nat × Value)} {hp:Heap} {N k d:Nat} {v:Value} {x y:Nat × Option Blk} {K:St -> Prop} :
  @aft (some d) (some (v,[x,y],2)) ⟨(⟨tm,hp,N+k⟩,K)⟩=K ⟨(d,v) :: tm,x :: y :: hp,N+(k+2)⟩:=propext Iff.rfl
def shows (h:Heap):Value -> Option (List Value)
 | .slice (some ⟨k,off,none⟩) len _=>match hget h k with
  | some blk=>if off+len <= blk.cells.length then some ((blk.cells.drop off).take len) else none
  | none=>none
 | _=>none
theorem shows_mono {h h':Heap} {v:Value} {cs:List Value} (hl:hle h h') (e:shows h v=some cs):shows h' v=some cs:=by
 unfold shows at e ⊢
 split at e
 ·split at e
  ·rename_i blk hb
   simp only [hl _ _ hb];exact e
  ·cases e
 ·cases e
theorem shows_inv {h:Heap} {v:Value} {cs:List Value} (e:shows h v=some cs):∃ k off len cap blk,v = .slice (some ⟨k,off,none⟩) len cap /\ hget h k=some blk /\ off+len <= blk.cells.length /\ cs=(blk.cells.drop off).take len /\ cs.length=len:=by
 unfold shows at e
 split at e
 ·rename_i k off len cap
  split at e
  ·rename_i blk hb
   split at e
   ·rename_i hl
    cases e
    refine ⟨k,off,len,cap,blk,rfl,hb,hl,rfl,?_⟩
    rw [List.length_take,List.length_drop];omega
   ·cases e
  ·cases e
 ·cases e
end Go.Eng
end
section
set_option maxRecDepth 4000
namespace Go.Eng
open Go Go.Proofs Go.IntWalk
def spTrB:List Value -> Option Value
 | [.string ⟨⟨l⟩⟩,.int .u8 0]=>if l.length <= 1099511627776 then some (.string ⟨⟨bl (nl l)⟩⟩) else none
 | _=>none
def c130:ICode:=
 (.seq (.reg [qq 4 (.mv (.c e0))]) (.seq (.block 0 (.loop (.seq (.seq (.reg [qq 5 (.mv (.t 0)),qq 6 (.lens (.t 5)),qq 7 (.bin .gtr (.t 6) (ci 0)),qq 8 (.mv (.t 7)),⟨(some 9),(some (8,true)),(.mv (.t 0))⟩,⟨(some 10),(some (8,true)),(.mv (.t 0))⟩,⟨(some 11),(some (8,true)),(.lens (.t 10))⟩,⟨(some 12),(some (8,true)),(.bin .sub (.t 11) (ci 1))⟩,⟨(some 13),(some (8,true)),(.idstr (.t 9) (.t 12))⟩,⟨(some 14),(some (8,true)),(.mv (.t 1))⟩,⟨(some 15),(some (8,true)),(.bin .eql (.t 13) (.t 14))⟩,qq 16 (.pick (.t 8) (.t 15) (.c (.bool false)))]) (.cond (.t 16) .skip (.exit 0))) (.block 1 (.reg [qq 17 (.mv (.t 0)),qq 18 (.mv (.t 0)),qq 19 (.lens (.t 18)),qq 20 (.bin .sub (.t 19) (ci 1)),qq 21 (.slstr (.t 17) none (some (.t 20))),qq 0 (.mv (.t 21))]))))) (.seq (.reg [qq 22 (.mv (.t 0)),qq 4 (.mv (.t 22))]) .ret)))
theorem tr130:trFun Tryz.prog 130=some ⟨23,[.t 4],c130⟩:=by kernel_rfl
theorem ok_trB:SpecOK Tryz.prog 130 (flat spTrB):=by
 refine flat_run (env_nil _) mixed tr130 ?_
 intro args v h N hG
 unfold spTrB at hG
 split at hG
 case h_2=>cases hG
 rename_i l
 split at hG
 case isFalse=>cases hG
 rename_i hl
 cases hG
 refine ⟨rfl,by simp,?_⟩
 simp only [c130,G0,Nat.reduceAdd]
 simp only [↓R0,R1,simprocAttr,-Int.reduceAbs]
 refine lp_parts (fun n tm hp nx=>tmget tm 0 = .string ⟨⟨l.take n⟩⟩ /\ tmget tm 1 = .int .u8 0 /\ n <= l.length /\ (∀ i,n <= i -> i < l.length -> l[i]?=some 0) /\ hp=h /\ nx=N+0) ?_ l.length ⟨?_,?_,Nat.le_refl _,fun i h1 h2=>by omega,rfl,rfl⟩
 ·intro n tm hp nx ⟨h0,h1,hn,hz,rfl,rfl⟩
  have hlen:(l.take n).length=n:=by rw [List.length_take];omega
  simp only [↓R0,R1,simprocAttr,-Int.reduceAbs,h0,h1,hlen]
  by_cases hb:0 < n
  ·obtain ⟨n,rfl⟩:∃ n',n=n'+1:=⟨n - 1,by omega⟩
   have e1:IntKind.i64.wrap (((n+1:Nat):Int) - 1)=(n:Int):=by rw [i64_in _ (by omega)];omega
   obtain ⟨b,hbb⟩:∃ b,l[n]?=some b:=⟨_,List.getElem?_eq_getElem (by omega)⟩
   have ht:(l.take (n+1))[n]?=some b:=by rw [List.getElem?_take,if_pos (by omega),hbb]
   have ht2:(l.take (n+1)).take n=l.take n:=by rw [List.take_take];congr 1;omega
   have hb2:(((n+1:Nat):Int) > 0)=True:=eq_true (by omega)
   have hb3:n <= n+1:=by omega
   simp only [↓R0,R1,simprocAttr,-Int.reduceAbs,h0,h1,hb2,hlen,e1,ht]
   refine cd_case (fun hc=>?_) (fun hc=>?_)
   ·simp only [↓R0,R1,simprocAttr,-Int.reduceAbs,h0,h1,e1,hlen,hb3,ht2]
    refine ⟨n,by omega,rfl,by omega,fun i h1 h2=>?_⟩
    by_cases e:i=n
    ·subst e;rw [hbb];congr 1;apply UInt8.toNat_inj.1;simp at hc ⊢;omega
    ·exact hz i (by omega) h2
   ·simp only [↓R0,R1,simprocAttr,-Int.reduceAbs,h0]
    refine fin_t trivial ?_ (fun k hk=>rfl)
    simp only [↓R0,R1,simprocAttr,-Int.reduceAbs,h0]
    rw [take_norm hn hz (.inr ⟨b,hbb,fun e=>by subst e;simp at hc⟩)]
  ·have e:n=0:=by omega
   subst e
   simp only [↓R0,R1,simprocAttr,-Int.reduceAbs,h0,Int.natCast_zero]
   refine fin_t trivial ?_ (fun k hk=>rfl)
   simp only [↓R0,R1,simprocAttr,-Int.reduceAbs,h0]
   have:=take_norm hn hz (.inl rfl)
   rw [List.take_zero] at this
   rw [<- this]
 ·simp only [↓R0,R1,simprocAttr,-Int.reduceAbs,List.take_length]
 ·simp only [↓R0,R1,simprocAttr,-Int.reduceAbs]
def spTrR:List Value -> Option Value
 | [.string ⟨⟨l⟩⟩,.string ⟨⟨[0]⟩⟩]=>if l.length <= 1099511627776 then some (.string ⟨⟨bl (nl l)⟩⟩) else none
 | _=>none
def c120:ICode:=
 (.seq (.reg [qq 4 (.mv (.c e0))]) (.seq (.seq (.reg [qq 7 (.mv (.t 0)),qq 8 (.bin .eql (.t 7) (.c e0)),qq 9 (.mv (.t 8)),⟨(some 10),(some (9,false)),(.mv (.t 1))⟩,⟨(some 11),(some (9,false)),(.bin .eql (.t 10) (.c e0))⟩,qq 12 (.pick (.t 9) (.c (.bool true)) (.t 11))]) (.cond (.t 12) (.seq (.reg [qq 13 (.mv (.t 0)),qq 4 (.mv (.t 13))]) .ret) .skip)) (.seq (.seq (.reg [qq 14 (.mv (.t 1)),qq 15 (.lens (.t 14)),qq 16 (.bin .eql (.t 15) (ci 1)),qq 17 (.mv (.t 16)),⟨(some 18),(some (17,true)),(.mv (.t 1))⟩,⟨(some 19),(some (17,true)),(.idstr (.t 18) (ci 0))⟩,⟨(some 20),(some (17,true)),(.bin .lss (.t 19) (.c (.int .u8 128)))⟩,qq 21 (.pick (.t 17) (.t 20) (.c (.bool false)))]) (.cond (.t 21) (.seq (.reg [qq 22 (.mv (.t 0)),qq 23 (.mv (.t 1)),qq 24 (.idstr (.t 23) (ci 0)),qq 25 (.call 130 [(.t 22),(.t 24)]),qq 4 (.mv (.t 25))]) .ret) .skip)) (.seq (.seq (.reg [qq 27 (.mv (.t 1)),qq 28 (.call 131 [(.t 27)]),qq 26 (.mv (.t 28)),qq 29 (.ext (.t 26) 0),qq 30 (.ext (.t 26) 1),qq 5 (.alloc 135 256 [(.bool false),(.bool false),(.bool false),(.bool false),(.bool false),(.bool false),(.bool false),(.bool false),(.bool false),(.bool false),(.bool false),(.bool false),(.bool false),(.bool false),(.bool false),(.bool false),(.bool false),(.bool false),(.bool false),(.bool false),(.bool false),(.bool false),(.bool false),(.bool false),(.bool false),(.bool false),(.bool false),(.bool false),(.bool false),(.bool false),(.bool false),(.bool false),(.bool false),(.bool false),(.bool false),(.bool false),(.bool false),(.bool false),(.bool false),(.bool false),(.bool false),(.bool false),(.bool false),(.bool false),(.bool false),(.bool false),(.bool false),(.bool false),(.bool false),(.bool false),(.bool false),(.bool false),(.bool false),(.bool false),(.bool false),(.bool false),(.bool false),(.bool false),(.bool false),(.bool false),(.bool false),(.bool false),(.bool false),(.bool false),(.bool false),(.bool false),(.bool false),(.bool false),(.bool false),(.bool false),(.bool false),(.bool false),(.bool false),(.bool false),(.bool false),(.bool false),(.bool false),(.bool false),(.bool false),(.bool false),(.bool false),(.bool false),(.bool false),(.bool false),(.bool false),(.bool false),(.bool false),(.bool false),(.bool false),(.bool false),(.bool false),(.bool false),(.bool false),(.bool false),(.bool false),(.bool false),(.bool false),(.bool false),(.bool false),(.bool false),(.bool false),(.bool false),(.bool false),(.bool false),(.bool false),(.bool false),(.bool false),(.bool false),(.bool false),(.bool false),(.bool false),(.bool false),(.bool false),(.bool false),(.bool false),(.bool false),(.bool false),(.bool false),(.bool false),(.bool false),(.bool false),(.bool false),(.bool false),(.bool false),(.bool false),(.bool false),(.bool false),(.bool false),(.bool false),(.bool false),(.bool false),(.bool false),(.bool false),(.bool false),(.bool false),(.bool false),(.bool false),(.bool false),(.bool false),(.bool false),(.bool false),(.bool false),(.bool false),(.bool false),(.bool false),(.bool false),(.bool false),(.bool false),(.bool false),(.bool false),(.bool false),(.bool false),(.bool false),(.bool false),(.bool false),(.bool false),(.bool false),(.bool false),(.bool false),(.bool false),(.bool false),(.bool false),(.bool false),(.bool false),(.bool false),(.bool false),(.bool false),(.bool false),(.bool false),(.bool false),(.bool false),(.bool false),(.bool false),(.bool false),(.bool false),(.bool false),(.bool false),(.bool false),(.bool false),(.bool false),(.bool false),(.bool false),(.bool false),(.bool false),(.bool false),(.bool false),(.bool false),(.bool false),(.bool false),(.bool false),(.bool false),(.bool false),(.bool false),(.bool false),(.bool false),(.bool false),(.bool false),(.bool false),(.bool false),(.bool false),(.bool false),(.bool false),(.bool false),(.bool false),(.bool false),(.bool false),(.bool false),(.bool false),(.bool false),(.bool false),(.bool false),(.bool false),(.bool false),(.bool false),(.bool false),(.bool false),(.bool false),(.bool false),(.bool false),(.bool false),(.bool false),(.bool false),(.bool false),(.bool false),(.bool false),(.bool false),(.bool false),(.bool false),(.bool false),(.bool false),(.bool false),(.bool false),(.bool false),(.bool false),(.bool false),(.bool false),(.bool false),(.bool false),(.bool false),(.bool false),(.bool false),(.bool false),(.bool false),(.bool false),(.bool false),(.bool false),(.bool false),(.bool false),(.bool false),(.bool false),(.bool false),(.bool false),(.bool false),(.bool false),(.bool false),(.bool false)]),qn (.store 256 (.t 5) (.t 29)),qq 6 (.mv (.t 30))]) (.seq (.reg [qq 31 (.mv (.t 6))]) (.cond (.t 31) (.seq (.reg [qq 32 (.mv (.t 0)),qq 33 (.call 132 [(.t 32),(.t 5)]),qq 4 (.mv (.t 33))]) .ret) .skip))) (.seq (.reg [qq 34 (.mv (.t 0)),qq 35 (.mv (.t 1)),qq 36 (.call 133 [(.t 34),(.t 35)]),qq 4 (.mv (.t 36))]) .ret)))))
theorem tr120:trFun Tryz.prog 120=some ⟨37,[.t 4],c120⟩:=by kernel_rfl
theorem ok_trR:SpecOK Tryz.prog 120 (flat spTrR):=by
 refine flat_run (env_cons ok_trB (env_nil _)) mixed tr120 ?_
 intro args v h N hG
 unfold spTrR at hG
 split at hG
 case h_2=>cases hG
 rename_i l
 split at hG
 case isFalse=>cases hG
 rename_i hl
 cases hG
 refine ⟨rfl,by simp,?_⟩
 simp only [c120,G0,Nat.reduceAdd]
 by_cases e:l=[]
 ·subst e
  have:bl (nl [])=[]:=by simp [nl,bl_zero]
  rw [this]
  simp only [↓R0,R1,simprocAttr,-Int.reduceAbs,Fin,isEnd,resL,res1,iE,rE]
  exact ⟨_,rfl,rfl,fun k hk=>by simp only [ne_nb hk,if_false]⟩
 ·have e':¬ (l=([]:List UInt8)):=e
  have z0:((0:UInt8).toNat:Int)=0:=rfl
  simp only [↓R0,R1,simprocAttr,-Int.reduceAbs,e',spTrB,hl,z0,List.cons_ne_nil,Fin,isEnd,resL,res1,iE,rE]
  exact ⟨_,rfl,rfl,fun k hk=>by simp only [ne_nb hk,if_false]⟩
def spNNorm:List Value -> Option Value
 | [.string ⟨⟨l⟩⟩]=>if l.length <= 1099511627776 then some (.string ⟨⟨bl (nl l)⟩⟩) else none
 | _=>none
def c106:ICode:=
 (.seq (.reg [qq 2 (.mv (.c e0))]) (.seq (.reg [qq 3 (.mv (.t 0)),qq 4 (.call 120 [(.t 3),(.c (.string ⟨⟨[0]⟩⟩))]),qq 2 (.mv (.t 4))]) .ret))
theorem tr106:trFun Tryz.prog 106=some ⟨5,[.t 2],c106⟩:=by kernel_rfl
theorem ok_nNorm:SpecOK Tryz.prog 106 (flat spNNorm):=by
 refine flat_run (env_cons ok_trR (env_nil _)) mixed tr106 ?_
 intro args v h N hG
 unfold spNNorm at hG
 split at hG
 case h_2=>cases hG
 rename_i l
 split at hG
 case isFalse=>cases hG
 rename_i hl
 cases hG
 refine ⟨rfl,by simp,?_⟩
 simp only [c106,G0,Nat.reduceAdd]
 simp only [↓R0,R1,simprocAttr,-Int.reduceAbs,spTrR,hl,Fin,isEnd,resL,res1,iE,rE]
 exact ⟨_,rfl,rfl,fun k hk=>by simp only [ne_nb hk,if_false]⟩
def spAdd32:List Value -> Option Value
 | [.int .u32 x,.int .u32 y,.int .u32 c]=>if 0 <= x /\ x < 4294967296 /\ 0 <= y /\ y < 4294967296 /\ 0 <= c /\ c <= 1 then some (.tuple ⟨[.int .u32 ((x+y+c) % 4294967296),.int .u32 ((x+y+c) / 4294967296)]⟩) else none
 | _=>none
def c122:ICode:=
 (.seq (.reg [qq 6 (.mv (.c (.int .u32 0))),qq 7 (.mv (.c (.int .u32 0)))]) (.seq (.reg [qq 9 (.mv (.t 0)),qq 10 (.conv .u64 (.t 9)),qq 11 (.mv (.t 1)),qq 12 (.conv .u64 (.t 11)),qq 13 (.bin .add (.t 10) (.t 12)),qq 14 (.mv (.t 2)),qq 15 (.conv .u64 (.t 14)),qq 16 (.bin .add (.t 13) (.t 15)),qq 8 (.mv (.t 16))]) (.seq (.reg [qq 17 (.mv (.t 8)),qq 18 (.conv .u32 (.t 17)),qq 6 (.mv (.t 18))]) (.seq (.reg [qq 19 (.mv (.t 8)),qq 20 (.bin .shr (.t 19) (.c (.int .u64 32))),qq 21 (.conv .u32 (.t 20)),qq 7 (.mv (.t 21))]) .ret))))
theorem tr122:trFun Tryz.prog 122=some ⟨22,[.t 6,.t 7],c122⟩:=by kernel_rfl
theorem ok_add32:SpecOK Tryz.prog 122 (flat spAdd32):=by
 refine flat_run (env_nil _) mixed tr122 ?_
 intro args v h N hG
 unfold spAdd32 at hG
 split at hG
 case h_2=>cases hG
 rename_i x y c
 split at hG
 case isFalse=>cases hG
 rename_i hl
 cases hG
 refine ⟨rfl,by simp,?_⟩
 have w64:∀ z:Int,0 <= z -> z < 18446744073709551616 -> IntKind.u64.wrap z=z:=fun z h1 h2=>u64_in z ⟨h1,by omega⟩
 have w1:=w64 x (by omega) (by omega)
 have w2:=w64 y (by omega) (by omega)
 have w3:=w64 c (by omega) (by omega)
 have w4:=w64 (x+y) (by omega) (by omega)
 have w5:=w64 (x+y+c) (by omega) (by omega)
 have s1:IntKind.u32.wrap ((x+y+c).fdiv (2 ^ min 32 IntKind.u64.bits))=(x+y+c) / 4294967296:=by
  have:(2:Int) ^ min 32 IntKind.u64.bits=4294967296:=rfl
  rw [this,Int.fdiv_eq_ediv_of_nonneg _ (by omega),u32_int];omega
 have s2:=u32_int (x+y+c)
 simp only [c122,G0,Nat.reduceAdd]
 simp only [↓R0,R1,simprocAttr,-Int.reduceAbs,w1,w2,w3,w4,w5,s1,s2,Fin,isEnd,resL,res1,iE,rE]
 exact ⟨_,rfl,rfl,fun k hk=>by simp only [ne_nb hk,if_false]⟩
def spSub32:List Value -> Option Value
 | [.int .u32 x,.int .u32 y,.int .u32 c]=>if 0 <= x /\ x < 4294967296 /\ 0 <= y /\ y < 4294967296 /\ 0 <= c /\ c <= 1 then some (.tuple ⟨[.int .u32 ((x - y - c) % 4294967296),.int .u32 (if x < y+c then 1 else 0)]⟩) else none
 | _=>none
def c125:ICode:=
 (.seq (.reg [qq 6 (.mv (.c (.int .u32 0))),qq 7 (.mv (.c (.int .u32 0)))]) (.seq (.reg [qq 8 (.mv (.t 0)),qq 9 (.mv (.t 1)),qq 10 (.bin .sub (.t 8) (.t 9)),qq 11 (.mv (.t 2)),qq 12 (.bin .sub (.t 10) (.t 11)),qq 6 (.mv (.t 12))]) (.seq (.reg [qq 13 (.mv (.t 0)),qq 14 (.un .xor (.t 13)),qq 15 (.mv (.t 1)),qq 16 (.bin .and (.t 14) (.t 15)),qq 17 (.mv (.t 0)),qq 18 (.mv (.t 1)),qq 19 (.bin .xor (.t 17) (.t 18)),qq 20 (.un .xor (.t 19)),qq 21 (.mv (.t 6)),qq 22 (.bin .and (.t 20) (.t 21)),qq 23 (.bin .or (.t 16) (.t 22)),qq 24 (.bin .shr (.t 23) (.c (.int .u64 31))),qq 7 (.mv (.t 24))]) .ret)))
theorem tr125:trFun Tryz.prog 125=some ⟨25,[.t 6,.t 7],c125⟩:=by kernel_rfl
theorem w_and (X Y:BitVec 32):IntKind.u32.wrap ((BitVec.ofInt IntKind.u32.bits (X.toNat:Int) &&& BitVec.ofInt IntKind.u32.bits (Y.toNat:Int)).toNat:Int)=((X &&& Y).toNat:Int):=by
 rw [BitVec.toNat_and,bv32 X.isLt,bv32 Y.isLt,<- BitVec.toNat_and,u32_nat (X &&& Y).isLt]
theorem w_or (X Y:BitVec 32):IntKind.u32.wrap ((BitVec.ofInt IntKind.u32.bits (X.toNat:Int) ||| BitVec.ofInt IntKind.u32.bits (Y.toNat:Int)).toNat:Int)=((X ||| Y).toNat:Int):=by
 rw [BitVec.toNat_or,bv32 X.isLt,bv32 Y.isLt,<- BitVec.toNat_or,u32_nat (X ||| Y).isLt]
theorem w_xor (X Y:BitVec 32):IntKind.u32.wrap ((BitVec.ofInt IntKind.u32.bits (X.toNat:Int) ^^^ BitVec.ofInt IntKind.u32.bits (Y.toNat:Int)).toNat:Int)=((X ^^^ Y).toNat:Int):=by
 rw [BitVec.toNat_xor,bv32 X.isLt,bv32 Y.isLt,<- BitVec.toNat_xor,u32_nat (X ^^^ Y).isLt]
theorem w_not (X:BitVec 32):IntKind.u32.wrap ((BitVec.ofInt IntKind.u32.bits (if IntKind.u32.signed=true then -1 else IntKind.u32.max) ^^^ BitVec.ofInt IntKind.u32.bits (X.toNat:Int)).toNat:Int)=((~~~X).toNat:Int):=by
 have e:(BitVec.ofInt IntKind.u32.bits (if IntKind.u32.signed=true then -1 else IntKind.u32.max)).toNat=4294967295:=rfl
 have e2:(4294967295:Nat)=(BitVec.allOnes 32).toNat:=rfl
 rw [BitVec.toNat_xor,bv32 X.isLt,e,e2,<- BitVec.toNat_xor,BitVec.allOnes_xor,u32_nat (~~~X).isLt]
theorem ok_sub32:SpecOK Tryz.prog 125 (flat spSub32):=by
 refine flat_run (env_nil _) mixed tr125 ?_
 intro args v h N hG
 unfold spSub32 at hG
 split at hG
 case h_2=>cases hG
 rename_i x y c
 split at hG
 case isFalse=>cases hG
 rename_i hl
 cases hG
 refine ⟨rfl,by simp,?_⟩
 obtain ⟨h1,h2,h3,h4,h5,h6⟩:=hl
 obtain ⟨X,hX⟩:∃ X:BitVec 32,x=(X.toNat:Int):=⟨BitVec.ofNat 32 x.toNat,by rw [BitVec.toNat_ofNat];omega⟩
 obtain ⟨Y,hY⟩:∃ Y:BitVec 32,y=(Y.toNat:Int):=⟨BitVec.ofNat 32 y.toNat,by rw [BitVec.toNat_ofNat];omega⟩
 obtain ⟨D,hD⟩:∃ D:BitVec 32,(x - y - c) % 4294967296=(D.toNat:Int):=⟨BitVec.ofNat 32 ((x - y - c) % 4294967296).toNat,by rw [BitVec.toNat_ofNat];omega⟩
 subst hX
 subst hY
 have wd:IntKind.u32.wrap (IntKind.u32.wrap ((X.toNat:Int) - (Y.toNat:Int)) - c)=(D.toNat:Int):=by
  rw [u32_int,u32_int,<- hD];omega
 have sh:∀ n:Nat,(n:Int).fdiv (2 ^ min 31 IntKind.u32.bits)=((n / 2147483648:Nat):Int):=by
  intro n
  have:(2:Int) ^ min 31 IntKind.u32.bits=2147483648:=rfl
  rw [this,Int.fdiv_eq_ediv_of_nonneg _ (by omega)];omega
 have bw:=borrow32 X Y D c.toNat (by omega) (by rw [<- hD];congr 1;omega)
 have bw2:((((~~~X &&& Y) ||| (~~~(X ^^^ Y) &&& D)).toNat / 2147483648:Nat):Int)=if (X.toNat:Int) < (Y.toNat:Int)+c then 1 else 0:=by
  rw [bw]
  by_cases g:X.toNat < Y.toNat+c.toNat
  ·rw [if_pos g,if_pos (by omega)];rfl
  ·rw [if_neg g,if_neg (by omega)];rfl
 simp only [c125,G0,Nat.reduceAdd]
 simp only [↓R0,R1,simprocAttr,-Int.reduceAbs,wd,w_and,w_or,w_xor,w_not,sh,Fin,isEnd,resL,res1,iE,rE]
 refine ⟨_,rfl,?_,fun k hk=>trivial⟩
 rw [hD,<- bw2]
 rfl
def spDiv32:List Value -> Option Value
 | [.int .u32 x,.int .u32 y,.int .u32 d]=>if 0 <= x /\ x < d /\ 0 <= y /\ y < 4294967296 /\ d < 4294967296 then some (.tuple ⟨[.int .u32 ((x * 4294967296+y) / d),.int .u32 ((x * 4294967296+y) % d)]⟩) else none
 | _=>none
def c134:ICode:=
 (.seq (.reg [qq 6 (.mv (.c (.int .u32 0))),qq 7 (.mv (.c (.int .u32 0)))]) (.seq (.seq (.reg [qq 9 (.mv (.t 2)),qq 10 (.bin .neq (.t 9) (.c (.int .u32 0))),qq 11 (.mv (.t 10)),⟨(some 12),(some (11,true)),(.mv (.t 2))⟩,⟨(some 13),(some (11,true)),(.mv (.t 0))⟩,⟨(some 14),(some (11,true)),(.bin .leq (.t 12) (.t 13))⟩,qq 15 (.pick (.t 11) (.t 14) (.c (.bool false)))]) (.cond (.t 15) .fail .skip)) (.seq (.reg [qq 17 (.mv (.t 0)),qq 18 (.conv .u64 (.t 17)),qq 19 (.bin .shl (.t 18) (.c (.int .u64 32))),qq 20 (.mv (.t 1)),qq 21 (.conv .u64 (.t 20)),qq 22 (.bin .or (.t 19) (.t 21)),qq 8 (.mv (.t 22))]) (.seq (.dreg [qu 23 (.mv (.t 8)),qu 24 (.mv (.t 2)),qu 25 (.conv .u64 (.t 24)),qu 26 (.bin .quo (.t 23) (.t 25)),qu 27 (.conv .u32 (.t 26)),qu 28 (.mv (.t 8)),qu 29 (.mv (.t 2)),qu 30 (.conv .u64 (.t 29)),qu 31 (.bin .rem (.t 28) (.t 30)),qu 32 (.conv .u32 (.t 31)),qu 6 (.mv (.t 27)),qu 7 (.mv (.t 32))]) .ret))))
theorem tr134:trFun Tryz.prog 134=some ⟨33,[.t 6,.t 7],c134⟩:=by kernel_rfl
theorem ok_div32:SpecOK Tryz.prog 134 (flat spDiv32):=by
 refine flat_run (env_nil _) mixed tr134 ?_
 intro args v h N hG
 unfold spDiv32 at hG
 split at hG
 case h_2=>cases hG
 rename_i x y d
 split at hG
 case isFalse=>cases hG
 rename_i hl
 cases hG
 refine ⟨rfl,by simp,?_⟩
 obtain ⟨h1,h2,h3,h4,h5⟩:=hl
 obtain ⟨x,rfl⟩:=Int.eq_ofNat_of_zero_le h1
 obtain ⟨y,rfl⟩:=Int.eq_ofNat_of_zero_le h3
 obtain ⟨d,rfl⟩:=Int.eq_ofNat_of_zero_le (show 0 <= d by omega)
 have w1:=u64_nat (n:=x) (by omega)
 have w2:=u64_nat (n:=y) (by omega)
 have w3:=u64_nat (n:=d) (by omega)
 have d0:¬ (d=0):=by omega
 have c1:¬ ((d:Int)=0):=by omega
 have c2:¬ (d <= x):=by omega
 have s1:IntKind.u64.wrap ((x:Int) * 2 ^ min 32 IntKind.u64.bits)=((x * 2 ^ 32:Nat):Int):=by
  have:(2:Int) ^ min 32 IntKind.u64.bits=4294967296:=rfl
  rw [this,<- u64_nat (n:=x * 2 ^ 32) (by omega)];congr 1
 have s2:IntKind.u64.wrap ((BitVec.ofInt IntKind.u64.bits ((x * 2 ^ 32:Nat):Int) ||| BitVec.ofInt IntKind.u64.bits (y:Int)).toNat:Int)=((y+x * 2 ^ 32:Nat):Int):=by
  rw [<- or_u64 (x:=y) (c:=x) (s:=32) (by omega) (by omega),BitVec.or_comm]
 have e0:(x:Int) * 4294967296+y=((y+x * 2 ^ 32:Nat):Int):=by omega
 have hz:y+x * 2 ^ 32 < d * 4294967296:=by omega
 have hz2:(y+x * 2 ^ 32) / d < 4294967296:=(Nat.div_lt_iff_lt_mul (by omega)).2 (by omega)
 have hz3:=Nat.mod_lt (y+x * 2 ^ 32) (show d > 0 by omega)
 rw [e0]
 have e1:((y+x * 2 ^ 32:Nat):Int).tdiv (d:Int)=(((y+x * 2 ^ 32) / d:Nat):Int):=by rw [Int.tdiv_eq_ediv_of_nonneg (by omega)];rfl
 have e2:((y+x * 2 ^ 32:Nat):Int).tmod (d:Int)=(((y+x * 2 ^ 32) % d:Nat):Int):=by rw [Int.tmod_eq_emod_of_nonneg (by omega)];rfl
 have hz4:(y+x * 2 ^ 32) / d < 18446744073709551616:=by omega
 have w4:=u64_nat hz4
 have w5:=u32_nat hz2
 have w6:=u32_nat (n:=(y+x * 2 ^ 32) % d) (by omega)
 simp only [c134,G0,Nat.reduceAdd]
 simp only [↓R0,R1,simprocAttr,-Int.reduceAbs,w1,w2,w3,c1,c2,d0,s1,s2,e1,e2,w4,w5,w6,Fin,isEnd,resL,res1,iE,rE]
 exact ⟨_,rfl,rfl,fun k hk=>by simp only [ne_nb hk,if_false]⟩
def tab8:List UInt8:=[0,1,2,2,3,3,3,3,4,4,4,4,4,4,4,4,5,5,5,5,5,5,5,5,5,5,5,5,5,5,5,5,6,6,6,6,6,6,6,6,6,6,6,6,6,6,6,6,6,6,6,6,6,6,6,6,6,6,6,6,6,6,6,6,7,7,7,7,7,7,7,7,7,7,7,7,7,7,7,7,7,7,7,7,7,7,7,7,7,7,7,7,7,7,7,7,7,7,7,7,7,7,7,7,7,7,7,7,7,7,7,7,7,7,7,7,7,7,7,7,7,7,7,7,7,7,7,7,8,8,8,8,8,8,8,8,8,8,8,8,8,8,8,8,8,8,8,8,8,8,8,8,8,8,8,8,8,8,8,8,8,8,8,8,8,8,8,8,8,8,8,8,8,8,8,8,8,8,8,8,8,8,8,8,8,8,8,8,8,8,8,8,8,8,8,8,8,8,8,8,8,8,8,8,8,8,8,8,8,8,8,8,8,8,8,8,8,8,8,8,8,8,8,8,8,8,8,8,8,8,8,8,8,8,8,8,8,8,8,8,8,8,8,8,8,8,8,8,8,8,8,8,8,8,8,8]
def l8 (n:Nat):Nat:=(tab8[n]?.getD 0).toNat
def l32r (n:Nat):Nat:=
 if 65536 <= n then (if 256 <= n / 65536 then 24+l8 (n / 16777216) else 16+l8 (n / 65536)) else (if 256 <= n then 8+l8 (n / 256) else l8 n)
theorem l32_ex:∃ f:Nat -> Nat,∀ n,f n=l32r n:=⟨_,fun _=>rfl⟩
noncomputable def l32:Nat -> Nat:=Classical.choose l32_ex
theorem l32_eq (n:Nat):l32 n=l32r n:=Classical.choose_spec l32_ex n
theorem l8_tab:∀ n,n < 256 -> n < 2 ^ l8 n /\ l8 n <= 8:=of_decide_eq_true (by kernel_rfl)
theorem l8_lt {n:Nat} (h:n < 256):n < 2 ^ l8 n:=(l8_tab n h).1
theorem l8_le {n:Nat} (h:n < 256):l8 n <= 8:=(l8_tab n h).2
theorem l32_le {n:Nat} (h:n < 4294967296):l32 n <= 32:=by
 rw [l32_eq];unfold l32r
 split
 ·split
  ·have:=l8_le (n:=n / 16777216) (by omega);omega
  ·have:=l8_le (n:=n / 65536) (by omega);omega
 ·split
  ·have:=l8_le (n:=n / 256) (by omega);omega
  ·have:=l8_le (n:=n) (by omega);omega
theorem l32_lt {n:Nat} (h:n < 4294967296):n < 2 ^ l32 n:=by
 rw [l32_eq];unfold l32r
 split
 ·split
  ·have:=l8_lt (n:=n / 16777216) (by omega)
   rw [Nat.pow_add];omega
  ·have:=l8_lt (n:=n / 65536) (by omega)
   rw [Nat.pow_add];omega
 ·split
  ·have:=l8_lt (n:=n / 256) (by omega)
   rw [Nat.pow_add];omega
  ·exact l8_lt (by omega)
theorem l32_pos {n:Nat} (h:0 < n) (h2:n < 4294967296):1 <= l32 n:=by
 have:=l32_lt h2
 rcases Nat.eq_zero_or_pos (l32 n) with e | e
 ·rw [e] at this;omega
 ·exact e
noncomputable def spLen32:List Value -> Option Value
 | [.int .u32 x]=>if 0 <= x /\ x < 4294967296 then some (.int .i64 (l32 x.toNat:Nat)) else none
 | _=>none
def c142:ICode:=
 (.seq (.reg [qq 2 (.mv (ci 0))]) (.seq (.seq (.reg [qq 3 (.mv (.t 0)),qq 4 (.bin .geq (.t 3) (.c (.int .u32 65536)))]) (.cond (.t 4) (.seq (.reg [qq 5 (.mv (.t 0)),qq 6 (.bin .shr (.t 5) (.c (.int .u64 16))),qq 0 (.mv (.t 6))]) (.reg [qq 2 (.mv (ci 16))])) .skip)) (.seq (.seq (.reg [qq 7 (.mv (.t 0)),qq 8 (.bin .geq (.t 7) (.c (.int .u32 256)))]) (.cond (.t 8) (.seq (.reg [qq 9 (.mv (.t 0)),qq 10 (.bin .shr (.t 9) (.c (.int .u64 8))),qq 0 (.mv (.t 10))]) (.reg [qq 11 (.mv (.t 2)),qq 12 (.bin .add (.t 11) (ci 8)),qq 2 (.mv (.t 12))])) .skip)) (.seq (.reg [qq 13 (.mv (.t 2)),qq 14 (.mv (.t 0)),qq 15 (.conv .u8 (.t 14)),qq 16 (.idstr (.c (.string ⟨⟨[0,1,2,2,3,3,3,3,4,4,4,4,4,4,4,4,5,5,5,5,5,5,5,5,5,5,5,5,5,5,5,5,6,6,6,6,6,6,6,6,6,6,6,6,6,6,6,6,6,6,6,6,6,6,6,6,6,6,6,6,6,6,6,6,7,7,7,7,7,7,7,7,7,7,7,7,7,7,7,7,7,7,7,7,7,7,7,7,7,7,7,7,7,7,7,7,7,7,7,7,7,7,7,7,7,7,7,7,7,7,7,7,7,7,7,7,7,7,7,7,7,7,7,7,7,7,7,7,8,8,8,8,8,8,8,8,8,8,8,8,8,8,8,8,8,8,8,8,8,8,8,8,8,8,8,8,8,8,8,8,8,8,8,8,8,8,8,8,8,8,8,8,8,8,8,8,8,8,8,8,8,8,8,8,8,8,8,8,8,8,8,8,8,8,8,8,8,8,8,8,8,8,8,8,8,8,8,8,8,8,8,8,8,8,8,8,8,8,8,8,8,8,8,8,8,8,8,8,8,8,8,8,8,8,8,8,8,8,8,8,8,8,8,8,8,8,8,8,8,8,8,8,8,8,8,8]⟩⟩)) (.t 15)),qq 17 (.conv .i64 (.t 16)),qq 18 (.bin .add (.t 13) (.t 17)),qq 2 (.mv (.t 18))]) .ret))))
theorem tr142:trFun Tryz.prog 142=some ⟨19,[.t 2],c142⟩:=by kernel_rfl
theorem tab8_get {n:Nat} (h:n < 256):tab8[n]?=some (UInt8.ofNat (l8 n)):=by
 unfold l8
 have hl:n < tab8.length:=h
 rw [List.getElem?_eq_getElem hl];simp
theorem shr32 (n k:Nat) (h:k <= 32):(n:Int).fdiv (2 ^ min k IntKind.u32.bits)=((n / 2 ^ k:Nat):Int):=by
 have:min k IntKind.u32.bits=k:=Nat.min_eq_left h
 rw [this,Int.fdiv_eq_ediv_of_nonneg _ (Int.pow_nonneg (by omega))]
 rw [Int.natCast_ediv,Int.natCast_pow];rfl
theorem ok_len32:SpecOK Tryz.prog 142 (flat spLen32):=by
 refine flat_run (env_nil _) mixed tr142 ?_
 intro args v h N hG
 unfold spLen32 at hG
 split at hG
 case h_2=>cases hG
 rename_i x
 split at hG
 case isFalse=>cases hG
 rename_i hl
 cases hG
 refine ⟨rfl,by simp,?_⟩
 obtain ⟨h1,h2⟩:=hl
 obtain ⟨x,rfl⟩:=Int.eq_ofNat_of_zero_le h1
 have s16:=shr32 x 16 (by omega)
 have s8:=shr32 x 8 (by omega)
 have s24:=shr32 (x / 2 ^ 16) 8 (by omega)
 have u8:∀ n:Nat,n < 256 -> IntKind.u8.wrap (n:Int)=n:=fun n h=>u8_in _ ⟨by omega,by omega⟩
 have i64:∀ n:Nat,n <= 32 -> IntKind.i64.wrap (n:Int)=n:=fun n h=>i64_in _ (by omega)
 have fold8:∀ n:Nat,n < 256 -> ([0,1,2,2,3,3,3,3,4,4,4,4,4,4,4,4,5,5,5,5,5,5,5,5,5,5,5,5,5,5,5,5,6,6,6,6,6,6,6,6,6,6,6,6,6,6,6,6,6,6,6,6,6,6,6,6,6,6,6,6,6,6,6,6,7,7,7,7,7,7,7,7,7,7,7,7,7,7,7,7,7,7,7,7,7,7,7,7,7,7,7,7,7,7,7,7,7,7,7,7,7,7,7,7,7,7,7,7,7,7,7,7,7,7,7,7,7,7,7,7,7,7,7,7,7,7,7,7,8,8,8,8,8,8,8,8,8,8,8,8,8,8,8,8,8,8,8,8,8,8,8,8,8,8,8,8,8,8,8,8,8,8,8,8,8,8,8,8,8,8,8,8,8,8,8,8,8,8,8,8,8,8,8,8,8,8,8,8,8,8,8,8,8,8,8,8,8,8,8,8,8,8,8,8,8,8,8,8,8,8,8,8,8,8,8,8,8,8,8,8,8,8,8,8,8,8,8,8,8,8,8,8,8,8,8,8,8,8,8,8,8,8,8,8,8,8,8,8,8,8,8,8,8,8,8,8]:List UInt8)[n]?=some (UInt8.ofNat (l8 n)):=fun n h=>tab8_get h
 have t8:∀ n:Nat,n < 256 -> ((UInt8.ofNat (l8 n)).toNat:Int)=(l8 n:Int):=fun n h=>by
  have:=l8_le h
  simp;omega
 simp only [c142,G0,Nat.reduceAdd]
 simp only [Int.toNat_natCast]
 rw [l32_eq];unfold l32r
 by_cases c1:65536 <= x
 ·rw [if_pos c1]
  have g1:((x:Int) >= 65536)=True:=eq_true (by omega)
  by_cases c2:256 <= x / 65536
  ·rw [if_pos c2]
   have g2:(((x / 2 ^ 16:Nat):Int) >= 256)=True:=eq_true (by omega)
   have e:x / 2 ^ 16 / 2 ^ 8=x / 16777216:=by omega
   have w1:=u8 (x / 16777216) (by omega)
   have w2:=fold8 (x / 16777216) (by omega)
   have w3:=t8 (x / 16777216) (by omega)
   have w4:=i64 (l8 (x / 16777216)) (Nat.le_trans (l8_le (by omega)) (by omega))
   have w5:=i64 (24+l8 (x / 16777216)) (by have:=l8_le (n:=x / 16777216) (by omega);omega)
   have w6:IntKind.i64.wrap 24=24:=i64_in _ (by omega)
   have e2:(24:Int)+(l8 (x / 16777216):Int)=((24+l8 (x / 16777216):Nat):Int):=by omega
   simp only [↓R0,R1,simprocAttr,-Int.reduceAbs,g1,s16,g2,s24,e,w1,w2,w3,w4,w6,e2,w5,Fin,isEnd,resL,res1,iE,rE]
   exact ⟨_,rfl,rfl,fun k hk=>by simp only [ne_nb hk,if_false]⟩
  ·rw [if_neg c2]
   have g2:(((x / 2 ^ 16:Nat):Int) >= 256)=False:=eq_false (by omega)
   have e:x / 2 ^ 16=x / 65536:=by omega
   have w1:=u8 (x / 65536) (by omega)
   have w2:=fold8 (x / 65536) (by omega)
   have w3:=t8 (x / 65536) (by omega)
   have w4:=i64 (l8 (x / 65536)) (Nat.le_trans (l8_le (by omega)) (by omega))
   have w5:=i64 (16+l8 (x / 65536)) (by have:=l8_le (n:=x / 65536) (by omega);omega)
   have e2:(16:Int)+(l8 (x / 65536):Int)=((16+l8 (x / 65536):Nat):Int):=by omega
   rw [e] at g2
   simp only [↓R0,R1,simprocAttr,-Int.reduceAbs,g1,s16,g2,e,w1,w2,w3,w4,e2,w5,Fin,isEnd,resL,res1,iE,rE]
   exact ⟨_,rfl,rfl,fun k hk=>by simp only [ne_nb hk,if_false]⟩
 ·rw [if_neg c1]
  have g1:((x:Int) >= 65536)=False:=eq_false (by omega)
  by_cases c2:256 <= x
  ·rw [if_pos c2]
   have g2:((x:Int) >= 256)=True:=eq_true (by omega)
   have e:x / 2 ^ 8=x / 256:=by omega
   have w1:=u8 (x / 256) (by omega)
   have w2:=fold8 (x / 256) (by omega)
   have w3:=t8 (x / 256) (by omega)
   have w4:=i64 (l8 (x / 256)) (Nat.le_trans (l8_le (by omega)) (by omega))
   have w5:=i64 (8+l8 (x / 256)) (by have:=l8_le (n:=x / 256) (by omega);omega)
   have w6:IntKind.i64.wrap 8=8:=i64_in _ (by omega)
   have e2:(8:Int)+(l8 (x / 256):Int)=((8+l8 (x / 256):Nat):Int):=by omega
   simp only [↓R0,R1,simprocAttr,-Int.reduceAbs,g1,g2,s8,e,w1,w2,w3,w4,w6,e2,w5,Fin,isEnd,resL,res1,iE,rE]
   exact ⟨_,rfl,rfl,fun k hk=>by simp only [ne_nb hk,if_false]⟩
  ·rw [if_neg c2]
   have g2:((x:Int) >= 256)=False:=eq_false (by omega)
   have w1:=u8 x (by omega)
   have w2:=fold8 x (by omega)
   have w3:=t8 x (by omega)
   have w4:=i64 (l8 x) (Nat.le_trans (l8_le (by omega)) (by omega))
   have e2:(0:Int)+(l8 x:Int)=(l8 x:Int):=by omega
   simp only [↓R0,R1,simprocAttr,-Int.reduceAbs,g1,g2,w1,w2,w3,w4,e2,Fin,isEnd,resL,res1,iE,rE]
   exact ⟨_,rfl,rfl,fun k hk=>by simp only [ne_nb hk,if_false]⟩
noncomputable def spLz32:List Value -> Option Value
 | [.int .u32 x]=>if 0 <= x /\ x < 4294967296 then some (.int .i64 ((32 - l32 x.toNat:Nat):Int)) else none
 | _=>none
def c135:ICode:=
 (.seq (.reg [qq 2 (.mv (ci 0))]) (.seq (.reg [qq 3 (.mv (.t 0)),qq 4 (.call 142 [(.t 3)]),qq 5 (.bin .sub (ci 32) (.t 4)),qq 2 (.mv (.t 5))]) .ret))
theorem tr135:trFun Tryz.prog 135=some ⟨6,[.t 2],c135⟩:=by kernel_rfl
theorem ok_lz32:SpecOK Tryz.prog 135 (flat spLz32):=by
 refine flat_run (env_cons ok_len32 (env_nil _)) mixed tr135 ?_
 intro args v h N hG
 unfold spLz32 at hG
 split at hG
 case h_2=>cases hG
 rename_i x
 split at hG
 case isFalse=>cases hG
 rename_i hl
 cases hG
 refine ⟨rfl,by simp,?_⟩
 obtain ⟨h1,h2⟩:=hl
 have hb:=l32_le (n:=x.toNat) (by omega)
 have e:IntKind.i64.wrap (32 - (l32 x.toNat:Int))=((32 - l32 x.toNat:Nat):Int):=by rw [i64_in _ (by omega)];omega
 simp only [c135,G0,Nat.reduceAdd]
 simp only [↓R0,R1,simprocAttr,-Int.reduceAbs,spLen32,h1,h2,e,Fin,isEnd,resL,res1,iE,rE]
 exact ⟨_,rfl,rfl,fun k hk=>by simp only [ne_nb hk,if_false]⟩
end Go.Eng
end
section
namespace Go.Eng
open Go Go.Proofs Go.IntWalk
def spAdd:List Value -> Option Value
 | [.string ⟨⟨l⟩⟩,.string ⟨⟨m⟩⟩]=>if l.length <= 549755813888 /\ m.length <= 549755813888 then some (.string ⟨⟨bl (nl l+nl m)⟩⟩) else none
 | _=>none
def c79:ICode:=
 (.seq (.reg [qq 4 (.mv (.c e0))]) (.seq (.reg [qq 8 (.bslice 5 1 0 [] []),qq 5 (.mv (.t 8))]) (.seq (.reg [qq 6 (.mv (ci 0))]) (.seq (.seq (.reg [qq 7 (.mv (ci 0))]) (.block 0 (.loop (.seq (.seq (.reg [qq 9 (.mv (.t 7)),qq 10 (.mv (.t 0)),qq 11 (.lens (.t 10)),qq 12 (.bin .lss (.t 9) (.t 11)),qq 13 (.mv (.t 12)),⟨(some 14),(some (13,false)),(.mv (.t 7))⟩,⟨(some 15),(some (13,false)),(.mv (.t 1))⟩,⟨(some 16),(some (13,false)),(.lens (.t 15))⟩,⟨(some 17),(some (13,false)),(.bin .lss (.t 14) (.t 16))⟩,qq 18 (.pick (.t 13) (.c (.bool true)) (.t 17)),qq 19 (.mv (.t 18)),⟨(some 20),(some (19,false)),(.mv (.t 6))⟩,⟨(some 21),(some (19,false)),(.bin .gtr (.t 20) (ci 0))⟩,qq 22 (.pick (.t 19) (.c (.bool true)) (.t 21))]) (.cond (.t 22) .skip (.exit 0))) (.seq (.block 1 (.seq (.reg [qq 25 (.mv (.t 6)),qq 26 (.mv (.t 0)),qq 27 (.mv (.t 7)),qq 28 (.call 104 [(.t 26),(.t 27)]),qq 29 (.mv (.t 1)),qq 30 (.mv (.t 7)),qq 31 (.call 104 [(.t 29),(.t 30)]),qq 32 (.bin .add (.t 28) (.t 31)),qq 33 (.bin .add (.t 25) (.t 32)),qq 6 (.mv (.t 33))]) (.seq (.reg [qq 34 (.mv (.t 5)),qq 35 (.mv (.t 6)),qq 36 (.bin .rem (.t 35) (ci 256)),qq 37 (.conv .u8 (.t 36)),qq 38 (.bslice 5 1 1 [(.int .u8 0)] [(0,1,(.t 37))]),qq 39 (.app 5 1 1 (.t 34) (.t 38)),qq 5 (.mv (.t 39))]) (.reg [qq 40 (.mv (.t 6)),qq 41 (.bin .quo (.t 40) (ci 256)),qq 6 (.mv (.t 41))])))) (.reg [qq 23 (.mv (.t 7)),qq 24 (.bin .add (.t 23) (ci 1)),qq 7 (.mv (.t 24))])))))) (.seq (.reg [qq 42 (.mv (.t 5)),qq 43 (.b2s (.t 42)),qq 44 (.call 103 [(.t 43)]),qq 4 (.mv (.t 44))]) .ret)))))
theorem tr79:trFun Tryz.prog 79=some ⟨45,[.t 4],c79⟩:=by kernel_rfl
theorem nl_drop (l:List UInt8) (i:Nat):nl (l.drop i)=(l[i]?.getD 0).toNat+256 * nl (l.drop (i+1)):=by
 by_cases h:i < l.length
 ·rw [List.drop_eq_getElem_cons h,List.getElem?_eq_getElem h];rfl
 ·rw [List.drop_eq_nil_of_le (by omega),List.getElem?_eq_none (by omega),List.drop_eq_nil_of_le (by omega)];rfl
theorem addStep {i ov p q L M:Nat} (hi:i+ov <= max L M+1) (hov:ov <= 1) (b1:p < 256) (b2:q < 256) (z1:¬ i < L -> p=0) (z2:¬ i < M -> q=0) (c:i < L \/ i < M \/ ov > 0) :
  i+1+(ov+(p+q)) / 256 <= max L M+1 /\ 2 * (max L M - (i+1))+(ov+(p+q)) / 256 < 2 * (max L M - i)+ov /\ (ov+(p+q)) / 256 <= 1:=by
 by_cases g1:i < L
 ·omega
 ·by_cases g2:i < M
  ·omega
  ·have:=z1 g1;have:=z2 g2;omega
set_option maxHeartbeats 1000000 in
theorem ok_r1Add:SpecOK Tryz.prog 79 (flat spAdd):=by
 refine flat_run (env_cons ok_r1Norm (env_cons ok_r1At (env_nil _))) mixed tr79 ?_
 intro args v h N hG
 unfold spAdd at hG
 split at hG
 case h_2=>cases hG
 rename_i l m
 split at hG
 case isFalse=>cases hG
 rename_i hl
 obtain ⟨hl,hm⟩:=hl
 cases hG
 refine ⟨rfl,by simp,?_⟩
 simp only [c79,G0,Nat.reduceAdd]
 simp only [↓R0,R1,simprocAttr,-Int.reduceAbs]
 refine lp_parts (fun n tm hp nx=>∃ (i ov j k:Nat) (out:List UInt8) (x:Bool),n=2 * (max l.length m.length - i)+ov /\ tmget tm 0 = .string ⟨⟨l⟩⟩ /\ tmget tm 1 = .string ⟨⟨m⟩⟩ /\ tmget tm 7 = .int .i64 i /\ tmget tm 6 = .int .i64 ov /\
   tmget tm 5 = .slice (some ⟨N+k,0,none⟩) i i /\ hget hp (N+k)=some ⟨5,1,x,bc out⟩ /\ out.length=i /\ i+ov <= max l.length m.length+1 /\ ov <= 1 /\
   nl out+256 ^ i * (ov+nl (l.drop i)+nl (m.drop i))=nl l+nl m /\ (∀ q,q < N -> hget hp q=hget h q) /\ nx=N+j /\ k < j) ?_ (2 * max l.length m.length)
  ⟨0,0,1,0,[],true,by omega,?_,?_,?_,?_,?_,?_,rfl,by omega,by omega,by simp [nl],?_,rfl,by omega⟩
 ·intro n tm hp nx ⟨i,ov,j,k,out,x,hn,h0,h1,h7,h6,h5,hk,ho,hi,hov,hval,hh,hnx,hkj⟩
  subst hnx
  have b1:(l[i]?.getD 0).toNat < 256:=UInt8.toNat_lt _
  have b2:(m[i]?.getD 0).toNat < 256:=UInt8.toNat_lt _
  have sl:l.length <= 1099511627776:=by omega
  have sm:m.length <= 1099511627776:=by omega
  have hv1:=nl_drop l i
  have hv2:=nl_drop m i
  have z1:¬ i < l.length -> (l[i]?.getD 0).toNat=0:=fun g=>by rw [List.getElem?_eq_none (by omega)];rfl
  have z2:¬ i < m.length -> (m[i]?.getD 0).toNat=0:=fun g=>by rw [List.getElem?_eq_none (by omega)];rfl
  generalize hp1:(l[i]?.getD 0).toNat=p at *
  generalize hp2:(m[i]?.getD 0).toNat=q at *
  have e1:IntKind.i64.wrap ((p:Int)+(q:Int))=((p+q:Nat):Int):=by rw [i64_in _ (by omega)];omega
  have e2:IntKind.i64.wrap ((ov:Int)+((p+q:Nat):Int))=((ov+(p+q):Nat):Int):=by rw [i64_in _ (by omega)];omega
  have e3:((ov+(p+q):Nat):Int).tmod 256=(((ov+(p+q)) % 256:Nat):Int):=by rw [Int.tmod_eq_emod_of_nonneg (by omega)];omega
  have e4:IntKind.u8.wrap (((ov+(p+q)) % 256:Nat):Int)=((UInt8.ofNat ((ov+(p+q)) % 256)).toNat:Int):=by rw [u8_in _ (by omega)];simp
  have e5:IntKind.i64.wrap (((ov+(p+q):Nat):Int).tdiv 256)=(((ov+(p+q)) / 256:Nat):Int):=by rw [i64_quo _ _ (by omega)];omega
  have e6:IntKind.i64.wrap ((i:Int)+1)=((i+1:Nat):Int):=by rw [i64_in _ (by omega)];omega
  have f1:¬ (i+1 <= i):=by omega
  have f2:i+1 <= 140737488355328:=by omega
  have f3:¬ (j=k):=by omega
  have f4:0+1 <= 1:=by omega
  have fin:i+1+(ov+(p+q)) / 256 <= max l.length m.length+1 -> nl (out ++ [UInt8.ofNat ((ov+(p+q)) % 256)])+256 ^ (i+1) * ((ov+(p+q)) / 256+nl (l.drop (i+1))+nl (m.drop (i+1)))=nl l+nl m:=by
   intro _
   rw [nl_append,ho,<- hval,hv1,hv2]
   have t:(UInt8.ofNat ((ov+(p+q)) % 256)).toNat=(ov+(p+q)) % 256:=by simp
   simp only [nl,t]
   generalize nl (l.drop (i+1))=A
   generalize nl (m.drop (i+1))=B
   rw [Nat.pow_succ,Nat.add_assoc,Nat.mul_assoc,<- Nat.mul_add]
   congr 2
   omega
  by_cases c1:i < l.length
  ·have st:=addStep hi hov b1 b2 z1 z2 (.inl c1)
   rw [hn]
   simp only [↓R0,R1,simprocAttr,-Int.reduceAbs,h0,h1,h7,h6,h5,c1,spAt,sl,sm,hp1,hp2,e1,e2,e3,e4,e5,e6,f1,f2,f3,f4,hk,ho]
   refine ⟨2 * (max l.length m.length - (i+1))+(ov+(p+q)) / 256,st.2.1,i+1,(ov+(p+q)) / 256,j+2,j+1,out ++ [UInt8.ofNat ((ov+(p+q)) % 256)],false,rfl,rfl,rfl,rfl,?_,by simp [ho],st.1,st.2.2,fin st.1,?_,rfl,Nat.lt_succ_self _⟩
   ·rw [if_pos rfl,bc_append];rfl
   ·intro q hq
    simp only [if_neg (show ¬ N+(j+1)=q by omega),if_neg (show ¬ N+k=q by omega),if_neg (show ¬ N+j=q by omega)]
    exact hh q hq
  by_cases c2:i < m.length
  ·have st:=addStep hi hov b1 b2 z1 z2 (.inr (.inl c2))
   rw [hn]
   simp only [↓R0,R1,simprocAttr,-Int.reduceAbs,h0,h1,h7,c1,c2]
   simp only [↓R0,R1,simprocAttr,-Int.reduceAbs,h0,h1,h7,h6,h5,c1,spAt,sl,sm,hp1,hp2,e1,e2,e3,e4,e5,e6,f1,f2,f3,f4,hk,ho]
   refine ⟨2 * (max l.length m.length - (i+1))+(ov+(p+q)) / 256,st.2.1,i+1,(ov+(p+q)) / 256,j+2,j+1,out ++ [UInt8.ofNat ((ov+(p+q)) % 256)],false,rfl,rfl,rfl,rfl,?_,by simp [ho],st.1,st.2.2,fin st.1,?_,rfl,Nat.lt_succ_self _⟩
   ·rw [if_pos rfl,bc_append];rfl
   ·intro q hq
    simp only [if_neg (show ¬ N+(j+1)=q by omega),if_neg (show ¬ N+k=q by omega),if_neg (show ¬ N+j=q by omega)]
    exact hh q hq
  by_cases c3:(ov:Int) > 0
  ·have st:=addStep hi hov b1 b2 z1 z2 (.inr (.inr (by omega)))
   rw [hn]
   simp only [↓R0,R1,simprocAttr,-Int.reduceAbs,h0,h1,h7,h6,c1,c2,c3]
   simp only [↓R0,R1,simprocAttr,-Int.reduceAbs,h0,h1,h7,h6,h5,c1,spAt,sl,sm,hp1,hp2,e1,e2,e3,e4,e5,e6,f1,f2,f3,f4,hk,ho]
   refine ⟨2 * (max l.length m.length - (i+1))+(ov+(p+q)) / 256,st.2.1,i+1,(ov+(p+q)) / 256,j+2,j+1,out ++ [UInt8.ofNat ((ov+(p+q)) % 256)],false,rfl,rfl,rfl,rfl,?_,by simp [ho],st.1,st.2.2,fin st.1,?_,rfl,Nat.lt_succ_self _⟩
   ·rw [if_pos rfl,bc_append];rfl
   ·intro q hq
    simp only [if_neg (show ¬ N+(j+1)=q by omega),if_neg (show ¬ N+k=q by omega),if_neg (show ¬ N+j=q by omega)]
    exact hh q hq
  have c4:ov=0:=by omega
  subst c4
  have so:out.length <= 1099511627776:=by omega
  simp only [↓R0,R1,simprocAttr,-Int.reduceAbs,h0,h1,h7,h6,h5,c1,c2,c3,hk,spNorm]
  subst ho
  have f5:0+out.length <= out.length:=by omega
  simp only [↓R0,R1,simprocAttr,-Int.reduceAbs,f5,List.drop_zero,bc_take_all,byteList_bc,so,spNorm]
  refine fin_t trivial ?_ hh
  simp only [↓R0,R1,simprocAttr,-Int.reduceAbs]
  rw [List.drop_eq_nil_of_le (by omega),List.drop_eq_nil_of_le (by omega)] at hval
  simp [nl] at hval
  rw [hval]
 ·(try simp only [↓R0,R1,simprocAttr,-Int.reduceAbs]) <;> rfl
 ·(try simp only [↓R0,R1,simprocAttr,-Int.reduceAbs]) <;> rfl
 ·(try simp only [↓R0,R1,simprocAttr,-Int.reduceAbs]) <;> rfl
 ·(try simp only [↓R0,R1,simprocAttr,-Int.reduceAbs]) <;> rfl
 ·(try simp only [↓R0,R1,simprocAttr,-Int.reduceAbs]) <;> rfl
 ·(try simp only [↓R0,R1,simprocAttr,-Int.reduceAbs]) <;> rfl
 ·intro q hq
  simp only [↓R0,R1,simprocAttr,-Int.reduceAbs,hget_new hq]
def spOf:List Value -> Option Value
 | [.int .u64 n]=>if 0 <= n /\ n <= 18446744073709551615 then some (.string ⟨⟨bl n.toNat⟩⟩) else none
 | _=>none
def c82:ICode:=
 (.seq (.reg [qq 2 (.mv (.c e0))]) (.seq (.reg [qq 4 (.bslice 5 1 0 [] []),qq 3 (.mv (.t 4))]) (.seq (.block 0 (.loop (.seq (.seq (.reg [qq 5 (.mv (.t 0)),qq 6 (.bin .gtr (.t 5) (.c (.int .u64 0)))]) (.cond (.t 6) .skip (.exit 0))) (.block 1 (.seq (.reg [qq 7 (.mv (.t 3)),qq 8 (.mv (.t 0)),qq 9 (.bin .rem (.t 8) (.c (.int .u64 256))),qq 10 (.conv .u8 (.t 9)),qq 11 (.bslice 5 1 1 [(.int .u8 0)] [(0,1,(.t 10))]),qq 12 (.app 5 1 1 (.t 7) (.t 11)),qq 3 (.mv (.t 12))]) (.reg [qq 13 (.mv (.t 0)),qq 14 (.bin .quo (.t 13) (.c (.int .u64 256))),qq 0 (.mv (.t 14))])))))) (.seq (.reg [qq 15 (.mv (.t 3)),qq 16 (.b2s (.t 15)),qq 2 (.mv (.t 16))]) .ret))))
theorem tr82:trFun Tryz.prog 82=some ⟨17,[.t 2],c82⟩:=by kernel_rfl
theorem ok_r1Of:SpecOK Tryz.prog 82 (flat spOf):=by
 refine flat_run (env_nil _) mixed tr82 ?_
 intro args v h N hG
 unfold spOf at hG
 split at hG
 case h_2=>cases hG
 rename_i n0
 split at hG
 case isFalse=>cases hG
 rename_i hl
 cases hG
 refine ⟨rfl,by simp,?_⟩
 obtain ⟨n0,rfl⟩:∃ k:Nat,n0=(k:Int):=⟨n0.toNat,by omega⟩
 rw [Int.toNat_natCast]
 simp only [c82,G0,Nat.reduceAdd]
 simp only [↓R0,R1,simprocAttr,-Int.reduceAbs]
 refine lp_parts (fun n tm hp nx=>∃ (i j k:Nat) (out:List UInt8) (x:Bool),n <= n0 /\ tmget tm 0 = .int .u64 n /\
   tmget tm 3 = .slice (some ⟨N+k,0,none⟩) i i /\ hget hp (N+k)=some ⟨5,1,x,bc out⟩ /\ out.length=i /\ i+(bl n).length=(bl n0).length /\
   bl n0=out ++ bl n /\ (∀ q,q < N -> hget hp q=hget h q) /\ nx=N+j /\ k < j) ?_ n0
  ⟨0,1,0,[],true,by omega,?_,?_,?_,rfl,by omega,by simp,?_,rfl,by omega⟩
 ·intro n tm hp nx ⟨i,j,k,out,x,hn,h0,h3,hk,ho,hi,hval,hh,hnx,hkj⟩
  subst hnx
  have hlen:(bl n0).length <= 8:=bl_length_le.2 (by omega)
  have e3:((n:Nat):Int).tmod 256=((n % 256:Nat):Int):=by rw [Int.tmod_eq_emod_of_nonneg (by omega)];omega
  have e4:IntKind.u8.wrap ((n % 256:Nat):Int)=((UInt8.ofNat (n % 256)).toNat:Int):=by rw [u8_in _ (by omega)];simp
  have e5:IntKind.u64.wrap (((n:Nat):Int).tdiv 256)=((n / 256:Nat):Int):=by rw [u64_quo _ _ (by omega)];omega
  have f1:¬ (i+1 <= i):=by omega
  have f2:i+1 <= 140737488355328:=by omega
  have f3:¬ (j=k):=by omega
  have f4:0+1 <= 1:=by omega
  by_cases c:(n:Int) > 0
  ·simp only [↓R0,R1,simprocAttr,-Int.reduceAbs,h0,h3,c,e3,e4,e5,f1,f2,f3,f4,hk,ho]
   have hb:bl n=UInt8.ofNat (n % 256) :: bl (n / 256):=bl_pos (by omega)
   refine ⟨n / 256,by omega,i+1,j+2,j+1,out ++ [UInt8.ofNat (n % 256)],false,by omega,rfl,rfl,?_,by simp [ho],?_,?_,?_,rfl,by omega⟩
   ·rw [if_pos rfl,bc_append];rfl
   ·rw [hb] at hi;simp at hi;omega
   ·rw [hval,hb];simp
   ·intro q hq
    simp only [if_neg (show ¬ N+(j+1)=q by omega),if_neg (show ¬ N+k=q by omega),if_neg (show ¬ N+j=q by omega)]
    exact hh q hq
  ·have c0:n=0:=by omega
   subst c0
   subst ho
   have f5:0+out.length <= out.length:=by omega
   simp only [↓R0,R1,simprocAttr,-Int.reduceAbs,h0,h3,c,hk,f5,List.drop_zero,bc_take_all,byteList_bc]
   refine fin_t trivial ?_ hh
   simp only [↓R0,R1,simprocAttr,-Int.reduceAbs]
   rw [hval,bl_zero];simp
 ·(try simp only [↓R0,R1,simprocAttr,-Int.reduceAbs]) <;> rfl
 ·(try simp only [↓R0,R1,simprocAttr,-Int.reduceAbs]) <;> rfl
 ·(try simp only [↓R0,R1,simprocAttr,-Int.reduceAbs]) <;> rfl
 ·intro q hq
  simp only [↓R0,R1,simprocAttr,-Int.reduceAbs,hget_new hq]
def spSub:List Value -> Option Value
 | [.string ⟨⟨l⟩⟩,.string ⟨⟨m⟩⟩]=>if l.length <= 549755813888 /\ m.length <= 549755813888 then
   (if nl l < nl m then some (.tuple ⟨[.string ⟨⟨[]⟩⟩,.bool false]⟩) else some (.tuple ⟨[.string ⟨⟨bl (nl l - nl m)⟩⟩,.bool true]⟩)) else none
 | _=>none
theorem nl_take_succ (l:List UInt8) (i:Nat):nl (l.take (i+1))=nl (l.take i)+256 ^ i * (l[i]?.getD 0).toNat:=by
 by_cases h:i < l.length
 ·rw [List.take_add_one,List.getElem?_eq_getElem h,Option.toList_some,nl_append,List.length_take,Nat.min_eq_left (by omega)]
  simp [nl]
 ·rw [List.take_of_length_le (by omega),List.take_of_length_le (by omega),List.getElem?_eq_none (by omega)];simp
theorem nl_take_drop (l:List UInt8) (i:Nat) (hi:i <= l.length):nl l=nl (l.take i)+256 ^ i * nl (l.drop i):=by
 conv=>lhs;rw [<- List.take_append_drop i l]
 rw [nl_append,List.length_take,Nat.min_eq_left hi]
def c80:ICode:=
 (.seq (.reg [qq 4 (.mv (.c e0)),qq 5 (.mv (.c (.bool false)))]) (.seq (.seq (.reg [qq 10 (.mv (.t 0)),qq 11 (.mv (.t 1)),qq 12 (.call 105 [(.t 10),(.t 11)]),qq 13 (.bin .lss (.t 12) (ci 0))]) (.cond (.t 13) (.seq (.reg [qq 4 (.mv (.c e0)),qq 5 (.mv (.c (.bool false)))]) .ret) .skip)) (.seq (.reg [qq 14 (.bslice 5 1 0 [] []),qq 6 (.mv (.t 14))]) (.seq (.reg [qq 7 (.mv (ci 0))]) (.seq (.seq (.reg [qq 8 (.mv (ci 0))]) (.block 0 (.loop (.seq (.seq (.reg [qq 15 (.mv (.t 8)),qq 16 (.mv (.t 0)),qq 17 (.lens (.t 16)),qq 18 (.bin .lss (.t 15) (.t 17))]) (.cond (.t 18) .skip (.exit 0))) (.seq (.block 1 (.seq (.reg [qq 21 (.mv (.t 0)),qq 22 (.mv (.t 8)),qq 23 (.call 104 [(.t 21),(.t 22)]),qq 24 (.mv (.t 1)),qq 25 (.mv (.t 8)),qq 26 (.call 104 [(.t 24),(.t 25)]),qq 27 (.bin .sub (.t 23) (.t 26)),qq 28 (.mv (.t 7)),qq 29 (.bin .sub (.t 27) (.t 28)),qq 9 (.mv (.t 29))]) (.seq (.reg [qq 7 (.mv (ci 0))]) (.seq (.seq (.reg [qq 30 (.mv (.t 9)),qq 31 (.bin .lss (.t 30) (ci 0))]) (.cond (.t 31) (.seq (.reg [qq 32 (.mv (.t 9)),qq 33 (.bin .add (.t 32) (ci 256)),qq 9 (.mv (.t 33))]) (.reg [qq 7 (.mv (ci 1))])) .skip)) (.reg [qq 34 (.mv (.t 6)),qq 35 (.mv (.t 9)),qq 36 (.conv .u8 (.t 35)),qq 37 (.bslice 5 1 1 [(.int .u8 0)] [(0,1,(.t 36))]),qq 38 (.app 5 1 1 (.t 34) (.t 37)),qq 6 (.mv (.t 38))]))))) (.reg [qq 19 (.mv (.t 8)),qq 20 (.bin .add (.t 19) (ci 1)),qq 8 (.mv (.t 20))])))))) (.seq (.reg [qq 39 (.mv (.t 6)),qq 40 (.b2s (.t 39)),qq 41 (.call 103 [(.t 40)]),qq 4 (.mv (.t 41)),qq 5 (.mv (.c (.bool true)))]) .ret))))))
theorem tr80:trFun Tryz.prog 80=some ⟨42,[.t 4,.t 5],c80⟩:=by kernel_rfl
theorem subStep {P A B p q lent:Nat} {i:Nat} (b1:p < 256) (b2:q < 256) (hl:lent <= 1) (h:A+B=P+256 ^ i * lent) :
  (q+lent <= p -> A+256 ^ i * (p - (q+lent))+(B+256 ^ i * q)=P+256 ^ i * p+256 ^ (i+1) * 0) /\ (p < q+lent -> A+256 ^ i * (256+p - (q+lent))+(B+256 ^ i * q)=P+256 ^ i * p+256 ^ (i+1) * 1):=by
 rw [Nat.pow_succ]
 generalize 256 ^ i=W at *
 constructor
 ·intro g
  obtain ⟨r,rfl⟩:∃ r,p=q+lent+r:=⟨p - (q+lent),by omega⟩
  have:q+lent+r - (q+lent)=r:=by omega
  rw [this]
  simp only [Nat.mul_add]
  omega
 ·intro g
  obtain ⟨r,hr⟩:∃ r,256+p=q+lent+r:=⟨256+p - (q+lent),by omega⟩
  have e:256+p - (q+lent)=r:=by omega
  rw [e]
  have:=congrArg (W * ·) hr
  simp only [Nat.mul_add] at this
  omega
set_option maxHeartbeats 1000000 in
theorem ok_r1Sub:SpecOK Tryz.prog 80 (flat spSub):=by
 refine flat_run (env_cons ok_r1Norm (env_cons ok_r1At (env_cons ok_r1Cmp (env_nil _)))) mixed tr80 ?_
 intro args v h N hG
 unfold spSub at hG
 split at hG
 case h_2=>cases hG
 rename_i l m
 split at hG
 case isFalse=>cases hG
 rename_i hl
 obtain ⟨hl,hm⟩:=hl
 have sl:l.length <= 1099511627776:=by omega
 have sm:m.length <= 1099511627776:=by omega
 split at hG
 ·rename_i hlt
  cases hG
  refine ⟨rfl,by simp,?_⟩
  simp only [c80,G0,Nat.reduceAdd]
  simp only [↓R0,R1,simprocAttr,-Int.reduceAbs,spCmp,sl,sm,cmpN_lt hlt]
  exact fin_2 trivial rfl rfl (fun k hk=>rfl)
 rename_i hlt
 cases hG
 refine ⟨rfl,by simp,?_⟩
 have hc:cmpN (nl l) (nl m) < 0 ↔ False:=by unfold cmpN;rw [if_neg hlt];split <;> simp
 simp only [c80,G0,Nat.reduceAdd]
 simp only [↓R0,R1,simprocAttr,-Int.reduceAbs,spCmp,sl,sm,hc]
 refine lp_parts (fun n tm hp nx=>∃ (i lent j k:Nat) (out:List UInt8) (x:Bool),n+i=l.length /\ tmget tm 0 = .string ⟨⟨l⟩⟩ /\ tmget tm 1 = .string ⟨⟨m⟩⟩ /\ tmget tm 8 = .int .i64 i /\ tmget tm 7 = .int .i64 lent /\
   tmget tm 6 = .slice (some ⟨N+k,0,none⟩) i i /\ hget hp (N+k)=some ⟨5,1,x,bc out⟩ /\ out.length=i /\ lent <= 1 /\
   nl out+nl (m.take i)=nl (l.take i)+256 ^ i * lent /\ (∀ q,q < N -> hget hp q=hget h q) /\ nx=N+j /\ k < j) ?_ l.length
  ⟨0,0,1,0,[],true,by omega,?_,?_,?_,?_,?_,?_,rfl,by omega,by simp [nl],?_,rfl,by omega⟩
 ·intro n tm hp nx ⟨i,lent,j,k,out,x,hn,h0,h1,h8,h7,h6,hk,ho,hov,hval,hh,hnx,hkj⟩
  subst hnx
  have b1:(l[i]?.getD 0).toNat < 256:=UInt8.toNat_lt _
  have b2:(m[i]?.getD 0).toNat < 256:=UInt8.toNat_lt _
  have t1:=nl_take_succ l i
  have t2:=nl_take_succ m i
  have st:=subStep b1 b2 hov hval
  generalize hp1:(l[i]?.getD 0).toNat=p at *
  generalize hp2:(m[i]?.getD 0).toNat=q at *
  have f1:¬ (i+1 <= i):=by omega
  have f2:i+1 <= 140737488355328:=by omega
  have f3:¬ (j=k):=by omega
  have f4:0+1 <= 1:=by omega
  have e1:IntKind.i64.wrap ((p:Int) - (q:Int))=(p:Int) - (q:Int):=by rw [i64_in _ (by omega)]
  have e6:IntKind.i64.wrap ((i:Int)+1)=((i+1:Nat):Int):=by rw [i64_in _ (by omega)];omega
  by_cases c:i < l.length
  ·have fin:∀ d lent',d < 256 -> nl out+256 ^ i * d+(nl (m.take i)+256 ^ i * q)=nl (l.take i)+256 ^ i * p+256 ^ (i+1) * lent' ->
     nl (out ++ [UInt8.ofNat d])+nl (m.take (i+1))=nl (l.take (i+1))+256 ^ (i+1) * lent':=by
    intro d lent' hd e
    rw [t1,t2,nl_append,ho,<- e]
    have t:(UInt8.ofNat d).toNat=d:=by simp;omega
    simp only [nl,t,Nat.mul_zero,Nat.add_zero]
   by_cases g:q+lent <= p
   ·have e2:IntKind.i64.wrap ((p:Int) - (q:Int) - (lent:Int))=((p - (q+lent):Nat):Int):=by rw [i64_in _ (by omega)];omega
    have e3:¬ ((p - (q+lent):Nat):Int) < 0:=by omega
    have e4:IntKind.u8.wrap ((p - (q+lent):Nat):Int)=((UInt8.ofNat (p - (q+lent))).toNat:Int):=by rw [u8_in _ (by omega)];simp;omega
    simp only [↓R0,R1,simprocAttr,-Int.reduceAbs,h0,h1,h7,h6,h8,c,spAt,sl,sm,hp1,hp2,e1,e2,e3,e4,e6,f1,f2,f3,f4,hk,ho]
    refine ⟨n - 1,by omega,i+1,0,j+2,j+1,out ++ [UInt8.ofNat (p - (q+lent))],false,by omega,rfl,rfl,rfl,?_,by simp [ho],by omega,fin _ _ (by omega) (st.1 g),?_,rfl,by omega⟩
    ·rw [if_pos rfl,bc_append];rfl
    ·intro q hq
     simp only [if_neg (show ¬ N+(j+1)=q by omega),if_neg (show ¬ N+k=q by omega),if_neg (show ¬ N+j=q by omega)]
     exact hh q hq
   ·have e2:IntKind.i64.wrap ((p:Int) - (q:Int) - (lent:Int))=(p:Int) - (q:Int) - (lent:Int):=by rw [i64_in _ (by omega)]
    have e3:(p:Int) - (q:Int) - (lent:Int) < 0:=by omega
    have e5:IntKind.i64.wrap ((p:Int) - (q:Int) - (lent:Int)+256)=((256+p - (q+lent):Nat):Int):=by rw [i64_in _ (by omega)];omega
    have e4:IntKind.u8.wrap ((256+p - (q+lent):Nat):Int)=((UInt8.ofNat (256+p - (q+lent))).toNat:Int):=by rw [u8_in _ (by omega)];simp;omega
    simp only [↓R0,R1,simprocAttr,-Int.reduceAbs,h0,h1,h7,h6,h8,c,spAt,sl,sm,hp1,hp2,e1,e2,e3,e4,e5,e6,f1,f2,f3,f4,hk,ho]
    refine ⟨n - 1,by omega,i+1,1,j+2,j+1,out ++ [UInt8.ofNat (256+p - (q+lent))],false,by omega,rfl,rfl,rfl,?_,by simp [ho],by omega,fin _ _ (by omega) (st.2 (by omega)),?_,rfl,by omega⟩
    ·rw [if_pos rfl,bc_append];rfl
    ·intro q hq
     simp only [if_neg (show ¬ N+(j+1)=q by omega),if_neg (show ¬ N+k=q by omega),if_neg (show ¬ N+j=q by omega)]
     exact hh q hq
  ·have hi:i=l.length:=by omega
   have so:out.length <= 1099511627776:=by omega
   subst ho
   have f5:0+out.length <= out.length:=by omega
   simp only [↓R0,R1,simprocAttr,-Int.reduceAbs,h0,h1,h8,h6,c,hk,f5,List.drop_zero,bc_take_all,byteList_bc,so,spNorm]
   refine fin_2 trivial ?_ rfl hh
   simp only [↓R0,R1,simprocAttr,-Int.reduceAbs]
   have key:nl out=nl l - nl m:=by
    have u1:nl (l.take out.length)=nl l:=by rw [List.take_of_length_le (by omega)]
    have u2:=nl_lt out
    have u3:=nl_lt l
    rw [<- hi] at u3
    rw [u1] at hval
    by_cases hml:out.length <= m.length
    ·have u4:=nl_take_drop m out.length hml
     generalize 256 ^ out.length=W at *
     have u5:nl (m.drop out.length)=0:=by
      refine Nat.eq_zero_of_not_pos fun hpos=>?_
      have:W * 1 <= W * nl (m.drop out.length):=Nat.mul_le_mul_left _ hpos
      omega
     rw [u5] at u4
     have:lent=0:=by
      rcases Nat.lt_or_ge lent 1 with g | g
      ·omega
      ·have:lent=1:=by omega
       subst this;omega
     subst this;omega
    ·rw [List.take_of_length_le (l:=m) (by omega)] at hval
     generalize 256 ^ out.length=W at *
     have:lent=0:=by
      rcases Nat.lt_or_ge lent 1 with g | g
      ·omega
      ·have:lent=1:=by omega
       subst this;omega
     subst this;omega
   rw [key]
 ·(try simp only [↓R0,R1,simprocAttr,-Int.reduceAbs]) <;> rfl
 ·(try simp only [↓R0,R1,simprocAttr,-Int.reduceAbs]) <;> rfl
 ·(try simp only [↓R0,R1,simprocAttr,-Int.reduceAbs]) <;> rfl
 ·(try simp only [↓R0,R1,simprocAttr,-Int.reduceAbs]) <;> rfl
 ·(try simp only [↓R0,R1,simprocAttr,-Int.reduceAbs]) <;> rfl
 ·(try simp only [↓R0,R1,simprocAttr,-Int.reduceAbs]) <;> rfl
 ·intro q hq
  simp only [↓R0,R1,simprocAttr,-Int.reduceAbs,hget_new hq]
end Go.Eng
end
section
set_option maxRecDepth 4000
namespace Go.Eng
open Go Go.Proofs Go.IntWalk
def vl:List Nat -> Nat
 | []=>0
 | b :: l=>b+256 * vl l
def ic (c:List Nat):List Value:=c.map fun n:Nat=>Value.int .i64 (n:Int)
theorem ic_length (c:List Nat):(ic c).length=c.length:=by simp [ic]
theorem ic_get {c:List Nat} {i v:Nat} (h:c[i]?=some v):(ic c)[i]?=some (.int .i64 v):=by simp [ic,h]
theorem ic_set (c:List Nat) (i v:Nat):(ic c).set i (.int .i64 v)=ic (c.set i v):=by simp [ic,List.map_set]
theorem vl_set:∀ (c:List Nat) (i v w:Nat),c[i]?=some v -> vl (c.set i w)+256 ^ i * v=vl c+256 ^ i * w
 | [],i,v,w,h=>by simp at h
 | b :: c,0,v,w,h=>by simp at h;subst h;simp [vl];omega
 | b :: c,i+1,v,w,h=>by
  have:=vl_set c i v w (by simpa using h)
  simp only [List.set_cons_succ,vl,Nat.pow_succ]
  rw [Nat.mul_comm (256 ^ i) 256,Nat.mul_assoc,Nat.mul_assoc]
  generalize 256 ^ i * v=A at *
  generalize 256 ^ i * w=B at *
  omega
theorem vl_bytes:∀ (c:List Nat),(∀ (j:Nat) v,c[j]?=some v -> v < 256) -> nl (c.map UInt8.ofNat)=vl c
 | [],_=>rfl
 | b :: c,h=>by
  have h0:=h 0 b (by simp)
  have ih:=vl_bytes c fun j v hj=>h (j+1) v (by simpa using hj)
  simp only [List.map_cons,nl,vl,ih]
  have:(UInt8.ofNat b).toNat=b:=by simp;omega
  rw [this]
theorem vl_zeros (n:Nat):vl (List.replicate n 0)=0:=by
 induction n with
 | zero=>rfl
 | succ n ih=>simp only [List.replicate_succ,vl,ih]
def spMul:List Value -> Option Value
 | [.string ⟨⟨l⟩⟩,.string ⟨⟨m⟩⟩]=>if l.length+m.length <= 274877906944 then some (.string ⟨⟨bl (nl l * nl m)⟩⟩) else none
 | _=>none
theorem nl_take_le (l:List UInt8) (i:Nat):nl (l.take i) <= nl l:=by
 by_cases h:i <= l.length
 ·rw [nl_take_drop l i h];exact Nat.le_add_right _ _
 ·rw [List.take_of_length_le (by omega)];exact Nat.le_refl _
theorem mulBound {l m:List UInt8} {i k over C:Nat} (h:C+256 ^ (i+k) * over=nl (l.take i) * nl m+256 ^ i * ((l[i]?.getD 0).toNat * nl (m.take k))) (ho:0 < over):k <= m.length:=by
 have h1:=nl_take_succ l i
 have h2:=nl_take_lt l (i+1)
 have h3:=nl_lt m
 have h4:=nl_take_le m k
 have h5:256 ^ (i+k) * 1 <= 256 ^ (i+k) * over:=Nat.mul_le_mul_left _ ho
 have h6:256 ^ i * ((l[i]?.getD 0).toNat * nl (m.take k)) <= 256 ^ i * ((l[i]?.getD 0).toNat * nl m):=Nat.mul_le_mul_left _ (Nat.mul_le_mul_left _ h4)
 have h7:nl (l.take i) * nl m+256 ^ i * ((l[i]?.getD 0).toNat * nl m)=nl (l.take (i+1)) * nl m:=by rw [h1,Nat.add_mul,Nat.mul_assoc]
 have h8:nl (l.take (i+1)) * nl m < 256 ^ (i+1) * 256 ^ m.length:=Nat.mul_lt_mul'' h2 h3
 rw [<- Nat.pow_add] at h8
 have h9:256 ^ (i+k) < 256 ^ (i+1+m.length):=by omega
 have:=(Nat.pow_lt_pow_iff_right (by omega)).1 h9
 omega
def c81:ICode:=
 (.seq (.reg [qq 4 (.mv (.c e0))]) (.seq (.reg [qq 13 (.mv (.t 0)),qq 14 (.lens (.t 13)),qq 15 (.mv (.t 1)),qq 16 (.lens (.t 15)),qq 17 (.bin .add (.t 14) (.t 16)),qq 18 (.bin .add (.t 17) (ci 1)),qq 19 (.mkslice 3 1 8 [(.int .i64 0)] (.t 18) (.t 18)),qq 5 (.mv (.t 19))]) (.seq (.seq (.reg [qq 6 (.mv (ci 0))]) (.block 0 (.loop (.seq (.seq (.reg [qq 20 (.mv (.t 6)),qq 21 (.mv (.t 0)),qq 22 (.lens (.t 21)),qq 23 (.bin .lss (.t 20) (.t 22))]) (.cond (.t 23) .skip (.exit 0))) (.seq (.block 1 (.seq (.reg [qq 7 (.mv (ci 0))]) (.seq (.reg [qq 8 (.mv (ci 0))]) (.block 2 (.loop (.seq (.seq (.reg [qq 26 (.mv (.t 8)),qq 27 (.mv (.t 1)),qq 28 (.lens (.t 27)),qq 29 (.bin .lss (.t 26) (.t 28)),qq 30 (.mv (.t 29)),⟨(some 31),(some (30,false)),(.mv (.t 7))⟩,⟨(some 32),(some (30,false)),(.bin .gtr (.t 31) (ci 0))⟩,qq 33 (.pick (.t 30) (.c (.bool true)) (.t 32))]) (.cond (.t 33) .skip (.exit 2))) (.seq (.block 3 (.seq (.dreg [qu 36 (.mv (.t 5)),qu 37 (.mv (.t 6)),qu 38 (.mv (.t 8)),qu 39 (.bin .add (.t 37) (.t 38)),qu 40 (.ixsl 1 (.t 36) (.t 39)),qu 41 (.load false 1 (.t 40)),qu 42 (.mv (.t 0)),qu 43 (.mv (.t 6)),qu 44 (.call 104 [(.t 42),(.t 43)]),qu 45 (.mv (.t 1)),qu 46 (.mv (.t 8)),qu 47 (.call 104 [(.t 45),(.t 46)]),qu 48 (.bin .mul (.t 44) (.t 47)),qu 49 (.bin .add (.t 41) (.t 48)),qu 50 (.mv (.t 7)),qu 51 (.bin .add (.t 49) (.t 50)),qu 9 (.mv (.t 51))]) (.seq (.reg [qq 52 (.mv (.t 5)),qq 53 (.mv (.t 6)),qq 54 (.mv (.t 8)),qq 55 (.bin .add (.t 53) (.t 54)),qq 56 (.mv (.t 9)),qq 57 (.bin .rem (.t 56) (ci 256)),qq 58 (.ixsl 1 (.t 52) (.t 55)),qn (.store 1 (.t 58) (.t 57))]) (.reg [qq 59 (.mv (.t 9)),qq 60 (.bin .quo (.t 59) (ci 256)),qq 7 (.mv (.t 60))])))) (.reg [qq 34 (.mv (.t 8)),qq 35 (.bin .add (.t 34) (ci 1)),qq 8 (.mv (.t 35))])))))))) (.reg [qq 24 (.mv (.t 6)),qq 25 (.bin .add (.t 24) (ci 1)),qq 6 (.mv (.t 25))])))))) (.seq (.reg [qq 61 (.bslice 5 1 0 [] []),qq 10 (.mv (.t 61))]) (.seq (.seq (.reg [qq 62 (.mv (.t 5)),qq 63 (.lensl (.t 62)),qq 64 (.mv (ci 0))]) (.block 4 (.loop (.seq (.reg [qq 65 (.bin .lss (.t 64) (.t 63))]) (.seq (.cond (.t 65) .skip (.exit 4)) (.seq (.block 5 (.seq (.reg [qq 66 (.ixsl 1 (.t 62) (.t 64)),qq 67 (.load false 1 (.t 66)),qq 12 (.mv (.t 67))]) (.reg [qq 68 (.mv (.t 10)),qq 69 (.mv (.t 12)),qq 70 (.conv .u8 (.t 69)),qq 71 (.bslice 5 1 1 [(.int .u8 0)] [(0,1,(.t 70))]),qq 72 (.app 5 1 1 (.t 68) (.t 71)),qq 10 (.mv (.t 72))]))) (.reg [qq 73 (.bin .add (.t 64) (ci 1)),qq 64 (.mv (.t 73))]))))))) (.seq (.reg [qq 74 (.mv (.t 10)),qq 75 (.b2s (.t 74)),qq 76 (.call 103 [(.t 75)]),qq 4 (.mv (.t 76))]) .ret))))))
theorem tr81:trFun Tryz.prog 81=some ⟨77,[.t 4],c81⟩:=by kernel_rfl
theorem mulStep {l m:List UInt8} {i k over:Nat} {c:List Nat} {v:Nat} (hv:c[i+k]?=some v) (h:vl c+256 ^ (i+k) * over=nl (l.take i) * nl m+256 ^ i * ((l[i]?.getD 0).toNat * nl (m.take k))) :
  vl (c.set (i+k) ((v+(l[i]?.getD 0).toNat * (m[k]?.getD 0).toNat+over) % 256))+256 ^ (i+(k+1)) * ((v+(l[i]?.getD 0).toNat * (m[k]?.getD 0).toNat+over) / 256) =
   nl (l.take i) * nl m+256 ^ i * ((l[i]?.getD 0).toNat * nl (m.take (k+1))):=by
 have h1:=vl_set c (i+k) v ((v+(l[i]?.getD 0).toNat * (m[k]?.getD 0).toNat+over) % 256) hv
 have h2:=nl_take_succ m k
 rw [h2]
 generalize (l[i]?.getD 0).toNat=a at *
 generalize (m[k]?.getD 0).toNat=b at *
 generalize nl (l.take i) * nl m=X at *
 generalize nl (m.take k)=Y at *
 have e1:256 ^ i * (a * (Y+256 ^ k * b))=256 ^ i * (a * Y)+256 ^ (i+k) * (a * b):=by
  rw [Nat.mul_add,Nat.mul_add,Nat.pow_add]
  congr 1
  rw [Nat.mul_assoc];congr 1
  rw [<- Nat.mul_assoc,Nat.mul_comm a,Nat.mul_assoc]
 rw [e1]
 have e2:256 ^ (i+(k+1))=256 ^ (i+k) * 256:=by rw [<- Nat.add_assoc,Nat.pow_succ]
 rw [e2]
 generalize a * b=ab at *
 have e3:256 ^ (i+k) * (v+ab+over)=256 ^ (i+k) * v+256 ^ (i+k) * ab+256 ^ (i+k) * over:=by rw [Nat.mul_add,Nat.mul_add]
 have e4:256 ^ (i+k) * (v+ab+over)=256 ^ (i+k) * ((v+ab+over) % 256)+256 ^ (i+k) * 256 * ((v+ab+over) / 256):=by
  rw [Nat.mul_assoc,<- Nat.mul_add];congr 1;omega
 omega
set_option maxHeartbeats 2000000 in
theorem ok_r1Mul:SpecOK Tryz.prog 81 (flat spMul):=by
 refine flat_run (env_cons ok_r1Norm (env_cons ok_r1At (env_nil _))) mixed tr81 ?_
 intro args v h N hG
 unfold spMul at hG
 split at hG
 case h_2=>cases hG
 rename_i l m
 split at hG
 case isFalse=>cases hG
 rename_i hl
 cases hG
 refine ⟨rfl,by simp,?_⟩
 have sl:l.length <= 1099511627776:=by omega
 have sm:m.length <= 1099511627776:=by omega
 have e1:IntKind.i64.wrap ((l.length:Int)+(m.length:Int))=((l.length+m.length:Nat):Int):=by rw [i64_in _ (by omega)];omega
 have e2:IntKind.i64.wrap (((l.length+m.length:Nat):Int)+1)=((l.length+m.length+1:Nat):Int):=by rw [i64_in _ (by omega)];omega
 have e3:8 * ((l.length+m.length+1:Nat):Int) <= 281474976710656:=by omega
 have e4:((l.length+m.length+1:Nat):Int) <= 9223372036854775807:=by omega
 have eL:(List.replicate (l.length+m.length+1) [Value.int IntKind.i64 0]).flatten=ic (List.replicate (l.length+m.length+1) 0):=by
  generalize l.length+m.length+1=L
  induction L with
  | zero=>rfl
  | succ L ih=>rw [List.replicate_succ,List.flatten_cons,ih];rfl
 simp only [c81,G0,Nat.reduceAdd]
 simp only [↓R0,R1,simprocAttr,-Int.reduceAbs,e1,e2,e3,e4,eL]
 clear e1 e2 e3 e4 eL
 refine lp_parts (fun n tm hp nx=>∃ (i:Nat) (c:List Nat),n+i=l.length /\ tmget tm 0 = .string ⟨⟨l⟩⟩ /\ tmget tm 1 = .string ⟨⟨m⟩⟩ /\ tmget tm 6 = .int .i64 i /\
   tmget tm 5 = .slice (some ⟨N+0,0,none⟩) (l.length+m.length+1) (l.length+m.length+1) /\ hget hp (N+0)=some ⟨3,1,false,ic c⟩ /\ c.length=l.length+m.length+1 /\
   (∀ (j:Nat) v,c[j]?=some v -> v < 256) /\ vl c=nl (l.take i) * nl m /\ (∀ q,q < N -> hget hp q=hget h q) /\ nx=N+1) ?_ l.length
  ⟨0,List.replicate (l.length+m.length+1) 0,by omega,?_,?_,?_,?_,?_,by simp,?_,?_,?_,rfl⟩
 ·intro n tm hp nx ⟨i,c,hn,h0,h1,h6,h5,hk,hc,hcb,hval,hh,hnx⟩
  subst hnx
  by_cases c1:i < l.length
  ·simp only [↓R0,R1,simprocAttr,-Int.reduceAbs,h0,h1,h6,h5,c1]
   refine lp_parts (fun n2 tm hp nx=>∃ (k over:Nat) (c:List Nat),n2+k=m.length+1 /\ tmget tm 0 = .string ⟨⟨l⟩⟩ /\ tmget tm 1 = .string ⟨⟨m⟩⟩ /\ tmget tm 6 = .int .i64 i /\ tmget tm 8 = .int .i64 k /\ tmget tm 7 = .int .i64 over /\
    tmget tm 5 = .slice (some ⟨N+0,0,none⟩) (l.length+m.length+1) (l.length+m.length+1) /\ hget hp (N+0)=some ⟨3,1,false,ic c⟩ /\ c.length=l.length+m.length+1 /\
    (∀ (j:Nat) v,c[j]?=some v -> v < 256) /\ over < 256 /\ vl c+256 ^ (i+k) * over=nl (l.take i) * nl m+256 ^ i * ((l[i]?.getD 0).toNat * nl (m.take k)) /\ (∀ q,q < N -> hget hp q=hget h q) /\ nx=N+1) ?_ (m.length+1)
    ⟨0,0,c,by omega,?_,?_,?_,?_,?_,?_,hk,hc,hcb,by omega,by simp [nl,hval],hh,rfl⟩
   ·clear hk hc hcb hval hh h0 h1 h6 h5
    clear tm hp c
    intro n2 tm hp nx ⟨k,over,c,hn2,h0,h1,h6,h8,h7,h5,hk,hc,hcb,hov,hval,hh,hnx⟩
    subst hnx
    have b1:(l[i]?.getD 0).toNat < 256:=UInt8.toNat_lt _
    have b2:(m[k]?.getD 0).toNat < 256:=UInt8.toNat_lt _
    by_cases c2:k < m.length \/ over > 0
    ·have hkm:k <= m.length:=by
      rcases c2 with c2 | c2
      ·omega
      ·exact mulBound hval c2
     obtain ⟨v,hv⟩:∃ v,c[i+k]?=some v:=⟨_,List.getElem?_eq_getElem (by omega)⟩
     have hv1:=hcb _ _ hv
     have hv2:=ic_get hv
     have st:=mulStep hv hval
     have hab:(l[i]?.getD 0).toNat * (m[k]?.getD 0).toNat <= 255 * 255:=Nat.mul_le_mul (by omega) (by omega)
     have e0:((l[i]?.getD 0).toNat:Int) * ((m[k]?.getD 0).toNat:Int)=(((l[i]?.getD 0).toNat * (m[k]?.getD 0).toNat:Nat):Int):=by omega
     generalize hp1:(l[i]?.getD 0).toNat=p at *
     generalize hp2:(m[k]?.getD 0).toNat=q at *
     generalize p * q=pq at *
     have e1:IntKind.i64.wrap ((p:Int) * (q:Int))=((pq:Nat):Int):=by rw [e0,i64_in _ (by omega)]
     have e2:IntKind.i64.wrap ((i:Int)+(k:Int))=((i+k:Nat):Int):=by rw [i64_in _ (by omega)];omega
     have e3:IntKind.i64.wrap ((v:Int)+(pq:Int))=((v+pq:Nat):Int):=by rw [i64_in _ (by omega)];omega
     have e4:IntKind.i64.wrap (((v+pq:Nat):Int)+(over:Int))=((v+pq+over:Nat):Int):=by rw [i64_in _ (by omega)];omega
     have e5:((v+pq+over:Nat):Int).tmod 256=(((v+pq+over) % 256:Nat):Int):=by rw [Int.tmod_eq_emod_of_nonneg (by omega)];omega
     have e6:IntKind.i64.wrap (((v+pq+over:Nat):Int).tdiv 256)=(((v+pq+over) / 256:Nat):Int):=by rw [i64_quo _ _ (by omega)];omega
     have e7:IntKind.i64.wrap ((k:Int)+1)=((k+1:Nat):Int):=by rw [i64_in _ (by omega)];omega
     have g1:i+k < l.length+m.length+1:=by omega
     have g2:i+k+1 <= c.length:=by omega
     have fin:∃ m',m' < n2 /\ m'+(k+1)=m.length+1:=⟨n2 - 1,by omega,by omega⟩
     have hS:(v+pq+over) / 256 < 256:=by omega
     have hcb':∀ (j:Nat) w,(c.set (i+k) ((v+pq+over) % 256))[j]?=some w -> w < 256:=by
      intro j w hw
      rw [List.getElem?_set] at hw
      split at hw
      ·split at hw
       ·simp at hw;omega
       ·cases hw
      ·exact hcb j w hw
     clear hval hab e0 hv1
     rcases Decidable.em (k < m.length) with c2 | c3
     ·skip
      simp only [↓R0,R1,simprocAttr,-Int.reduceAbs,h0,h1,h6,h8,h7,h5,hk,c2,spAt,sl,sm,hp1,hp2,e1,e2,e3,e4,e5,e6,e7,g1,g2,hv2,ic_length,ic_set]
      obtain ⟨m',q1,q2⟩:=fin
      refine ⟨m',q1,k+1,(v+pq+over) / 256,c.set (i+k) ((v+pq+over) % 256),q2,rfl,rfl,rfl,by simp [hc],hcb',hS,st,?_⟩
      intro r hr
      rw [if_neg (by omega)];exact hh r hr
     ·have c2:(over:Int) > 0:=by omega
      simp only [↓R0,R1,simprocAttr,-Int.reduceAbs,h0,h1,h6,h8,h7,h5,hk,c3,c2]
      simp only [↓R0,R1,simprocAttr,-Int.reduceAbs,h0,h1,h6,h8,h7,h5,hk,c2,spAt,sl,sm,hp1,hp2,e1,e2,e3,e4,e5,e6,e7,g1,g2,hv2,ic_length,ic_set]
      obtain ⟨m',q1,q2⟩:=fin
      refine ⟨m',q1,k+1,(v+pq+over) / 256,c.set (i+k) ((v+pq+over) % 256),q2,rfl,rfl,rfl,by simp [hc],hcb',hS,st,?_⟩
      intro r hr
      rw [if_neg (by omega)];exact hh r hr
    ·have c3:¬ k < m.length:=by omega
     have c4:over=0:=by omega
     subst c4
     have e7:IntKind.i64.wrap ((i:Int)+1)=((i+1:Nat):Int):=by rw [i64_in _ (by omega)];omega
     simp only [↓R0,R1,simprocAttr,-Int.reduceAbs,h0,h1,h6,h8,h7,h5,hk,c3,e7]
     rw [List.take_of_length_le (l:=m) (by omega)] at hval
     refine ⟨n - 1,by omega,i+1,c,by omega,rfl,rfl,hc,hcb,?_,hh⟩
     rw [nl_take_succ,Nat.add_mul,Nat.mul_assoc];simpa using hval
   ·(first | (simp only [↓R0,R1,simprocAttr,-Int.reduceAbs,h0];done) | (simp only [↓R0,R1,simprocAttr,-Int.reduceAbs,h0];rfl) | rfl)
   ·(first | (simp only [↓R0,R1,simprocAttr,-Int.reduceAbs,h1];done) | (simp only [↓R0,R1,simprocAttr,-Int.reduceAbs,h1];rfl) | rfl)
   ·(first | (simp only [↓R0,R1,simprocAttr,-Int.reduceAbs,h6];done) | (simp only [↓R0,R1,simprocAttr,-Int.reduceAbs,h6];rfl) | rfl)
   ·(try simp only [↓R0,R1,simprocAttr,-Int.reduceAbs]) <;> rfl
   ·(try simp only [↓R0,R1,simprocAttr,-Int.reduceAbs]) <;> rfl
   ·(first | (simp only [↓R0,R1,simprocAttr,-Int.reduceAbs,h5];done) | (simp only [↓R0,R1,simprocAttr,-Int.reduceAbs,h5];rfl) | rfl)
  ·have ei:i=l.length:=by omega
   subst ei
   rw [List.take_length] at hval
   simp only [↓R0,R1,simprocAttr,-Int.reduceAbs,h0,h1,h6,h5,c1]
   refine lp_parts (fun n2 tm hp nx=>∃ (i j k:Nat) (out:List UInt8) (x:Bool),n2+i=l.length+m.length+1 /\ tmget tm 64 = .int .i64 i /\ tmget tm 63 = .int .i64 ((l.length+m.length+1:Nat):Int) /\
    tmget tm 62 = .slice (some ⟨N+0,0,none⟩) (l.length+m.length+1) (l.length+m.length+1) /\ hget hp (N+0)=some ⟨3,1,false,ic c⟩ /\
    tmget tm 10 = .slice (some ⟨N+(k+1),0,none⟩) i i /\ hget hp (N+(k+1))=some ⟨5,1,x,bc out⟩ /\ out.length=i /\ out=(c.take i).map UInt8.ofNat /\ (∀ q,q < N -> hget hp q=hget h q) /\ nx=N+j /\ k+1 < j) ?_ (l.length+m.length+1)
    ⟨0,2,0,[],true,by omega,?_,?_,?_,?_,?_,?_,rfl,by simp,?_,rfl,by omega⟩
   ·clear h0 h1 h5 hk hh h6
    clear tm hp
    intro n2 tm hp nx ⟨i,j,k,out,x,hn2,h64,h63,h62,hk0,h10,hk,ho,hout,hh,hnx,hkj⟩
    subst hnx
    by_cases c2:i < l.length+m.length+1
    ·obtain ⟨v,hv⟩:∃ v,c[i]?=some v:=⟨_,List.getElem?_eq_getElem (by omega)⟩
     have hv1:=hcb _ _ hv
     have hv2:=ic_get hv
     have e1:IntKind.u8.wrap (v:Int)=((UInt8.ofNat v).toNat:Int):=by rw [u8_in _ (by omega)];simp;omega
     have e2:IntKind.i64.wrap ((i:Int)+1)=((i+1:Nat):Int):=by rw [i64_in _ (by omega)];omega
     have f1:¬ (i+1 <= i):=by omega
     have f2:i+1 <= 140737488355328:=by omega
     have f3:¬ (j=k+1):=by omega
     simp only [↓R0,R1,simprocAttr,-Int.reduceAbs,h64,h63,h62,h10,hk0,hk,c2,hv2,e1,e2,f1,f2,f3,ho]
     refine ⟨n2 - 1,by omega,i+1,j+2,j,out ++ [UInt8.ofNat v],false,by omega,rfl,?_,rfl,?_,by simp [ho],?_,?_,rfl,by omega⟩
     ·rw [if_neg (by omega)]
     ·rw [if_pos rfl,bc_append];rfl
     ·rw [hout,List.take_add_one,hv];simp
     ·intro q hq
      simp only [if_neg (show ¬ N+(j+1)=q by omega),if_neg (show ¬ N+(k+1)=q by omega),if_neg (show ¬ N+j=q by omega)]
      exact hh q hq
    ·have ei:i=l.length+m.length+1:=by omega
     have so:out.length <= 1099511627776:=by omega
     rw [ei,<- hc,List.take_length] at hout
     subst ho
     simp only [↓R0,R1,simprocAttr,-Int.reduceAbs,h64,h63,h62,h10,hk,c2,List.drop_zero,bc_take_all,byteList_bc,so,spNorm]
     refine fin_t trivial ?_ hh
     simp only [↓R0,R1,simprocAttr,-Int.reduceAbs]
     rw [hout,vl_bytes c hcb,hval]
   ·(try simp only [↓R0,R1,simprocAttr,-Int.reduceAbs]) <;> rfl
   ·(try simp only [↓R0,R1,simprocAttr,-Int.reduceAbs]) <;> rfl
   ·(try simp only [↓R0,R1,simprocAttr,-Int.reduceAbs]) <;> rfl
   ·rw [h_get,if_neg (by omega)];exact hk
   ·(try simp only [↓R0,R1,simprocAttr,-Int.reduceAbs]) <;> rfl
   ·(try simp only [↓R0,R1,simprocAttr,-Int.reduceAbs]) <;> rfl
   ·intro q hq
    simp only [↓R0,R1,simprocAttr,-Int.reduceAbs,hget_new hq]
    exact hh q hq
 ·(try simp only [↓R0,R1,simprocAttr,-Int.reduceAbs]) <;> rfl
 ·(try simp only [↓R0,R1,simprocAttr,-Int.reduceAbs]) <;> rfl
 ·(try simp only [↓R0,R1,simprocAttr,-Int.reduceAbs]) <;> rfl
 ·(try simp only [↓R0,R1,simprocAttr,-Int.reduceAbs]) <;> rfl
 ·(try simp only [↓R0,R1,simprocAttr,-Int.reduceAbs]) <;> rfl
 ·intro j v hv
  rw [List.getElem?_replicate] at hv
  split at hv <;> simp at hv
  omega
 ·rw [vl_zeros];simp [nl]
 ·intro q hq
  simp only [↓R0,R1,simprocAttr,-Int.reduceAbs,hget_new hq]
def spSmall:List Value -> Option Value
 | [.string ⟨⟨l⟩⟩,.int .i64 n]=>if l.length <= 137438953472 /\ 0 <= n /\ n <= 255 then some (.string ⟨⟨bl (nl l * n.toNat)⟩⟩) else none
 | _=>none
def c118:ICode:=
 (.seq (.reg [qq 4 (.mv (.c e0))]) (.seq (.reg [qq 5 (.mv (.t 0)),qq 6 (.mv (.t 1)),qq 7 (.conv .u8 (.t 6)),qq 8 (.bslice 5 1 1 [(.int .u8 0)] [(0,1,(.t 7))]),qq 9 (.b2s (.t 8)),qq 10 (.call 81 [(.t 5),(.t 9)]),qq 4 (.mv (.t 10))]) .ret))
theorem tr118:trFun Tryz.prog 118=some ⟨11,[.t 4],c118⟩:=by kernel_rfl
theorem ok_r1Small:SpecOK Tryz.prog 118 (flat spSmall):=by
 refine flat_run (env_cons ok_r1Mul (env_nil _)) mixed tr118 ?_
 intro args v h N hG
 unfold spSmall at hG
 split at hG
 case h_2=>cases hG
 rename_i l n
 split at hG
 case isFalse=>cases hG
 rename_i hl
 cases hG
 refine ⟨rfl,by simp,?_⟩
 have e1:IntKind.u8.wrap n=((UInt8.ofNat n.toNat).toNat:Int):=by rw [u8_in _ (by omega)];simp;omega
 have e2:byteList [Value.int .u8 ((UInt8.ofNat n.toNat).toNat:Int)]=some [UInt8.ofNat n.toNat]:=byteList_bc [UInt8.ofNat n.toNat]
 have e3:l.length+1 <= 274877906944:=by omega
 simp only [c118,G0,Nat.reduceAdd]
 simp only [↓R0,R1,simprocAttr,-Int.reduceAbs,e1,e2,spMul,e3]
 refine fin_t trivial ?_ (fun k hk=>by rw [hget_new hk])
 simp only [↓R0,R1,simprocAttr,-Int.reduceAbs]
 have t:(UInt8.ofNat n.toNat).toNat=n.toNat:=by simp;omega
 simp only [nl,t,Nat.mul_zero,Nat.add_zero]
def spDiv:List Value -> Option Value
 | [.string ⟨⟨l⟩⟩,.string ⟨⟨m⟩⟩]=>if l.length <= 68719476736 /\ m.length <= 68719476736 then
   (if nl m=0 then some (.tuple ⟨[.string ⟨⟨[]⟩⟩,.string ⟨⟨[]⟩⟩,.bool false]⟩) else some (.tuple ⟨[.string ⟨⟨bl (nl l / nl m)⟩⟩,.string ⟨⟨bl (nl l % nl m)⟩⟩,.bool true]⟩)) else none
 | _=>none
theorem cmpN_le {a b:Nat}:(cmpN a b <= 0)=(a <= b):=by
 apply propext
 unfold cmpN
 split
 ·simp;omega
 ·split
  ·simp;omega
  ·simp;omega
theorem bc_set (l:List UInt8) (i:Nat) (b:UInt8):(bc l).set i (.int .u8 b.toNat)=bc (l.set i b):=by simp [bc,List.map_set]
def c100:ICode:=
 (.seq (.reg [qq 4 (.mv (.c e0)),qq 5 (.mv (.c e0)),qq 6 (.mv (.c (.bool false)))]) (.seq (.seq (.reg [qq 13 (.mv (.t 1)),qq 14 (.call 103 [(.t 13)]),qq 15 (.bin .eql (.t 14) (.c e0))]) (.cond (.t 15) (.seq (.reg [qq 4 (.mv (.c e0)),qq 5 (.mv (.c e0)),qq 6 (.mv (.c (.bool false)))]) .ret) .skip)) (.seq (.reg [qq 16 (.mv (.t 0)),qq 17 (.lens (.t 16)),qq 18 (.mkslice 5 1 1 [(.int .u8 0)] (.t 17) (.t 17)),qq 7 (.mv (.t 18))]) (.seq (.reg [qq 8 (.mv (.c e0))]) (.seq (.seq (.reg [qq 19 (.mv (.t 0)),qq 20 (.lens (.t 19)),qq 21 (.bin .sub (.t 20) (ci 1)),qq 9 (.mv (.t 21))]) (.block 0 (.loop (.seq (.seq (.reg [qq 22 (.mv (.t 9)),qq 23 (.bin .geq (.t 22) (ci 0))]) (.cond (.t 23) .skip (.exit 0))) (.seq (.block 1 (.seq (.reg [qq 26 (.mv (.t 0)),qq 27 (.mv (.t 9)),qq 28 (.mv (.t 9)),qq 29 (.bin .add (.t 28) (ci 1)),qq 30 (.slstr (.t 26) (some (.t 27)) (some (.t 29))),qq 31 (.mv (.t 8)),qq 32 (.bin .add (.t 30) (.t 31)),qq 33 (.call 103 [(.t 32)]),qq 8 (.mv (.t 33))]) (.seq (.reg [qq 10 (.mv (ci 0))]) (.seq (.reg [qq 11 (.mv (ci 255))]) (.seq (.block 2 (.loop (.seq (.seq (.reg [qq 34 (.mv (.t 10)),qq 35 (.mv (.t 11)),qq 36 (.bin .lss (.t 34) (.t 35))]) (.cond (.t 36) .skip (.exit 2))) (.block 3 (.seq (.reg [qq 37 (.mv (.t 10)),qq 38 (.mv (.t 11)),qq 39 (.bin .add (.t 37) (.t 38)),qq 40 (.bin .add (.t 39) (ci 1)),qq 41 (.bin .quo (.t 40) (ci 2)),qq 12 (.mv (.t 41))]) (.seq (.reg [qq 42 (.mv (.t 1)),qq 43 (.mv (.t 12)),qq 44 (.call 118 [(.t 42),(.t 43)]),qq 45 (.mv (.t 8)),qq 46 (.call 105 [(.t 44),(.t 45)]),qq 47 (.bin .leq (.t 46) (ci 0))]) (.cond (.t 47) (.reg [qq 48 (.mv (.t 12)),qq 10 (.mv (.t 48))]) (.reg [qq 49 (.mv (.t 12)),qq 50 (.bin .sub (.t 49) (ci 1)),qq 11 (.mv (.t 50))])))))))) (.seq (.reg [qq 52 (.mv (.t 8)),qq 53 (.mv (.t 1)),qq 54 (.mv (.t 10)),qq 55 (.call 118 [(.t 53),(.t 54)]),qq 56 (.call 80 [(.t 52),(.t 55)]),qq 51 (.mv (.t 56)),qq 57 (.ext (.t 51) 0),qq 58 (.ext (.t 51) 1),qq 8 (.mv (.t 57))]) (.reg [qq 59 (.mv (.t 7)),qq 60 (.mv (.t 9)),qq 61 (.mv (.t 10)),qq 62 (.conv .u8 (.t 61)),qq 63 (.ixsl 1 (.t 59) (.t 60)),qn (.store 1 (.t 63) (.t 62))]))))))) (.reg [qq 24 (.mv (.t 9)),qq 25 (.bin .sub (.t 24) (ci 1)),qq 9 (.mv (.t 25))])))))) (.seq (.reg [qq 64 (.mv (.t 7)),qq 65 (.b2s (.t 64)),qq 66 (.call 103 [(.t 65)]),qq 67 (.mv (.t 8)),qq 4 (.mv (.t 66)),qq 5 (.mv (.t 67)),qq 6 (.mv (.c (.bool true)))]) .ret))))))
theorem tr100:trFun Tryz.prog 100=some ⟨68,[.t 4,.t 5,.t 6],c100⟩:=by kernel_rfl
set_option maxHeartbeats 2000000 in
theorem ok_r1Div:SpecOK Tryz.prog 100 (flat spDiv):=by
 refine flat_run (env_cons ok_r1Norm (env_cons ok_r1Small (env_cons ok_r1Cmp (env_cons ok_r1Sub (env_nil _))))) mixed tr100 ?_
 intro args v h N hG
 unfold spDiv at hG
 split at hG
 case h_2=>cases hG
 rename_i l m
 split at hG
 case isFalse=>cases hG
 rename_i hl
 obtain ⟨hl,hm⟩:=hl
 have sl:l.length <= 1099511627776:=by omega
 have sm:m.length <= 1099511627776:=by omega
 split at hG
 ·rename_i h0
  cases hG
  refine ⟨rfl,by simp,?_⟩
  simp only [c100,G0,Nat.reduceAdd]
  simp only [↓R0,R1,simprocAttr,-Int.reduceAbs,spNorm,sm,bl_eq_nil,h0]
  exact fin_3 trivial rfl rfl rfl (fun k hk=>rfl)
 rename_i h0
 cases hG
 refine ⟨rfl,by simp,?_⟩
 have e1:(l.length:Int) <= 281474976710656:=by omega
 have e2:(l.length:Int) <= 9223372036854775807:=by omega
 have e3:IntKind.i64.wrap ((l.length:Int) - 1)=(l.length:Int) - 1:=by rw [i64_in _ (by omega)]
 have eL:(List.replicate l.length [Value.int IntKind.u8 0]).flatten=bc (List.replicate l.length 0):=by
  generalize l.length=L
  induction L with
  | zero=>rfl
  | succ L ih=>rw [List.replicate_succ,List.flatten_cons,ih];rfl
 simp only [c100,G0,Nat.reduceAdd]
 simp only [↓R0,R1,simprocAttr,-Int.reduceAbs,spNorm,sm,bl_eq_nil,h0,e1,e2,e3,eL,Int.one_mul]
 clear eL e1 e2 e3
 have hB:0 < nl m:=by omega
 refine lp_parts (fun n tm hp nx=>∃ (R:Nat) (qs:List UInt8),n <= l.length /\ tmget tm 0 = .string ⟨⟨l⟩⟩ /\ tmget tm 1 = .string ⟨⟨m⟩⟩ /\ tmget tm 9 = .int .i64 ((n:Int) - 1) /\ tmget tm 8 = .string ⟨⟨bl R⟩⟩ /\
   tmget tm 7 = .slice (some ⟨N+0,0,none⟩) l.length l.length /\ hget hp (N+0)=some ⟨5,1,false,bc qs⟩ /\ qs.length=l.length /\ R < nl m /\
   nl (l.drop n)=nl (qs.drop n) * nl m+R /\ (∀ q,q < N -> hget hp q=hget h q) /\ nx=N+1) ?_ l.length
  ⟨0,List.replicate l.length 0,by omega,?_,?_,?_,?_,?_,?_,by simp,hB,by simp [nl],?_,rfl⟩
 ·intro n tm hp nx ⟨R,qs,hn,t0,t1,t9,t8,t7,hk,hq,hR,hval,hh,hnx⟩
  subst hnx
  have hRm:(bl R).length <= m.length:=by
   rw [bl_length_le];exact Nat.lt_trans hR (nl_lt m)
  by_cases c1:n=0
  ·subst c1
   have so:qs.length <= 1099511627776:=by omega
   rw [<- hq] at t7
   simp only [↓R0,R1,simprocAttr,-Int.reduceAbs,t0,t1,t9,t8,t7,hk,List.drop_zero,bc_take_all,byteList_bc,so,spNorm]
   refine fin_3 trivial ?_ ?_ rfl hh
   ·simp only [↓R0,R1,simprocAttr,-Int.reduceAbs]
    simp only [List.drop_zero] at hval
    rw [hval,Nat.add_comm,Nat.add_mul_div_right _ _ hB,Nat.div_eq_of_lt hR,Nat.zero_add]
   ·simp only [↓R0,R1,simprocAttr,-Int.reduceAbs,t8]
    simp only [List.drop_zero] at hval
    rw [hval,Nat.add_comm,Nat.add_mul_mod_self_right,Nat.mod_eq_of_lt hR]
  ·obtain ⟨n,rfl⟩:∃ n',n=n'+1:=⟨n - 1,by omega⟩
   have e0:((n+1:Nat):Int) - 1=(n:Int):=by omega
   have e1:IntKind.i64.wrap ((n:Int)+1)=((n+1:Nat):Int):=by rw [i64_in _ (by omega)];omega
   have e2:(l.take (n+1)).drop n=[l[n]]:=by rw [List.take_succ_eq_append_getElem (by omega),List.drop_append_of_le_length (by simp;omega)];simp
   have e3:1+(bl R).length <= 9223372036854775807:=by omega
   have e4:(bl R).length+1 <= 1099511627776:=by omega
   have e5:n <= n+1:=by omega
   have e6:nl (l[n] :: bl R)=l[n].toNat+256 * R:=by rw [nl,nl_bl]
   simp only [↓R0,R1,simprocAttr,-Int.reduceAbs,t0,t1,t9,t8,t7,hk,e0,e1,e2,e3,e4,e5,e6,hn,spNorm]
   have hb:=l[n].toNat_lt
   have hdrop:nl (l.drop n)=l[n].toNat+256 * nl (l.drop (n+1)):=by rw [List.drop_eq_getElem_cons (by omega)];rfl
   generalize hR':l[n].toNat+256 * R=R' at *
   have hD:R' / nl m <= 255:=by
    have:R' < 256 * nl m:=by omega
    have:=(Nat.div_lt_iff_lt_mul hB).2 this
    omega
   generalize hDD:R' / nl m=D at *
   have hD1:nl m * D <= R':=by rw [<- hDD];exact Nat.mul_div_le _ _
   have hD2:R' < nl m * (D+1):=by rw [<- hDD];have:=Nat.lt_mul_div_succ R' hB;exact this
   have hRl:(bl R').length <= m.length+1:=by
    rw [bl_length_le,Nat.pow_succ]
    have:=nl_lt m
    omega
   have hsm:∀ x,x <= 255 -> (bl (nl m * x)).length <= m.length+1:=by
    intro x hx
    rw [bl_length_le,Nat.pow_succ]
    have:=nl_lt m
    calc nl m * x <= nl m * 255:=Nat.mul_le_mul_left _ hx
     _ < 256 ^ m.length * 256:=by omega
   have hm2:m.length <= 137438953472:=by omega
   refine lp_parts (fun n2 tm hp nx=>∃ (lo hi:Nat),n2=hi - lo /\ tmget tm 0 = .string ⟨⟨l⟩⟩ /\ tmget tm 1 = .string ⟨⟨m⟩⟩ /\ tmget tm 9 = .int .i64 (n:Int) /\ tmget tm 8 = .string ⟨⟨bl R'⟩⟩ /\
    tmget tm 7 = .slice (some ⟨N+0,0,none⟩) l.length l.length /\ tmget tm 10 = .int .i64 lo /\ tmget tm 11 = .int .i64 hi /\ hget hp (N+0)=some ⟨5,1,false,bc qs⟩ /\
    lo <= D /\ D <= hi /\ hi <= 255 /\ (∀ q,q < N -> hget hp q=hget h q) /\ nx=N+1) ?_ 255
    ⟨0,255,by omega,?_,?_,?_,?_,?_,?_,?_,hk,by omega,hD,by omega,hh,rfl⟩
   ·clear hk hh t0 t1 t9 t8 t7
    clear tm hp
    intro n2 tm hp nx ⟨lo,hi,hn2,t0,t1,t9,t8,t7,t10,t11,hk,hlo,hhi,hhi2,hh,hnx⟩
    subst hnx
    by_cases c2:lo < hi
    ·have g1:IntKind.i64.wrap ((lo:Int)+(hi:Int))=((lo+hi:Nat):Int):=by rw [i64_in _ (by omega)];omega
     have g2:IntKind.i64.wrap (((lo+hi:Nat):Int)+1)=((lo+hi+1:Nat):Int):=by rw [i64_in _ (by omega)];omega
     have g3:IntKind.i64.wrap (((lo+hi+1:Nat):Int).tdiv 2)=(((lo+hi+1) / 2:Nat):Int):=by rw [i64_quo _ _ (by omega)];omega
     have hmid1:lo < (lo+hi+1) / 2:=by omega
     have hmid2:(lo+hi+1) / 2 <= hi:=by omega
     generalize (lo+hi+1) / 2=mid at *
     have g4:(mid:Int) <= 255:=by omega
     have g5:(bl (nl m * mid)).length <= 1099511627776:=Nat.le_trans (hsm mid (by omega)) (by omega)
     have g6:(bl R').length <= 1099511627776:=by omega
     have g7:IntKind.i64.wrap ((mid:Int) - 1)=((mid - 1:Nat):Int):=by rw [i64_in _ (by omega)];omega
     simp only [↓R0,R1,simprocAttr,-Int.reduceAbs,t0,t1,t9,t8,t7,t10,t11,c2,g1,g2,g3,spSmall,hm2,g4,spCmp,g5,g6,nl_bl,cmpN_le]
     by_cases c3:nl m * mid <= R'
     ·simp only [↓R0,R1,simprocAttr,-Int.reduceAbs,t0,t1,t9,t8,t7,t10,t11,c3]
      refine ⟨_,?_,mid,hi,rfl,rfl,rfl,hk,?_,hhi,hhi2,hh⟩
      ·omega
      ·refine Nat.le_of_lt_succ (Nat.lt_of_mul_lt_mul_left (a:=nl m) ?_)
       exact Nat.lt_of_le_of_lt c3 hD2
     ·simp only [↓R0,R1,simprocAttr,-Int.reduceAbs,t0,t1,t9,t8,t7,t10,t11,c3,g7]
      refine ⟨_,?_,lo,mid - 1,rfl,rfl,rfl,hk,hlo,?_,by omega,hh⟩
      ·omega
      ·have:D < mid:=Nat.lt_of_mul_lt_mul_left (a:=nl m) (by omega)
       omega
    ·have hD0:lo=D:=by omega
     subst hD0
     have g4:(lo:Int) <= 255:=by omega
     have g5:(bl (nl m * lo)).length <= 549755813888:=Nat.le_trans (hsm lo (by omega)) (by omega)
     have g6:(bl R').length <= 549755813888:=by omega
     have g7:¬ R' < nl m * lo:=by omega
     have g8:IntKind.u8.wrap (lo:Int)=((UInt8.ofNat lo).toNat:Int):=by rw [u8_in _ (by omega)];simp;omega
     have g9:(n:Int) < (l.length:Int):=by omega
     have g10:n+1 <= qs.length:=by omega
     have g11:IntKind.i64.wrap ((n:Int) - 1)=(n:Int) - 1:=by rw [i64_in _ (by omega)]
     have g12:n < l.length:=by omega
     simp only [↓R0,R1,simprocAttr,-Int.reduceAbs,t0,t1,t9,t8,t7,t10,t11,c2,spSmall,hm2,g4,spSub,g5,g6,nl_bl,g7,g8,g9,g10,g11,g12,hk,bc_set]
     refine ⟨n,by omega,R' - nl m * lo,qs.set n (UInt8.ofNat lo),by omega,rfl,rfl,rfl,by simp [hq],by rw [Nat.mul_add] at hD2;omega,?_,?_⟩
     ·have ht:(UInt8.ofNat lo).toNat=lo:=by simp;omega
      rw [hdrop,List.drop_eq_getElem_cons (l:=qs.set n (UInt8.ofNat lo)) (i:=n) (by rw [List.length_set];omega),nl,List.getElem_set_self,ht,List.drop_set_of_lt (by omega),hval,Nat.add_mul,Nat.mul_comm lo,Nat.mul_assoc]
      omega
     ·intro q hq
      rw [if_neg (by omega)];exact hh q hq
   ·(first | (simp only [↓R0,R1,simprocAttr,-Int.reduceAbs,t0];done) | (simp only [↓R0,R1,simprocAttr,-Int.reduceAbs,t0];rfl) | rfl)
   ·(first | (simp only [↓R0,R1,simprocAttr,-Int.reduceAbs,t1];done) | (simp only [↓R0,R1,simprocAttr,-Int.reduceAbs,t1];rfl) | rfl)
   ·(first | (simp only [↓R0,R1,simprocAttr,-Int.reduceAbs,t9,e0];done) | (simp only [↓R0,R1,simprocAttr,-Int.reduceAbs,t9,e0];rfl) | rfl)
   ·(try simp only [↓R0,R1,simprocAttr,-Int.reduceAbs]) <;> rfl
   ·(first | (simp only [↓R0,R1,simprocAttr,-Int.reduceAbs,t7];done) | (simp only [↓R0,R1,simprocAttr,-Int.reduceAbs,t7];rfl) | rfl)
   ·(try simp only [↓R0,R1,simprocAttr,-Int.reduceAbs]) <;> rfl
   ·(try simp only [↓R0,R1,simprocAttr,-Int.reduceAbs]) <;> rfl
 ·(try simp only [↓R0,R1,simprocAttr,-Int.reduceAbs]) <;> rfl
 ·(try simp only [↓R0,R1,simprocAttr,-Int.reduceAbs]) <;> rfl
 ·(try simp only [↓R0,R1,simprocAttr,-Int.reduceAbs]) <;> rfl
 ·(first | (simp only [↓R0,R1,simprocAttr,-Int.reduceAbs,bl_zero];done) | (simp only [↓R0,R1,simprocAttr,-Int.reduceAbs,bl_zero];rfl) | rfl)
 ·(try simp only [↓R0,R1,simprocAttr,-Int.reduceAbs]) <;> rfl
 ·(try simp only [↓R0,R1,simprocAttr,-Int.reduceAbs]) <;> rfl
 ·intro q hq
  simp only [↓R0,R1,simprocAttr,-Int.reduceAbs,hget_new hq]
def spGcd:List Value -> Option Value
 | [.string ⟨⟨l⟩⟩,.string ⟨⟨m⟩⟩]=>if l.length <= 68719476736 /\ m.length <= 68719476736 then some (.string ⟨⟨bl (Nat.gcd (nl l) (nl m))⟩⟩) else none
 | _=>none
def c99:ICode:=
 (.seq (.reg [qq 4 (.mv (.c e0))]) (.seq (.reg [qq 10 (.mv (.t 0)),qq 11 (.call 103 [(.t 10)]),qq 12 (.mv (.t 1)),qq 13 (.call 103 [(.t 12)]),qq 5 (.mv (.t 11)),qq 6 (.mv (.t 13))]) (.seq (.block 0 (.loop (.seq (.seq (.reg [qq 14 (.mv (.t 6)),qq 15 (.bin .neq (.t 14) (.c e0))]) (.cond (.t 15) .skip (.exit 0))) (.block 1 (.seq (.reg [qq 17 (.mv (.t 5)),qq 18 (.mv (.t 6)),qq 19 (.call 100 [(.t 17),(.t 18)]),qq 16 (.mv (.t 19)),qq 20 (.ext (.t 16) 0),qq 21 (.ext (.t 16) 1),qq 22 (.ext (.t 16) 2),qq 7 (.mv (.t 20)),qq 8 (.mv (.t 21)),qq 9 (.mv (.t 22))]) (.seq (.reg [qq 23 (.mv (.t 6)),qq 5 (.mv (.t 23))]) (.reg [qq 24 (.mv (.t 8)),qq 6 (.mv (.t 24))]))))))) (.seq (.reg [qq 25 (.mv (.t 5)),qq 4 (.mv (.t 25))]) .ret))))
theorem tr99:trFun Tryz.prog 99=some ⟨26,[.t 4],c99⟩:=by kernel_rfl
theorem ok_r1Gcd:SpecOK Tryz.prog 99 (flat spGcd):=by
 refine flat_run (env_cons ok_r1Norm (env_cons ok_r1Div (env_nil _))) mixed tr99 ?_
 intro args v h N hG
 unfold spGcd at hG
 split at hG
 case h_2=>cases hG
 rename_i l m
 split at hG
 case isFalse=>cases hG
 rename_i hl
 obtain ⟨hl,hm⟩:=hl
 have sl:l.length <= 1099511627776:=by omega
 have sm:m.length <= 1099511627776:=by omega
 cases hG
 refine ⟨rfl,by simp,?_⟩
 simp only [c99,G0,Nat.reduceAdd]
 simp only [↓R0,R1,simprocAttr,-Int.reduceAbs,spNorm,sl,sm]
 have hX0:(bl (nl l)).length <= 68719476736:=Nat.le_trans (bl_length_nl l) hl
 have hY0:(bl (nl m)).length <= 68719476736:=Nat.le_trans (bl_length_nl m) hm
 refine lp_parts (fun n tm hp nx=>∃ (X:Nat),tmget tm 5 = .string ⟨⟨bl X⟩⟩ /\ tmget tm 6 = .string ⟨⟨bl n⟩⟩ /\ (bl X).length <= 68719476736 /\ (bl n).length <= 68719476736 /\
   Nat.gcd X n=Nat.gcd (nl l) (nl m) /\ hp=h) ?_ (nl m) ⟨nl l,?_,?_,hX0,hY0,rfl,rfl⟩
 ·intro Y tm hp nx ⟨X,t5,t6,hX,hY,hg,hh⟩
  subst hh
  by_cases c:Y=0
  ·subst c
   simp only [↓R0,R1,simprocAttr,-Int.reduceAbs,t5,t6,bl_zero]
   refine fin_t trivial ?_ (fun k hk=>rfl)
   simp only [↓R0,R1,simprocAttr,-Int.reduceAbs,t5]
   rw [<- hg,Nat.gcd_zero_right]
  ·simp only [↓R0,R1,simprocAttr,-Int.reduceAbs,t5,t6,bl_eq_nil,c,spDiv,hX,hY,nl_bl]
   refine ⟨X % Y,Nat.mod_lt _ (by omega),Y,rfl,rfl,hY,?_,?_⟩
   ·exact Nat.le_trans (bl_length_mono (Nat.le_of_lt (Nat.mod_lt _ (by omega)))) hY
   ·rw [<- hg,Nat.gcd_comm X Y,Nat.gcd_rec Y X,Nat.gcd_comm]
 ·(try simp only [↓R0,R1,simprocAttr,-Int.reduceAbs]) <;> rfl
 ·(try simp only [↓R0,R1,simprocAttr,-Int.reduceAbs]) <;> rfl
end Go.Eng
end
section
namespace Go.Eng
theorem shows_tb {h:Heap} {v:Value} {cs:List Value} (e:shows h v=some cs) (hu:uok cs=true):∃ kb off K cap blk,v = .slice (some ⟨kb,off,none⟩) K cap /\ hget h kb=some blk /\ off+K <= blk.cells.length /\
  (∀ i,i < K -> blk.cells[off+i]?=some (.int .u32 (lm (ud cs) i:Nat))) /\ ud cs < 4294967296 ^ K /\ cs.length=K:=by
 obtain ⟨kb,off,K,cap,blk,rfl,hb,hle,hcs',hlen⟩:=shows_inv e
 refine ⟨kb,off,K,cap,blk,rfl,hb,hle,fun i hi=>?_,?_,hlen⟩
 ·have h1:cs[i]?=some (.int .u32 (lm (ud cs) i:Nat)):=by
   conv=>lhs;rw [tb_ud hu,hlen]
   rw [tb_get' _ hi]
  rw [hcs',List.getElem?_take,if_pos hi,List.getElem?_drop] at h1
  rw [<- hcs'] at h1
  exact h1
 ·have:=ud_lt hu;rw [hlen] at this;exact this
end Go.Eng
end
section
set_option maxRecDepth 4000
namespace Go.Eng
open Go Go.Proofs Go.IntWalk
theorem lm_0:lm 0=fun _=>0:=by funext j;unfold lm;simp
theorem shl32 {c s:Nat} (h:c * 2 ^ s < 4294967296) (hs:s <= 32):IntKind.u32.wrap ((c:Int) * 2 ^ min s IntKind.u32.bits)=((c * 2 ^ s:Nat):Int):=by
 have:min s IntKind.u32.bits=s:=Nat.min_eq_left hs
 rw [this,<- u32_nat h,Int.natCast_mul,Int.natCast_pow];rfl
def spLimbs (args:List Value) (_:Heap):Option ((Nat -> Value) × Blk):=match args with
 | [.string ⟨⟨l⟩⟩]=>if l.length <= 1099511627776 then some (fun k => .slice (some ⟨k,0,none⟩) (lk (nl l)) (lk (nl l)),⟨122,1,false,tb (lk (nl l)) (lm (nl l))⟩) else none
 | _=>none
def c121:ICode:=
 (.seq (.reg [qq 2 (.mv (.c (.slice none 0 0)))]) (.seq (.reg [qq 5 (.mv (.t 0)),qq 6 (.call 106 [(.t 5)]),qq 0 (.mv (.t 6))]) (.seq (.reg [qq 7 (.mv (.t 0)),qq 8 (.lens (.t 7)),qq 9 (.bin .add (.t 8) (ci 4)),qq 10 (.bin .sub (.t 9) (ci 1)),qq 11 (.bin .quo (.t 10) (ci 4)),qq 12 (.mkslice 122 1 4 [(.int .u32 0)] (.t 11) (.t 11)),qq 3 (.mv (.t 12))]) (.seq (.seq (.reg [qq 13 (.mv (.t 0)),qq 14 (.lens (.t 13)),qq 15 (.mv (ci 0))]) (.block 0 (.loop (.seq (.reg [qq 16 (.bin .lss (.t 15) (.t 14))]) (.seq (.cond (.t 16) .skip (.exit 0)) (.seq (.block 1 (.seq (.reg [qq 17 (.mv (.t 15)),qq 4 (.mv (.t 17))]) (.dreg [qu 18 (.mv (.t 3)),qu 19 (.mv (.t 4)),qu 20 (.bin .quo (.t 19) (ci 4)),qu 21 (.ixsl 1 (.t 18) (.t 20)),qu 22 (.load false 1 (.t 21)),qu 23 (.mv (.t 0)),qu 24 (.mv (.t 4)),qu 25 (.idstr (.t 23) (.t 24)),qu 26 (.conv .u32 (.t 25)),qu 27 (.mv (.t 4)),qu 28 (.bin .rem (.t 27) (ci 4)),qu 29 (.bin .mul (ci 8) (.t 28)),qu 30 (.bin .shl (.t 26) (.t 29)),qu 31 (.bin .or (.t 22) (.t 30)),qu 32 (.ixsl 1 (.t 18) (.t 20)),qm (.store 1 (.t 32) (.t 31))]))) (.reg [qq 33 (.bin .add (.t 15) (ci 1)),qq 15 (.mv (.t 33))]))))))) (.seq (.reg [qq 34 (.mv (.t 3)),qq 2 (.mv (.t 34))]) .ret)))))
theorem tr121:trFun Tryz.prog 121=some ⟨35,[.t 2],c121⟩:=by kernel_rfl
theorem ok_nlimbs:SpecOK Tryz.prog 121 (nwS spLimbs):=by
 refine nw_run (env_cons ok_nNorm (env_nil _)) mixed tr121 ?_ ?_
 ·intro args h h' v hl e;exact e
 intro args vf b h N hG hN
 unfold spLimbs at hG
 split at hG
 case h_2=>cases hG
 rename_i l
 split at hG
 case isFalse=>cases hG
 rename_i hl
 cases hG
 refine ⟨rfl,tb_base _ _,vr1_sl _ _ _,by simp,?_⟩
 have hL:(bl (nl l)).length <= 1099511627776:=Nat.le_trans (bl_length_nl l) hl
 generalize hn:nl l=n at *
 have hK:lk n=((bl n).length+3) / 4:=rfl
 have a1:IntKind.i64.wrap (((bl n).length:Int)+4)=(((bl n).length+4:Nat):Int):=by rw [i64_in _ (by omega)];omega
 have a2:IntKind.i64.wrap ((((bl n).length+4:Nat):Int) - 1)=(((bl n).length+3:Nat):Int):=by rw [i64_in _ (by omega)];omega
 have a3:IntKind.i64.wrap ((((bl n).length+3:Nat):Int).tdiv 4)=(lk n:Int):=by
  rw [i64_quo _ _ (by omega),hK];omega
 have a4:4 * (lk n:Int) <= 281474976710656:=by omega
 have a5:(lk n:Int) <= 9223372036854775807:=by omega
 simp only [c121,G0,Nat.reduceAdd]
 simp only [↓R0,R1,simprocAttr,-Int.reduceAbs,spNNorm,hl,hn,a1,a2,a3,a4,a5,tb_rep]
 refine lp_parts (fun m tm hp nx=>∃ (i:Nat),m+i=(bl n).length /\ tmget tm 0 = .string ⟨⟨bl n⟩⟩ /\ tmget tm 3 = .slice (some ⟨N+0,0,none⟩) (lk n) (lk n) /\ tmget tm 14 = .int .i64 (bl n).length /\ tmget tm 15 = .int .i64 i /\
   hget hp (N+0)=some ⟨122,1,false,tb (lk n) (lm (nl ((bl n).take i)))⟩ /\ (∀ q,q < N -> hget hp q=hget h q) /\ nx=N+1) ?_ (bl n).length
  ⟨0,by omega,?_,?_,?_,?_,?_,?_,rfl⟩
 ·intro m tm hp nx ⟨i,hm,h0,h3,h14,h15,hb,hh,hnx⟩
  subst hnx
  by_cases c1:i < (bl n).length
  ·obtain ⟨b,hbb⟩:∃ b,(bl n)[i]?=some b:=⟨_,List.getElem?_eq_getElem c1⟩
   have hts:=nl_take_succ (bl n) i
   rw [hbb,Option.getD_some] at hts
   obtain ⟨g1,g2,g3⟩:=limb_byte (v:=nl ((bl n).take i)) (c:=b.toNat) (i:=i) (nl_take_lt _ _) b.toNat_lt
   have hi:i / 4 < lk n:=by omega
   have e1:IntKind.i64.wrap ((i:Int).tdiv 4)=((i / 4:Nat):Int):=by rw [i64_quo _ _ (by omega)];omega
   have e2:(i:Int).tmod 4=((i % 4:Nat):Int):=by rw [Int.tmod_eq_emod_of_nonneg (by omega)];omega
   have e3:IntKind.i64.wrap (8 * ((i % 4:Nat):Int))=((8 * (i % 4):Nat):Int):=by rw [i64_in _ (by omega)];omega
   have e4:¬ (((8 * (i % 4):Nat):Int) < 0):=by omega
   have e5:=shl32 (c:=b.toNat) (s:=8 * (i % 4)) (by omega) (by omega)
   have e6:=or_u32 g2 g3
   have e7:IntKind.i64.wrap ((i:Int)+1)=((i+1:Nat):Int):=by rw [i64_in _ (by omega)];omega
   have e8:=tb_get' (lm (nl ((bl n).take i))) hi
   have e9:i / 4+1 <= lk n:=hi
   have ew:=u32_nat (n:=b.toNat) (by have:=b.toNat_lt;omega)
   simp only [↓R0,R1,simprocAttr,-Int.reduceAbs,h0,h3,h14,h15,hb,c1,e1,e2,e3,e4,e5,e6,e7,e8,e9,ew,hi,hbb,tb_length]
   refine ⟨m - 1,by omega,i+1,by omega,rfl,?_,?_⟩
   ·rw [tb_set,hts]
    rw [show (fun j=>if j=i / 4 then lm (nl ((bl n).take i)) (i / 4)+b.toNat * 2 ^ (8 * (i % 4)) else lm (nl ((bl n).take i)) j)=lm (nl ((bl n).take i)+256 ^ i * b.toNat) from funext fun j=>(g1 j).symm]
   ·intro q hq
    simp only [if_neg (show ¬ N+0=q by omega)]
    exact hh q hq
  ·have ei:i=(bl n).length:=by omega
   subst ei
   rw [List.take_length,nl_bl] at hb
   simp only [↓R0,R1,simprocAttr,-Int.reduceAbs,h0,h3,h14,h15,c1]
   refine ⟨trivial,_,N+0,false,rfl,?_,by omega,hb,hh⟩
   (first | (simp only [↓R0,R1,simprocAttr,-Int.reduceAbs,one];done) | (simp only [↓R0,R1,simprocAttr,-Int.reduceAbs,one];rfl) | rfl)
 ·(try simp only [↓R0,R1,simprocAttr,-Int.reduceAbs]) <;> rfl
 ·(try simp only [↓R0,R1,simprocAttr,-Int.reduceAbs]) <;> rfl
 ·(try simp only [↓R0,R1,simprocAttr,-Int.reduceAbs]) <;> rfl
 ·(try simp only [↓R0,R1,simprocAttr,-Int.reduceAbs]) <;> rfl
 ·(first | (simp only [↓R0,R1,simprocAttr,-Int.reduceAbs,List.take_zero,nl,lm_0];done) | (simp only [↓R0,R1,simprocAttr,-Int.reduceAbs,List.take_zero,nl,lm_0];rfl) | rfl)
 ·intro q hq
  simp only [↓R0,R1,simprocAttr,-Int.reduceAbs,hget_new hq]
def spMag:List Value -> Heap -> Option Value
 | [v],h=>match shows h v with
  | some cs=>if uok cs=true /\ cs.length <= 34359738368 then some (.string ⟨⟨bl (ud cs)⟩⟩) else none
  | none=>none
 | _,_=>none
def c123:ICode:=
 (.seq (.reg [qq 2 (.mv (.c e0))]) (.seq (.reg [qq 7 (.mv (.t 0)),qq 8 (.lensl (.t 7)),qq 9 (.bin .mul (ci 4) (.t 8)),qq 10 (.mkslice 5 1 1 [(.int .u8 0)] (ci 0) (.t 9)),qq 3 (.mv (.t 10))]) (.seq (.seq (.reg [qq 11 (.mv (.t 0)),qq 12 (.lensl (.t 11)),qq 13 (.mv (ci 0))]) (.block 0 (.loop (.seq (.reg [qq 14 (.bin .lss (.t 13) (.t 12))]) (.seq (.cond (.t 14) .skip (.exit 0)) (.seq (.block 1 (.seq (.reg [qq 15 (.ixsl 1 (.t 11) (.t 13)),qq 16 (.load false 1 (.t 15)),qq 5 (.mv (.t 16))]) (.seq (.reg [qq 17 (.mv (ci 0))]) (.block 2 (.loop (.seq (.reg [qq 18 (.bin .lss (.t 17) (ci 4))]) (.seq (.cond (.t 18) .skip (.exit 2)) (.seq (.block 3 (.seq (.reg [qq 19 (.mv (.t 17)),qq 6 (.mv (.t 19))]) (.reg [qq 20 (.mv (.t 3)),qq 21 (.mv (.t 5)),qq 22 (.mv (.t 6)),qq 23 (.bin .mul (ci 8) (.t 22)),qq 24 (.bin .shr (.t 21) (.t 23)),qq 25 (.conv .u8 (.t 24)),qq 26 (.bslice 5 1 1 [(.int .u8 0)] [(0,1,(.t 25))]),qq 27 (.app 5 1 1 (.t 20) (.t 26)),qq 3 (.mv (.t 27))]))) (.reg [qq 28 (.bin .add (.t 17) (ci 1)),qq 17 (.mv (.t 28))]))))))))) (.reg [qq 29 (.bin .add (.t 13) (ci 1)),qq 13 (.mv (.t 29))]))))))) (.seq (.reg [qq 30 (.mv (.t 3)),qq 31 (.b2s (.t 30)),qq 32 (.call 106 [(.t 31)]),qq 2 (.mv (.t 32))]) .ret))))
theorem tr123:trFun Tryz.prog 123=some ⟨33,[.t 2],c123⟩:=by kernel_rfl
set_option maxHeartbeats 1000000 in
theorem ok_nmag:SpecOK Tryz.prog 123 (rdS spMag):=by
 refine rd_run (env_cons ok_nNorm (env_nil _)) mixed tr123 ?_ ?_
 ·intro args h h' v hle e
  unfold spMag at e ⊢
  split at e
  ·split at e
   ·rename_i cs hcs
    simp only [shows_mono hle hcs];exact e
   ·cases e
  ·cases e
 intro args v h N hG hN
 unfold spMag at hG
 split at hG
 case h_2=>cases hG
 rename_i sv _
 split at hG
 case h_2=>cases hG
 rename_i cs hcs
 split at hG
 case isFalse=>cases hG
 rename_i hl
 obtain ⟨hu,hl⟩:=hl
 cases hG
 refine ⟨rfl,by simp,?_⟩
 obtain ⟨kb,off,K,cap,blk,rfl,hb,hle,hcell,hV,hlen⟩:=shows_tb hcs hu
 have hkb:=hN _ _ hb
 have hne:∀ a,¬ (N+a=kb):=fun a=>by omega
 rw [hlen] at hl
 generalize ud cs=V at *
 have a1:IntKind.i64.wrap (4 * (K:Int))=((4 * K:Nat):Int):=by rw [i64_in _ (by omega)];omega
 have a2:1 * ((4 * K:Nat):Int) <= 281474976710656:=by omega
 have a3:((4 * K:Nat):Int) <= 9223372036854775807:=by omega
 simp only [c123,G0,Nat.reduceAdd]
 simp only [↓R0,R1,simprocAttr,-Int.reduceAbs,a1,a2,a3]
 refine lp_parts (fun m tm hp nx=>∃ (i j kk:Nat) (out:List UInt8) (x:Bool),m+i=K /\ tmget tm 11 = .slice (some ⟨kb,off,none⟩) K cap /\ tmget tm 12 = .int .i64 K /\ tmget tm 13 = .int .i64 i /\
   tmget tm 3 = .slice (some ⟨N+kk,0,none⟩) (4 * i) (4 * i) /\ hget hp (N+kk)=some ⟨5,1,x,bc out⟩ /\ out.length=4 * i /\ nl out=V % 256 ^ (4 * i) /\ (∀ q,q < N -> hget hp q=hget h q) /\ nx=N+j /\ kk < j) ?_ K
  ⟨0,1,0,[],false,by omega,?_,?_,?_,?_,?_,rfl,?_,?_,rfl,by omega⟩
 ·intro m tm hp nx ⟨i,j,kk,out,x,hm,h11,h12,h13,h3,hk,ho,hv,hh,hnx,hkj⟩
  subst hnx
  by_cases c1:i < K
  ·have hbb:hget hp kb=some blk:=by rw [hh kb hkb];exact hb
   have e1:IntKind.i64.wrap ((i:Int)+1)=((i+1:Nat):Int):=by rw [i64_in _ (by omega)];omega
   simp only [↓R0,R1,simprocAttr,-Int.reduceAbs,h11,h12,h13,h3,c1,hbb,hcell i c1]
   refine lp_parts (fun m2 tm hp nx=>∃ (k j kk:Nat) (out:List UInt8) (x:Bool),m2+k=4 /\ tmget tm 11 = .slice (some ⟨kb,off,none⟩) K cap /\ tmget tm 12 = .int .i64 K /\ tmget tm 13 = .int .i64 i /\ tmget tm 5 = .int .u32 (lm V i:Nat) /\ tmget tm 17 = .int .i64 k /\
    tmget tm 3 = .slice (some ⟨N+kk,0,none⟩) (4 * i+k) (4 * i+k) /\ hget hp (N+kk)=some ⟨5,1,x,bc out⟩ /\ out.length=4 * i+k /\ nl out=V % 256 ^ (4 * i+k) /\ (∀ q,q < N -> hget hp q=hget h q) /\ nx=N+j /\ kk < j) ?_ 4
    ⟨0,j,kk,out,x,by omega,?_,?_,?_,?_,?_,?_,hk,ho,hv,hh,rfl,hkj⟩
   ·clear hk ho hv hh h11 h12 h13 h3 hbb hkj
    clear tm hp out x j kk
    intro m2 tm hp nx ⟨k,j,kk,out,x,hm2,h11,h12,h13,h5,h17,h3,hk,ho,hv,hh,hnx,hkj⟩
    subst hnx
    by_cases c2:k < 4
    ·have c2':(k:Int) < 4:=by omega
     have e2:IntKind.i64.wrap (8 * (k:Int))=((8 * k:Nat):Int):=by rw [i64_in _ (by omega)];omega
     have e3:¬ (((8 * k:Nat):Int) < 0):=by omega
     have e4:=shr32 (lm V i) (8 * k) (by omega)
     have e5:IntKind.u8.wrap ((lm V i / 2 ^ (8 * k):Nat):Int)=((UInt8.ofNat (V / 256 ^ (4 * i+k) % 256)).toNat:Int):=by
      rw [<- byte_limb V i k c2]
      have:IntKind.u8.wrap ((lm V i / 2 ^ (8 * k):Nat):Int)=((lm V i / 2 ^ (8 * k):Nat):Int) % 256:=rfl
      rw [this];simp
     have e6:IntKind.i64.wrap ((k:Int)+1)=((k+1:Nat):Int):=by rw [i64_in _ (by omega)];omega
     have f1:¬ (4 * i+k+1 <= 4 * i+k):=by omega
     have f2:4 * i+k+1 <= 140737488355328:=by omega
     have f3:¬ (j=kk):=by omega
     have f4:0+1 <= 1:=by omega
     simp only [↓R0,R1,simprocAttr,-Int.reduceAbs,h11,h12,h13,h5,h17,h3,c2',e2,e3,e4,e5,e6,f1,f2,f3,f4,hk,ho]
     refine ⟨m2 - 1,by omega,k+1,j+2,j+1,out ++ [UInt8.ofNat (V / 256 ^ (4 * i+k) % 256)],false,by omega,rfl,rfl,?_,by simp [ho];omega,?_,?_,rfl,Nat.lt_succ_self _⟩
     ·rw [if_pos rfl,bc_append];rfl
     ·rw [nl_append,ho,hv]
      have:4 * i+(k+1)=(4 * i+k)+1:=by omega
      rw [this,byte_step]
      simp [nl]
     ·intro q hq
      simp only [if_neg (show ¬ N+(j+1)=q by omega),if_neg (show ¬ N+kk=q by omega),if_neg (show ¬ N+j=q by omega)]
      exact hh q hq
    ·have ek:k=4:=by omega
     subst ek
     have c2':¬ (((4:Nat):Int) < 4):=by omega
     simp only [↓R0,R1,simprocAttr,-Int.reduceAbs,h11,h12,h13,h3,h17,c2',e1]
     refine ⟨m - 1,by omega,i+1,j,kk,out,x,by omega,rfl,?_,hk,by omega,?_,hh,rfl,hkj⟩
     ·rw [show 4 * (i+1)=4 * i+4 by omega]
     ·rw [show 4 * (i+1)=4 * i+4 by omega];exact hv
   ·(first | (simp only [↓R0,R1,simprocAttr,-Int.reduceAbs,h11];done) | (simp only [↓R0,R1,simprocAttr,-Int.reduceAbs,h11];rfl) | rfl)
   ·(first | (simp only [↓R0,R1,simprocAttr,-Int.reduceAbs,h12];done) | (simp only [↓R0,R1,simprocAttr,-Int.reduceAbs,h12];rfl) | rfl)
   ·(first | (simp only [↓R0,R1,simprocAttr,-Int.reduceAbs,h13];done) | (simp only [↓R0,R1,simprocAttr,-Int.reduceAbs,h13];rfl) | rfl)
   ·(try simp only [↓R0,R1,simprocAttr,-Int.reduceAbs]) <;> rfl
   ·(try simp only [↓R0,R1,simprocAttr,-Int.reduceAbs]) <;> rfl
   ·(first | (simp only [↓R0,R1,simprocAttr,-Int.reduceAbs,h3];done) | (simp only [↓R0,R1,simprocAttr,-Int.reduceAbs,h3];rfl) | rfl)
  ·have ei:i=K:=by omega
   subst ei
   have f5:4 * i <= out.length:=by omega
   have hout:out.length <= 1099511627776:=by omega
   have hval:nl out=V:=by rw [hv,pow4,Nat.mod_eq_of_lt hV]
   have f6:(bc out).take (4 * i)=bc out:=by rw [<- ho,bc_take_all]
   simp only [↓R0,R1,simprocAttr,-Int.reduceAbs,h11,h12,h13,h3,c1,hk,f5,f6,byteList_bc,spNNorm,hout,hval,Fin,isEnd,resL,res1,iE,rE]
   exact ⟨_,rfl,rfl,hh⟩
 ·(try simp only [↓R0,R1,simprocAttr,-Int.reduceAbs]) <;> rfl
 ·(try simp only [↓R0,R1,simprocAttr,-Int.reduceAbs]) <;> rfl
 ·(try simp only [↓R0,R1,simprocAttr,-Int.reduceAbs]) <;> rfl
 ·(try simp only [↓R0,R1,simprocAttr,-Int.reduceAbs]) <;> rfl
 ·(try simp only [↓R0,R1,simprocAttr,-Int.reduceAbs]) <;> rfl
 ·simp [nl,Nat.mod_one]
 ·intro q hq
  simp only [↓R0,R1,simprocAttr,-Int.reduceAbs,hget_new hq]
def spFU64:List Value -> Option Value
 | [.int .u64 n]=>if 0 <= n /\ n < 18446744073709551616 then some (.string ⟨⟨bl n.toNat⟩⟩) else none
 | _=>none
def c112:ICode:=
 (.seq (.reg [qq 2 (.mv (.c e0))]) (.seq (.reg [qq 3 (.mv (.t 0)),qq 4 (.conv .u32 (.t 3)),qq 5 (.mv (.t 0)),qq 6 (.bin .shr (.t 5) (.c (.int .u64 32))),qq 7 (.conv .u32 (.t 6)),qq 8 (.bslice 122 1 2 [(.int .u32 0),(.int .u32 0)] [(0,1,(.t 4)),(1,1,(.t 7))]),qq 9 (.call 123 [(.t 8)]),qq 2 (.mv (.t 9))]) .ret))
theorem tr112:trFun Tryz.prog 112=some ⟨10,[.t 2],c112⟩:=by kernel_rfl
theorem ok_nFU64:SpecOK Tryz.prog 112 (flat spFU64):=by
 refine flat_run (env_cons ok_nmag (env_nil _)) mixed tr112 ?_
 intro args v h N hG
 unfold spFU64 at hG
 split at hG
 case h_2=>cases hG
 rename_i n
 split at hG
 case isFalse=>cases hG
 rename_i hl
 obtain ⟨h1,h2⟩:=hl
 cases hG
 refine ⟨rfl,by simp,?_⟩
 obtain ⟨n,rfl⟩:=Int.eq_ofNat_of_zero_le h1
 have e1:=u32_mod n
 have e2:(n:Int).fdiv (2 ^ min 32 IntKind.u64.bits)=((n / 4294967296:Nat):Int):=by
  have:(2:Int) ^ min 32 IntKind.u64.bits=4294967296:=rfl
  rw [this,Int.fdiv_eq_ediv_of_nonneg _ (by omega)];omega
 have e3:=u32_nat (n:=n / 4294967296) (by omega)
 have f1:((n % 4294967296:Nat):Int) < 4294967296:=by omega
 have f2:((n / 4294967296:Nat):Int) < 4294967296:=by omega
 have f3:n % 4294967296+4294967296 * (n / 4294967296+4294967296 * 0)=n:=by omega
 simp only [c112,G0,Nat.reduceAdd]
 simp only [↓R0,R1,simprocAttr,-Int.reduceAbs,e1,e2,e3,rdS,spMag,shows,uok,ud,f1,f2,f3,Fin,isEnd,resL,res1,iE,rE]
 exact ⟨_,rfl,rfl,fun k hk=>by simp only [ne_nb hk,if_false]⟩
def spU64:List Value -> Option Value
 | [.string ⟨⟨l⟩⟩]=>if l.length <= 1099511627776 then some (.tuple ⟨if nl l < 18446744073709551616 then [.int .u64 (nl l:Nat),.bool true] else [.int .u64 0,.bool false]⟩) else none
 | _=>none
def c126:ICode:=
 (.seq (.reg [qq 2 (.mv (.c (.int .u64 0))),qq 3 (.mv (.c (.bool false)))]) (.seq (.reg [qq 6 (.mv (.t 0)),qq 7 (.call 106 [(.t 6)]),qq 0 (.mv (.t 7))]) (.seq (.seq (.reg [qq 8 (.mv (.t 0)),qq 9 (.lens (.t 8)),qq 10 (.bin .gtr (.t 9) (ci 8))]) (.cond (.t 10) (.seq (.reg [qq 2 (.mv (.c (.int .u64 0))),qq 3 (.mv (.c (.bool false)))]) .ret) .skip)) (.seq (.reg [qq 4 (.mv (.c (.int .u64 0)))]) (.seq (.seq (.reg [qq 11 (.mv (.t 0)),qq 12 (.lens (.t 11)),qq 13 (.mv (ci 0))]) (.block 0 (.loop (.seq (.reg [qq 14 (.bin .lss (.t 13) (.t 12))]) (.seq (.cond (.t 14) .skip (.exit 0)) (.seq (.block 1 (.seq (.reg [qq 15 (.mv (.t 13)),qq 5 (.mv (.t 15))]) (.reg [qq 16 (.mv (.t 4)),qq 17 (.mv (.t 0)),qq 18 (.mv (.t 5)),qq 19 (.idstr (.t 17) (.t 18)),qq 20 (.conv .u64 (.t 19)),qq 21 (.mv (.t 5)),qq 22 (.bin .mul (ci 8) (.t 21)),qq 23 (.bin .shl (.t 20) (.t 22)),qq 24 (.bin .or (.t 16) (.t 23)),qq 4 (.mv (.t 24))]))) (.reg [qq 25 (.bin .add (.t 13) (ci 1)),qq 13 (.mv (.t 25))]))))))) (.seq (.reg [qq 26 (.mv (.t 4)),qq 2 (.mv (.t 26)),qq 3 (.mv (.c (.bool true)))]) .ret))))))
theorem tr126:trFun Tryz.prog 126=some ⟨27,[.t 2,.t 3],c126⟩:=by kernel_rfl
theorem shl64 {c s:Nat} (h:c * 2 ^ s < 18446744073709551616) (hs:s <= 64):IntKind.u64.wrap ((c:Int) * 2 ^ min s IntKind.u64.bits)=((c * 2 ^ s:Nat):Int):=by
 have:min s IntKind.u64.bits=s:=Nat.min_eq_left hs
 rw [this,<- u64_nat h,Int.natCast_mul,Int.natCast_pow];rfl
theorem ok_nU64:SpecOK Tryz.prog 126 (flat spU64):=by
 refine flat_run (env_cons ok_nNorm (env_nil _)) mixed tr126 ?_
 intro args v h N hG
 unfold spU64 at hG
 split at hG
 case h_2=>cases hG
 rename_i l
 split at hG
 case isFalse=>cases hG
 rename_i hl
 cases hG
 refine ⟨by split <;> rfl,by simp,?_⟩
 have hL:(bl (nl l)).length <= 1099511627776:=Nat.le_trans (bl_length_nl l) hl
 generalize hn:nl l=n at *
 have h8:(bl n).length <= 8 ↔ n < 18446744073709551616:=bl_length_le (k:=8)
 simp only [c126,G0,Nat.reduceAdd]
 by_cases c:n < 18446744073709551616
 ·rw [if_pos c]
  have hle:=h8.2 c
  have g:(((bl n).length:Int) > 8)=False:=eq_false (by omega)
  simp only [↓R0,R1,simprocAttr,-Int.reduceAbs,spNNorm,hl,hn,g]
  refine lp_parts (fun m tm hp nx=>∃ (i:Nat),m+i=(bl n).length /\ tmget tm 0 = .string ⟨⟨bl n⟩⟩ /\ tmget tm 4 = .int .u64 (nl ((bl n).take i):Nat) /\ tmget tm 12 = .int .i64 (bl n).length /\ tmget tm 13 = .int .i64 i /\
    hp=h /\ nx=N+0) ?_ (bl n).length ⟨0,by omega,?_,?_,?_,?_,rfl,rfl⟩
  ·intro m tm hp nx ⟨i,hm,h0,h4,h12,h13,hh,hnx⟩
   subst hnx hh
   by_cases c1:i < (bl n).length
   ·obtain ⟨b,hbb⟩:∃ b,(bl n)[i]?=some b:=⟨_,List.getElem?_eq_getElem c1⟩
    have hts:=nl_take_succ (bl n) i
    rw [hbb,Option.getD_some] at hts
    have hlt:=nl_take_lt (bl n) i
    have hlt2:=nl_take_lt (bl n) (i+1)
    have hp8:256 ^ i=2 ^ (8 * i):=by rw [Nat.pow_mul]
    have hq8:256 ^ (i+1) <= 256 ^ 8:=Nat.pow_le_pow_right (by omega) (by omega)
    rw [hts] at hlt2
    rw [hp8] at hlt hlt2 hts
    have hsum:nl ((bl n).take i)+b.toNat * 2 ^ (8 * i) < 18446744073709551616:=by
     rw [Nat.mul_comm (b.toNat)]
     exact Nat.lt_of_lt_of_le hlt2 hq8
    have e1:=u64_nat (n:=b.toNat) (by have:=b.toNat_lt;omega)
    have e3:IntKind.i64.wrap (8 * (i:Int))=((8 * i:Nat):Int):=by rw [i64_in _ (by omega)];omega
    have e4:¬ (((8 * i:Nat):Int) < 0):=by omega
    have e5:=shl64 (c:=b.toNat) (s:=8 * i) (by omega) (by omega)
    have e6:=or_u64 hlt hsum
    have e7:IntKind.i64.wrap ((i:Int)+1)=((i+1:Nat):Int):=by rw [i64_in _ (by omega)];omega
    simp only [↓R0,R1,simprocAttr,-Int.reduceAbs,h0,h4,h12,h13,c1,hbb,e1,e3,e4,e5,e6,e7]
    refine ⟨m - 1,by omega,i+1,by omega,?_,rfl,rfl⟩
    rw [hts,Nat.mul_comm (b.toNat)]
   ·have ei:i=(bl n).length:=by omega
    subst ei
    rw [List.take_length,nl_bl] at h4
    simp only [↓R0,R1,simprocAttr,-Int.reduceAbs,h0,h4,h12,h13,c1,Fin,isEnd,resL,res1,iE,rE]
    exact ⟨_,rfl,rfl,fun k hk=>by simp only [ne_nb hk,if_false]⟩
  ·(try simp only [↓R0,R1,simprocAttr,-Int.reduceAbs]) <;> rfl
  ·(first | (simp only [↓R0,R1,simprocAttr,-Int.reduceAbs,List.take_zero,nl];done) | (simp only [↓R0,R1,simprocAttr,-Int.reduceAbs,List.take_zero,nl];rfl) | rfl)
  ·(try simp only [↓R0,R1,simprocAttr,-Int.reduceAbs]) <;> rfl
  ·(try simp only [↓R0,R1,simprocAttr,-Int.reduceAbs]) <;> rfl
 ·rw [if_neg c]
  have g:(((bl n).length:Int) > 8)=True:=eq_true (by omega)
  simp only [↓R0,R1,simprocAttr,-Int.reduceAbs,spNNorm,hl,hn,g,Fin,isEnd,resL,res1,iE,rE]
  exact ⟨_,rfl,rfl,fun k hk=>by simp only [ne_nb hk,if_false]⟩
def spNCmp:List Value -> Option Value
 | [.string ⟨⟨l⟩⟩,.string ⟨⟨m⟩⟩]=>if l.length <= 1099511627776 /\ m.length <= 1099511627776 then some (.int .i64 (cmpN (nl l) (nl m))) else none
 | _=>none
def c124:ICode:=
 (.seq (.reg [qq 4 (.mv (ci 0))]) (.seq (.reg [qq 7 (.mv (.t 0)),qq 8 (.call 106 [(.t 7)]),qq 9 (.mv (.t 1)),qq 10 (.call 106 [(.t 9)]),qq 0 (.mv (.t 8)),qq 1 (.mv (.t 10))]) (.seq (.seq (.reg [qq 11 (.mv (.t 0)),qq 12 (.lens (.t 11)),qq 13 (.mv (.t 1)),qq 14 (.lens (.t 13)),qq 15 (.bin .neq (.t 12) (.t 14))]) (.cond (.t 15) (.seq (.seq (.reg [qq 16 (.mv (.t 0)),qq 17 (.lens (.t 16)),qq 18 (.mv (.t 1)),qq 19 (.lens (.t 18)),qq 20 (.bin .lss (.t 17) (.t 19))]) (.cond (.t 20) (.seq (.reg [qq 4 (.mv (ci (-1)))]) .ret) .skip)) (.seq (.reg [qq 4 (.mv (ci 1))]) .ret)) .skip)) (.seq (.seq (.reg [qq 21 (.mv (.t 0)),qq 22 (.lens (.t 21)),qq 23 (.mv (ci 0))]) (.block 0 (.loop (.seq (.reg [qq 24 (.bin .lss (.t 23) (.t 22))]) (.seq (.cond (.t 24) .skip (.exit 0)) (.seq (.block 1 (.seq (.reg [qq 25 (.mv (.t 23)),qq 5 (.mv (.t 25))]) (.seq (.reg [qq 26 (.mv (.t 0)),qq 27 (.lens (.t 26)),qq 28 (.bin .sub (.t 27) (ci 1)),qq 29 (.mv (.t 5)),qq 30 (.bin .sub (.t 28) (.t 29)),qq 6 (.mv (.t 30))]) (.seq (.dreg [qu 31 (.mv (.t 0)),qu 32 (.mv (.t 6)),qu 33 (.idstr (.t 31) (.t 32)),qu 34 (.mv (.t 1)),qu 35 (.mv (.t 6)),qu 36 (.idstr (.t 34) (.t 35)),qu 37 (.bin .neq (.t 33) (.t 36))]) (.cond (.t 37) (.seq (.seq (.dreg [qu 38 (.mv (.t 0)),qu 39 (.mv (.t 6)),qu 40 (.idstr (.t 38) (.t 39)),qu 41 (.mv (.t 1)),qu 42 (.mv (.t 6)),qu 43 (.idstr (.t 41) (.t 42)),qu 44 (.bin .lss (.t 40) (.t 43))]) (.cond (.t 44) (.seq (.reg [qq 4 (.mv (ci (-1)))]) .ret) .skip)) (.seq (.reg [qq 4 (.mv (ci 1))]) .ret)) .skip))))) (.reg [qq 45 (.bin .add (.t 23) (ci 1)),qq 23 (.mv (.t 45))]))))))) (.seq (.reg [qq 4 (.mv (ci 0))]) .ret)))))
theorem tr124:trFun Tryz.prog 124=some ⟨46,[.t 4],c124⟩:=by kernel_rfl
theorem ok_nCmp:SpecOK Tryz.prog 124 (flat spNCmp):=by
 refine flat_run (env_cons ok_nNorm (env_nil _)) mixed tr124 ?_
 intro args v h N hG
 unfold spNCmp at hG
 split at hG
 case h_2=>cases hG
 rename_i l m
 split at hG
 case isFalse=>cases hG
 rename_i hl
 obtain ⟨hl,hm⟩:=hl
 cases hG
 refine ⟨rfl,by simp,?_⟩
 have hL:(bl (nl l)).length <= 1099511627776:=Nat.le_trans (bl_length_nl l) hl
 have hM:(bl (nl m)).length <= 1099511627776:=Nat.le_trans (bl_length_nl m) hm
 generalize ha:nl l=a at *
 generalize hb:nl m=b at *
 simp only [c124,G0,Nat.reduceAdd]
 by_cases c0:(bl a).length=(bl b).length
 ·simp only [↓R0,R1,simprocAttr,-Int.reduceAbs,spNNorm,hl,hm,ha,hb,c0,decide_not,Bool.not_true]
  refine lp_parts (fun n tm hp nx=>∃ (i:Nat),n+i=(bl b).length /\ tmget tm 0 = .string ⟨⟨bl a⟩⟩ /\ tmget tm 1 = .string ⟨⟨bl b⟩⟩ /\ tmget tm 22 = .int .i64 (bl b).length /\ tmget tm 23 = .int .i64 i /\
    (bl a).drop n=(bl b).drop n /\ hp=h /\ nx=N+0) ?_ (bl b).length ⟨0,by omega,?_,?_,?_,?_,?_,rfl,rfl⟩
  ·intro n tm hp nx ⟨i,hn,h0,h1,h22,h23,hd,hh,hnx⟩
   subst hnx hh
   by_cases c1:i < (bl b).length
   ·obtain ⟨n,rfl⟩:∃ n',n=n'+1:=⟨n - 1,by omega⟩
    obtain ⟨p,hp⟩:∃ p,(bl a)[n]?=some p:=⟨_,List.getElem?_eq_getElem (by omega)⟩
    obtain ⟨q,hq⟩:∃ q,(bl b)[n]?=some q:=⟨_,List.getElem?_eq_getElem (by omega)⟩
    have e1:IntKind.i64.wrap (((bl b).length:Int) - 1)=(((bl b).length - 1:Nat):Int):=by rw [i64_in _ (by omega)];omega
    have e2:IntKind.i64.wrap ((((bl b).length - 1:Nat):Int) - (i:Int))=(n:Int):=by rw [i64_in _ (by omega)];omega
    have e7:IntKind.i64.wrap ((i:Int)+1)=((i+1:Nat):Int):=by rw [i64_in _ (by omega)];omega
    by_cases c2:p=q
    ·subst c2
     simp only [↓R0,R1,simprocAttr,-Int.reduceAbs,h0,h1,h22,h23,c1,c0,e1,e2,e7,hp,hq,decide_not,Bool.not_true]
     refine ⟨n,by omega,i+1,by omega,rfl,?_⟩
     rw [List.drop_eq_getElem_cons (by omega:n < (bl a).length),List.drop_eq_getElem_cons (by omega:n < (bl b).length),hd]
     rw [List.getElem?_eq_getElem (by omega)] at hp hq
     rw [Option.some.inj hp,Option.some.inj hq]
     exact ⟨rfl,rfl⟩
    ·have c3:¬ ((p.toNat:Int)=(q.toNat:Int)):=fun e=>c2 (UInt8.toNat_inj.1 (by omega))
     by_cases c4:p.toNat < q.toNat
     ·have hlt:=nl_lt_of hp hq hd c4
      rw [nl_bl,nl_bl] at hlt
      rw [cmpN_lt hlt]
      have c3':¬ (p.toNat=q.toNat):=by omega
      simp only [↓R0,R1,simprocAttr,-Int.reduceAbs,h0,h1,h22,h23,c1,c0,e1,e2,e7,hp,hq,c3,c3',c4,decide_not,Bool.not_false,Fin,isEnd,resL,res1,iE,rE]
      exact ⟨_,rfl,rfl,fun k hk=>by simp only [ne_nb hk,if_false]⟩
     ·have hlt:=nl_lt_of hq hp hd.symm (by omega)
      rw [nl_bl,nl_bl] at hlt
      rw [cmpN_gt hlt]
      have c3':¬ (p.toNat=q.toNat):=by omega
      simp only [↓R0,R1,simprocAttr,-Int.reduceAbs,h0,h1,h22,h23,c1,c0,e1,e2,e7,hp,hq,c3,c3',c4,decide_not,Bool.not_false,Fin,isEnd,resL,res1,iE,rE]
      exact ⟨_,rfl,rfl,fun k hk=>by simp only [ne_nb hk,if_false]⟩
   ·have en:n=0:=by omega
    subst en
    rw [List.drop_zero,List.drop_zero] at hd
    have:=bl_inj hd
    subst this
    rw [cmpN_eq]
    simp only [↓R0,R1,simprocAttr,-Int.reduceAbs,h0,h1,h22,h23,c1,Fin,isEnd,resL,res1,iE,rE]
    exact ⟨_,rfl,rfl,fun k hk=>by simp only [ne_nb hk,if_false]⟩
  ·(try simp only [↓R0,R1,simprocAttr,-Int.reduceAbs]) <;> rfl
  ·(try simp only [↓R0,R1,simprocAttr,-Int.reduceAbs]) <;> rfl
  ·(try simp only [↓R0,R1,simprocAttr,-Int.reduceAbs]) <;> rfl
  ·(try simp only [↓R0,R1,simprocAttr,-Int.reduceAbs]) <;> rfl
  ·rw [<- c0,List.drop_length,c0,List.drop_length]
 ·by_cases c1:(bl a).length < (bl b).length
  ·rw [cmpN_lt (bl_length_lt c1)]
   simp only [↓R0,R1,simprocAttr,-Int.reduceAbs,spNNorm,hl,hm,ha,hb,c0,c1,decide_not,Bool.not_false,Fin,isEnd,resL,res1,iE,rE]
   exact ⟨_,rfl,rfl,fun k hk=>by simp only [ne_nb hk,if_false]⟩
  ·rw [cmpN_gt (bl_length_lt (by omega))]
   simp only [↓R0,R1,simprocAttr,-Int.reduceAbs,spNNorm,hl,hm,ha,hb,c0,c1,decide_not,Bool.not_false,Fin,isEnd,resL,res1,iE,rE]
   exact ⟨_,rfl,rfl,fun k hk=>by simp only [ne_nb hk,if_false]⟩
def spNAdd:List Value -> Option Value
 | [.string ⟨⟨l⟩⟩,.string ⟨⟨m⟩⟩]=>if l.length <= 68719476736 /\ m.length <= 68719476736 then some (.string ⟨⟨bl (nl l+nl m)⟩⟩) else none
 | _=>none
def c109:ICode:=
 (.seq (.reg [qq 4 (.mv (.c e0))]) (.seq (.reg [qq 11 (.mv (.t 0)),qq 12 (.call 121 [(.t 11)]),qq 13 (.mv (.t 1)),qq 14 (.call 121 [(.t 13)]),qq 5 (.mv (.t 12)),qq 6 (.mv (.t 14))]) (.seq (.seq (.reg [qq 15 (.mv (.t 5)),qq 16 (.lensl (.t 15)),qq 17 (.mv (.t 6)),qq 18 (.lensl (.t 17)),qq 19 (.bin .lss (.t 16) (.t 18))]) (.cond (.t 19) (.reg [qq 20 (.mv (.t 6)),qq 21 (.mv (.t 5)),qq 5 (.mv (.t 20)),qq 6 (.mv (.t 21))]) .skip)) (.seq (.reg [qq 22 (.mv (.t 5)),qq 23 (.lensl (.t 22)),qq 24 (.bin .add (.t 23) (ci 1)),qq 25 (.mkslice 122 1 4 [(.int .u32 0)] (.t 24) (.t 24)),qq 7 (.mv (.t 25))]) (.seq (.reg [qq 8 (.mv (.c (.int .u32 0)))]) (.seq (.seq (.reg [qq 26 (.mv (.t 5)),qq 27 (.lensl (.t 26)),qq 28 (.mv (ci 0))]) (.block 0 (.loop (.seq (.reg [qq 29 (.bin .lss (.t 28) (.t 27))]) (.seq (.cond (.t 29) .skip (.exit 0)) (.seq (.block 1 (.seq (.reg [qq 30 (.mv (.t 28)),qq 9 (.mv (.t 30))]) (.seq (.reg [qq 10 (.mv (.c (.int .u32 0)))]) (.seq (.seq (.reg [qq 31 (.mv (.t 9)),qq 32 (.mv (.t 6)),qq 33 (.lensl (.t 32)),qq 34 (.bin .lss (.t 31) (.t 33))]) (.cond (.t 34) (.reg [qq 35 (.mv (.t 6)),qq 36 (.mv (.t 9)),qq 37 (.ixsl 1 (.t 35) (.t 36)),qq 38 (.load false 1 (.t 37)),qq 10 (.mv (.t 38))]) .skip)) (.reg [qq 40 (.mv (.t 7)),qq 41 (.mv (.t 9)),qq 42 (.mv (.t 5)),qq 43 (.mv (.t 9)),qq 44 (.ixsl 1 (.t 42) (.t 43)),qq 45 (.load false 1 (.t 44)),qq 46 (.mv (.t 10)),qq 47 (.mv (.t 8)),qq 48 (.call 122 [(.t 45),(.t 46),(.t 47)]),qq 39 (.mv (.t 48)),qq 49 (.ext (.t 39) 0),qq 50 (.ext (.t 39) 1),qq 51 (.ixsl 1 (.t 40) (.t 41)),qn (.store 1 (.t 51) (.t 49)),qq 8 (.mv (.t 50))]))))) (.reg [qq 52 (.bin .add (.t 28) (ci 1)),qq 28 (.mv (.t 52))]))))))) (.seq (.reg [qq 53 (.mv (.t 7)),qq 54 (.mv (.t 5)),qq 55 (.lensl (.t 54)),qq 56 (.mv (.t 8)),qq 57 (.ixsl 1 (.t 53) (.t 55)),qn (.store 1 (.t 57) (.t 56))]) (.seq (.reg [qq 58 (.mv (.t 7)),qq 59 (.call 123 [(.t 58)]),qq 4 (.mv (.t 59))]) .ret))))))))
theorem tr109:trFun Tryz.prog 109=some ⟨60,[.t 4],c109⟩:=by kernel_rfl
theorem lk_len {n k:Nat} (h:(bl n).length <= 4 * k):lk n <= k:=by unfold lk;omega
theorem lm_out {n i:Nat} (h:¬ i < lk n):lm n i=0:=lm_of_lt' (lk_lt n) (by omega)
set_option maxHeartbeats 1000000 in
theorem ok_nAdd:SpecOK Tryz.prog 109 (flat spNAdd):=by
 refine flat_run (env_cons ok_nlimbs (env_cons ok_nmag (env_cons ok_add32 (env_nil _)))) mixed tr109 ?_
 intro args v h N hG
 unfold spNAdd at hG
 split at hG
 case h_2=>cases hG
 rename_i l m
 split at hG
 case isFalse=>cases hG
 rename_i hl
 obtain ⟨hl,hm⟩:=hl
 cases hG
 refine ⟨rfl,by simp,?_⟩
 have hL:lk (nl l) <= 17179869184:=lk_len (Nat.le_trans (bl_length_nl l) (by omega))
 have hM:lk (nl m) <= 17179869184:=lk_len (Nat.le_trans (bl_length_nl m) (by omega))
 have hl':l.length <= 1099511627776:=by omega
 have hm':m.length <= 1099511627776:=by omega
 simp only [c109,G0,Nat.reduceAdd]
 simp only [↓R0,R1,simprocAttr,-Int.reduceAbs,nwS,spLimbs,hl',hm']
 by_cases c0:lk (nl l) < lk (nl m)
 ·have hab:lk (nl l) <= lk (nl m):=by omega
  rw [Nat.add_comm (nl l)]
  generalize nl l=bb at *
  generalize nl m=aa at *
  simp only [↓R0,R1,simprocAttr,-Int.reduceAbs,c0]
  have g1:IntKind.i64.wrap ((lk aa:Int)+1)=((lk aa+1:Nat):Int):=by rw [i64_in _ (by omega)];omega
  have g2:4 * ((lk aa+1:Nat):Int) <= 281474976710656:=by omega
  have g3:((lk aa+1:Nat):Int) <= 9223372036854775807:=by omega
  simp only [↓R0,R1,simprocAttr,-Int.reduceAbs,g1,g2,g3,tb_rep]
  clear g1 g2 g3
  refine lp_parts (fun m tm hp nx=>∃ (i:Nat) (f:Nat -> Nat),m+i=lk aa /\ tmget tm 5 = .slice (some ⟨N+1,0,none⟩) (lk aa) (lk aa) /\ tmget tm 6 = .slice (some ⟨N+0,0,none⟩) (lk bb) (lk bb) /\
    tmget tm 7 = .slice (some ⟨N+2,0,none⟩) (lk aa+1) (lk aa+1) /\ tmget tm 8 = .int .u32 (cyA aa bb i:Nat) /\ tmget tm 27 = .int .i64 (lk aa) /\ tmget tm 28 = .int .i64 i /\
    hget hp (N+1)=some ⟨122,1,false,tb (lk aa) (lm aa)⟩ /\ hget hp (N+0)=some ⟨122,1,false,tb (lk bb) (lm bb)⟩ /\
    hget hp (N+2)=some ⟨122,1,false,tb (lk aa+1) f⟩ /\ (∀ j,j < i -> f j=lm (aa+bb) j) /\ (∀ q,q < N -> hget hp q=hget h q) /\ nx=N+3) ?_ (lk aa)
   ⟨0,fun _=>0,by omega,?_,?_,?_,?_,?_,?_,?_,?_,?_,fun j hj=>by omega,?_,rfl⟩
  ·intro m tm hp nx ⟨i,f,hm,h5,h6,h7,h8,h27,h28,hb1,hb2,hb3,hf,hh,hnx⟩
   subst hnx
   have b1:=lm_lt aa i
   have b2:=lm_lt bb i
   have b3:=cyA_le aa bb i
   have v1:((lm aa i:Nat):Int) < 4294967296:=by omega
   have v2:((lm bb i:Nat):Int) < 4294967296:=by omega
   have v3:((cyA aa bb i:Nat):Int) <= 1:=by omega
   have v4:((lm aa i:Int)+lm bb i+cyA aa bb i) % 4294967296=(lm (aa+bb) i:Int):=by rw [add_limb];omega
   have v5:((lm aa i:Int)+lm bb i+cyA aa bb i) / 4294967296=(cyA aa bb (i+1):Int):=by rw [cyA_succ];omega
   have e7:IntKind.i64.wrap ((i:Int)+1)=((i+1:Nat):Int):=by rw [i64_in _ (by omega)];omega
   by_cases c1:i < lk aa
   ·have c1':i < lk aa+1:=by omega
    have c1'':i <= lk aa:=by omega
    have k1:=tb_get' (lm aa) c1
    have hset:∀ j,j < i+1 -> (fun j=>if j=i then lm (aa+bb) i else f j) j=lm (aa+bb) j:=by
     intro j hj
     simp only
     by_cases e:j=i
     ·rw [if_pos e,e]
     ·rw [if_neg e];exact hf j (by omega)
    by_cases c2:i < lk bb
    ·have k2:=tb_get' (lm bb) c2
     simp only [↓R0,R1,simprocAttr,-Int.reduceAbs,h5,h6,h7,h8,h27,h28,hb1,hb2,hb3,c1,c1',c1'',c2,k1,k2,e7,spAdd32,v1,v2,v3,v4,v5,tb_length,tb_set]
     refine ⟨m - 1,by omega,i+1,_,by omega,rfl,rfl,rfl,hset,?_⟩
     intro q hq
     simp only [if_neg (show ¬ N+2=q by omega)]
     exact hh q hq
    ·have z2:=lm_out c2
     rw [z2] at v4 v5
     have z0:((0:Nat):Int)=0:=rfl
     rw [z0] at v4 v5
     simp only [↓R0,R1,simprocAttr,-Int.reduceAbs,h5,h6,h7,h8,h27,h28,hb1,hb2,hb3,c1,c1',c1'',c2,k1,e7,spAdd32,v1,v3,v4,v5,tb_length,tb_set]
     refine ⟨m - 1,by omega,i+1,_,by omega,rfl,rfl,rfl,hset,?_⟩
     intro q hq
     simp only [if_neg (show ¬ N+2=q by omega)]
     exact hh q hq
   ·have ei:i=lk aa:=by omega
    subst ei
    have c3:lk aa < lk aa+1:=by omega
    have c4:((lk aa:Nat):Int) < ((lk aa+1:Nat):Int):=by omega
    have c5:lk aa+1 <= 34359738368:=by omega
    have hA:=lk_lt aa
    have hB:bb < 4294967296 ^ lk aa:=Nat.lt_of_lt_of_le (lk_lt bb) (Nat.pow_le_pow_right (by omega) hab)
    have hS:aa+bb < 4294967296 ^ (lk aa+1):=by rw [Nat.pow_succ];omega
    have hcy:cyA aa bb (lk aa)=lm (aa+bb) (lk aa):=by
     rw [lm_top hS];unfold cyA;rw [Nat.mod_eq_of_lt hA,Nat.mod_eq_of_lt hB]
    have htb:(tb (lk aa+1) fun j=>if j=lk aa then cyA aa bb (lk aa) else f j)=tb (lk aa+1) (lm (aa+bb)):=by
     apply tb_congr
     intro j hj
     by_cases e:j=lk aa
     ·rw [if_pos e,e,hcy]
     ·rw [if_neg e];exact hf j (by omega)
    have hud:ud (tb (lk aa+1) (lm (aa+bb)))=aa+bb:=by rw [ud_tb,Nat.mod_eq_of_lt hS]
    simp only [↓R0,R1,simprocAttr,-Int.reduceAbs,h5,h6,h7,h8,h27,h28,hb1,hb2,hb3,c1,c3,c4,tb_length,tb_set,htb,rdS,spMag,shows,tb_all,uok_lm,c5,hud,Fin,isEnd,resL,res1,iE,rE]
    first | exact ⟨_,rfl,rfl,hh⟩ | exact ⟨_,rfl,rfl,fun k hk=>by simp only [ne_nb hk,if_false];exact hh k hk⟩
  ·(try simp only [↓R0,R1,simprocAttr,-Int.reduceAbs]) <;> rfl
  ·(try simp only [↓R0,R1,simprocAttr,-Int.reduceAbs]) <;> rfl
  ·(try simp only [↓R0,R1,simprocAttr,-Int.reduceAbs]) <;> rfl
  ·(first | (simp only [↓R0,R1,simprocAttr,-Int.reduceAbs,cyA_zero];done) | (simp only [↓R0,R1,simprocAttr,-Int.reduceAbs,cyA_zero];rfl) | rfl)
  ·(try simp only [↓R0,R1,simprocAttr,-Int.reduceAbs]) <;> rfl
  ·(try simp only [↓R0,R1,simprocAttr,-Int.reduceAbs]) <;> rfl
  ·(try simp only [↓R0,R1,simprocAttr,-Int.reduceAbs]) <;> rfl
  ·(try simp only [↓R0,R1,simprocAttr,-Int.reduceAbs]) <;> rfl
  ·(try simp only [↓R0,R1,simprocAttr,-Int.reduceAbs]) <;> rfl
  ·intro q hq
   simp only [↓R0,R1,simprocAttr,-Int.reduceAbs,hget_new hq]
 ·have hab:lk (nl m) <= lk (nl l):=by omega
  generalize nl l=aa at *
  generalize nl m=bb at *
  simp only [↓R0,R1,simprocAttr,-Int.reduceAbs,c0]
  have g1:IntKind.i64.wrap ((lk aa:Int)+1)=((lk aa+1:Nat):Int):=by rw [i64_in _ (by omega)];omega
  have g2:4 * ((lk aa+1:Nat):Int) <= 281474976710656:=by omega
  have g3:((lk aa+1:Nat):Int) <= 9223372036854775807:=by omega
  simp only [↓R0,R1,simprocAttr,-Int.reduceAbs,g1,g2,g3,tb_rep]
  clear g1 g2 g3
  refine lp_parts (fun m tm hp nx=>∃ (i:Nat) (f:Nat -> Nat),m+i=lk aa /\ tmget tm 5 = .slice (some ⟨N+0,0,none⟩) (lk aa) (lk aa) /\ tmget tm 6 = .slice (some ⟨N+1,0,none⟩) (lk bb) (lk bb) /\
    tmget tm 7 = .slice (some ⟨N+2,0,none⟩) (lk aa+1) (lk aa+1) /\ tmget tm 8 = .int .u32 (cyA aa bb i:Nat) /\ tmget tm 27 = .int .i64 (lk aa) /\ tmget tm 28 = .int .i64 i /\
    hget hp (N+0)=some ⟨122,1,false,tb (lk aa) (lm aa)⟩ /\ hget hp (N+1)=some ⟨122,1,false,tb (lk bb) (lm bb)⟩ /\
    hget hp (N+2)=some ⟨122,1,false,tb (lk aa+1) f⟩ /\ (∀ j,j < i -> f j=lm (aa+bb) j) /\ (∀ q,q < N -> hget hp q=hget h q) /\ nx=N+3) ?_ (lk aa)
   ⟨0,fun _=>0,by omega,?_,?_,?_,?_,?_,?_,?_,?_,?_,fun j hj=>by omega,?_,rfl⟩
  ·intro m tm hp nx ⟨i,f,hm,h5,h6,h7,h8,h27,h28,hb1,hb2,hb3,hf,hh,hnx⟩
   subst hnx
   have b1:=lm_lt aa i
   have b2:=lm_lt bb i
   have b3:=cyA_le aa bb i
   have v1:((lm aa i:Nat):Int) < 4294967296:=by omega
   have v2:((lm bb i:Nat):Int) < 4294967296:=by omega
   have v3:((cyA aa bb i:Nat):Int) <= 1:=by omega
   have v4:((lm aa i:Int)+lm bb i+cyA aa bb i) % 4294967296=(lm (aa+bb) i:Int):=by rw [add_limb];omega
   have v5:((lm aa i:Int)+lm bb i+cyA aa bb i) / 4294967296=(cyA aa bb (i+1):Int):=by rw [cyA_succ];omega
   have e7:IntKind.i64.wrap ((i:Int)+1)=((i+1:Nat):Int):=by rw [i64_in _ (by omega)];omega
   by_cases c1:i < lk aa
   ·have c1':i < lk aa+1:=by omega
    have c1'':i <= lk aa:=by omega
    have k1:=tb_get' (lm aa) c1
    have hset:∀ j,j < i+1 -> (fun j=>if j=i then lm (aa+bb) i else f j) j=lm (aa+bb) j:=by
     intro j hj
     simp only
     by_cases e:j=i
     ·rw [if_pos e,e]
     ·rw [if_neg e];exact hf j (by omega)
    by_cases c2:i < lk bb
    ·have k2:=tb_get' (lm bb) c2
     simp only [↓R0,R1,simprocAttr,-Int.reduceAbs,h5,h6,h7,h8,h27,h28,hb1,hb2,hb3,c1,c1',c1'',c2,k1,k2,e7,spAdd32,v1,v2,v3,v4,v5,tb_length,tb_set]
     refine ⟨m - 1,by omega,i+1,_,by omega,rfl,rfl,rfl,hset,?_⟩
     intro q hq
     simp only [if_neg (show ¬ N+2=q by omega)]
     exact hh q hq
    ·have z2:=lm_out c2
     rw [z2] at v4 v5
     have z0:((0:Nat):Int)=0:=rfl
     rw [z0] at v4 v5
     simp only [↓R0,R1,simprocAttr,-Int.reduceAbs,h5,h6,h7,h8,h27,h28,hb1,hb2,hb3,c1,c1',c1'',c2,k1,e7,spAdd32,v1,v3,v4,v5,tb_length,tb_set]
     refine ⟨m - 1,by omega,i+1,_,by omega,rfl,rfl,rfl,hset,?_⟩
     intro q hq
     simp only [if_neg (show ¬ N+2=q by omega)]
     exact hh q hq
   ·have ei:i=lk aa:=by omega
    subst ei
    have c3:lk aa < lk aa+1:=by omega
    have c4:((lk aa:Nat):Int) < ((lk aa+1:Nat):Int):=by omega
    have c5:lk aa+1 <= 34359738368:=by omega
    have hA:=lk_lt aa
    have hB:bb < 4294967296 ^ lk aa:=Nat.lt_of_lt_of_le (lk_lt bb) (Nat.pow_le_pow_right (by omega) hab)
    have hS:aa+bb < 4294967296 ^ (lk aa+1):=by rw [Nat.pow_succ];omega
    have hcy:cyA aa bb (lk aa)=lm (aa+bb) (lk aa):=by
     rw [lm_top hS];unfold cyA;rw [Nat.mod_eq_of_lt hA,Nat.mod_eq_of_lt hB]
    have htb:(tb (lk aa+1) fun j=>if j=lk aa then cyA aa bb (lk aa) else f j)=tb (lk aa+1) (lm (aa+bb)):=by
     apply tb_congr
     intro j hj
     by_cases e:j=lk aa
     ·rw [if_pos e,e,hcy]
     ·rw [if_neg e];exact hf j (by omega)
    have hud:ud (tb (lk aa+1) (lm (aa+bb)))=aa+bb:=by rw [ud_tb,Nat.mod_eq_of_lt hS]
    simp only [↓R0,R1,simprocAttr,-Int.reduceAbs,h5,h6,h7,h8,h27,h28,hb1,hb2,hb3,c1,c3,c4,tb_length,tb_set,htb,rdS,spMag,shows,tb_all,uok_lm,c5,hud,Fin,isEnd,resL,res1,iE,rE]
    first | exact ⟨_,rfl,rfl,hh⟩ | exact ⟨_,rfl,rfl,fun k hk=>by simp only [ne_nb hk,if_false];exact hh k hk⟩
  ·(try simp only [↓R0,R1,simprocAttr,-Int.reduceAbs]) <;> rfl
  ·(try simp only [↓R0,R1,simprocAttr,-Int.reduceAbs]) <;> rfl
  ·(try simp only [↓R0,R1,simprocAttr,-Int.reduceAbs]) <;> rfl
  ·(first | (simp only [↓R0,R1,simprocAttr,-Int.reduceAbs,cyA_zero];done) | (simp only [↓R0,R1,simprocAttr,-Int.reduceAbs,cyA_zero];rfl) | rfl)
  ·(try simp only [↓R0,R1,simprocAttr,-Int.reduceAbs]) <;> rfl
  ·(try simp only [↓R0,R1,simprocAttr,-Int.reduceAbs]) <;> rfl
  ·(try simp only [↓R0,R1,simprocAttr,-Int.reduceAbs]) <;> rfl
  ·(try simp only [↓R0,R1,simprocAttr,-Int.reduceAbs]) <;> rfl
  ·(try simp only [↓R0,R1,simprocAttr,-Int.reduceAbs]) <;> rfl
  ·intro q hq
   simp only [↓R0,R1,simprocAttr,-Int.reduceAbs,hget_new hq]
def spNSub:List Value -> Option Value
 | [.string ⟨⟨l⟩⟩,.string ⟨⟨m⟩⟩]=>if l.length <= 68719476736 /\ m.length <= 68719476736 then
   (if nl l < nl m then some (.tuple ⟨[.string ⟨⟨[]⟩⟩,.bool false]⟩) else some (.tuple ⟨[.string ⟨⟨bl (nl l - nl m)⟩⟩,.bool true]⟩)) else none
 | _=>none
def c110:ICode:=
 (.seq (.reg [qq 4 (.mv (.c e0)),qq 5 (.mv (.c (.bool false)))]) (.seq (.seq (.reg [qq 12 (.mv (.t 0)),qq 13 (.mv (.t 1)),qq 14 (.call 124 [(.t 12),(.t 13)]),qq 15 (.bin .lss (.t 14) (ci 0))]) (.cond (.t 15) (.seq (.reg [qq 4 (.mv (.c e0)),qq 5 (.mv (.c (.bool false)))]) .ret) .skip)) (.seq (.reg [qq 16 (.mv (.t 0)),qq 17 (.call 121 [(.t 16)]),qq 18 (.mv (.t 1)),qq 19 (.call 121 [(.t 18)]),qq 6 (.mv (.t 17)),qq 7 (.mv (.t 19))]) (.seq (.reg [qq 20 (.mv (.t 6)),qq 21 (.lensl (.t 20)),qq 22 (.mkslice 122 1 4 [(.int .u32 0)] (.t 21) (.t 21)),qq 8 (.mv (.t 22))]) (.seq (.reg [qq 9 (.mv (.c (.int .u32 0)))]) (.seq (.seq (.reg [qq 23 (.mv (.t 6)),qq 24 (.lensl (.t 23)),qq 25 (.mv (ci 0))]) (.block 0 (.loop (.seq (.reg [qq 26 (.bin .lss (.t 25) (.t 24))]) (.seq (.cond (.t 26) .skip (.exit 0)) (.seq (.block 1 (.seq (.reg [qq 27 (.mv (.t 25)),qq 10 (.mv (.t 27))]) (.seq (.reg [qq 11 (.mv (.c (.int .u32 0)))]) (.seq (.seq (.reg [qq 28 (.mv (.t 10)),qq 29 (.mv (.t 7)),qq 30 (.lensl (.t 29)),qq 31 (.bin .lss (.t 28) (.t 30))]) (.cond (.t 31) (.reg [qq 32 (.mv (.t 7)),qq 33 (.mv (.t 10)),qq 34 (.ixsl 1 (.t 32) (.t 33)),qq 35 (.load false 1 (.t 34)),qq 11 (.mv (.t 35))]) .skip)) (.reg [qq 37 (.mv (.t 8)),qq 38 (.mv (.t 10)),qq 39 (.mv (.t 6)),qq 40 (.mv (.t 10)),qq 41 (.ixsl 1 (.t 39) (.t 40)),qq 42 (.load false 1 (.t 41)),qq 43 (.mv (.t 11)),qq 44 (.mv (.t 9)),qq 45 (.call 125 [(.t 42),(.t 43),(.t 44)]),qq 36 (.mv (.t 45)),qq 46 (.ext (.t 36) 0),qq 47 (.ext (.t 36) 1),qq 48 (.ixsl 1 (.t 37) (.t 38)),qn (.store 1 (.t 48) (.t 46)),qq 9 (.mv (.t 47))]))))) (.reg [qq 49 (.bin .add (.t 25) (ci 1)),qq 25 (.mv (.t 49))]))))))) (.seq (.reg [qq 50 (.mv (.t 8)),qq 51 (.call 123 [(.t 50)]),qq 4 (.mv (.t 51)),qq 5 (.mv (.c (.bool true)))]) .ret)))))))
theorem tr110:trFun Tryz.prog 110=some ⟨52,[.t 4,.t 5],c110⟩:=by kernel_rfl
theorem cmpN_neg {a b:Nat}:(cmpN a b < 0)=(a < b):=by
 unfold cmpN
 by_cases h:a < b
 ·simp [h]
 ·by_cases h2:a=b
  ·simp [h2]
  ·simp [h,h2]
set_option maxHeartbeats 1000000 in
theorem ok_nSub:SpecOK Tryz.prog 110 (flat spNSub):=by
 refine flat_run (env_cons ok_nCmp (env_cons ok_nlimbs (env_cons ok_nmag (env_cons ok_sub32 (env_nil _))))) mixed tr110 ?_
 intro args v h N hG
 unfold spNSub at hG
 split at hG
 case h_2=>cases hG
 rename_i l m
 split at hG
 case isFalse=>cases hG
 rename_i hl
 obtain ⟨hl,hm⟩:=hl
 have hl':l.length <= 1099511627776:=by omega
 have hm':m.length <= 1099511627776:=by omega
 split at hG
 ·rename_i hlt
  cases hG
  refine ⟨rfl,by simp,?_⟩
  simp only [c110,G0,Nat.reduceAdd]
  simp only [↓R0,R1,simprocAttr,-Int.reduceAbs,spNCmp,hl',hm',cmpN_lt hlt,Fin,isEnd,resL,res1,iE,rE]
  exact ⟨_,rfl,rfl,fun k hk=>by simp only [ne_nb hk,if_false]⟩
 rename_i hlt
 cases hG
 refine ⟨rfl,by simp,?_⟩
 have hL:lk (nl l) <= 17179869184:=lk_len (Nat.le_trans (bl_length_nl l) (by omega))
 simp only [c110,G0,Nat.reduceAdd]
 generalize ha:nl l=aa at *
 generalize hb:nl m=bb at *
 have g2:4 * (lk aa:Int) <= 281474976710656:=by omega
 have g3:(lk aa:Int) <= 9223372036854775807:=by omega
 simp only [↓R0,R1,simprocAttr,-Int.reduceAbs,spNCmp,nwS,spLimbs,hl',hm',ha,hb,cmpN_neg,hlt,g2,g3,tb_rep]
 clear g2 g3
 refine lp_parts (fun m tm hp nx=>∃ (i:Nat) (f:Nat -> Nat),m+i=lk aa /\ tmget tm 6 = .slice (some ⟨N+0,0,none⟩) (lk aa) (lk aa) /\ tmget tm 7 = .slice (some ⟨N+1,0,none⟩) (lk bb) (lk bb) /\
   tmget tm 8 = .slice (some ⟨N+2,0,none⟩) (lk aa) (lk aa) /\ tmget tm 9 = .int .u32 (cyS aa bb i:Nat) /\ tmget tm 24 = .int .i64 (lk aa) /\ tmget tm 25 = .int .i64 i /\
   hget hp (N+0)=some ⟨122,1,false,tb (lk aa) (lm aa)⟩ /\ hget hp (N+1)=some ⟨122,1,false,tb (lk bb) (lm bb)⟩ /\
   hget hp (N+2)=some ⟨122,1,false,tb (lk aa) f⟩ /\ (∀ j,j < i -> f j=lm (aa - bb) j) /\ (∀ q,q < N -> hget hp q=hget h q) /\ nx=N+3) ?_ (lk aa)
  ⟨0,fun _=>0,by omega,?_,?_,?_,?_,?_,?_,?_,?_,?_,fun j hj=>by omega,?_,rfl⟩
 ·intro m tm hp nx ⟨i,f,hm,h6,h7,h8,h9,h24,h25,hb1,hb2,hb3,hf,hh,hnx⟩
  subst hnx
  have b1:=lm_lt aa i
  have b2:=lm_lt bb i
  have b3:=cyS_le aa bb i
  have v1:((lm aa i:Nat):Int) < 4294967296:=by omega
  have v2:((lm bb i:Nat):Int) < 4294967296:=by omega
  have v3:((cyS aa bb i:Nat):Int) <= 1:=by omega
  have hmod:=sub_mods (show bb <= aa by omega) i
  have v4:((lm aa i:Int) - lm bb i - cyS aa bb i) % 4294967296=(lm (aa - bb) i:Int):=(sub_limb hmod).symm
  have v5:(if (lm aa i:Int) < lm bb i+cyS aa bb i then (1:Int) else 0)=(cyS aa bb (i+1):Int):=by
   rw [cyS_succ]
   by_cases g:lm aa i < lm bb i+cyS aa bb i
   ·rw [if_pos g,if_pos (by omega)];rfl
   ·rw [if_neg g,if_neg (by omega)];rfl
  have e7:IntKind.i64.wrap ((i:Int)+1)=((i+1:Nat):Int):=by rw [i64_in _ (by omega)];omega
  by_cases c1:i < lk aa
  ·have c1':i+1 <= lk aa:=c1
   have k1:=tb_get' (lm aa) c1
   have hset:∀ j,j < i+1 -> (fun j=>if j=i then lm (aa - bb) i else f j) j=lm (aa - bb) j:=by
    intro j hj
    simp only
    by_cases e:j=i
    ·rw [if_pos e,e]
    ·rw [if_neg e];exact hf j (by omega)
   by_cases c2:i < lk bb
   ·have k2:=tb_get' (lm bb) c2
    simp only [↓R0,R1,simprocAttr,-Int.reduceAbs,h6,h7,h8,h9,h24,h25,hb1,hb2,hb3,c1,c1',c2,k1,k2,e7,spSub32,v1,v2,v3,v4,v5,tb_length,tb_set]
    refine ⟨m - 1,by omega,i+1,_,by omega,rfl,rfl,rfl,hset,?_⟩
    intro q hq
    simp only [if_neg (show ¬ N+2=q by omega)]
    exact hh q hq
   ·have z2:=lm_out c2
    rw [z2] at v4 v5
    have z0:((0:Nat):Int)=0:=rfl
    rw [z0] at v4 v5
    simp only [↓R0,R1,simprocAttr,-Int.reduceAbs,h6,h7,h8,h9,h24,h25,hb1,hb2,hb3,c1,c1',c2,k1,e7,spSub32,v1,v3,v4,v5,tb_length,tb_set]
    refine ⟨m - 1,by omega,i+1,_,by omega,rfl,rfl,rfl,hset,?_⟩
    intro q hq
    simp only [if_neg (show ¬ N+2=q by omega)]
    exact hh q hq
  ·have ei:i=lk aa:=by omega
   subst ei
   have c5:lk aa <= 34359738368:=by omega
   have htb:tb (lk aa) f=tb (lk aa) (lm (aa - bb)):=tb_congr hf
   have hud:ud (tb (lk aa) (lm (aa - bb)))=aa - bb:=by rw [ud_tb,Nat.mod_eq_of_lt (Nat.lt_of_le_of_lt (Nat.sub_le _ _) (lk_lt aa))]
   simp only [↓R0,R1,simprocAttr,-Int.reduceAbs,h6,h7,h8,h9,h24,h25,hb1,hb2,hb3,c1,tb_length,htb,rdS,spMag,shows,tb_all,uok_lm,c5,hud,Fin,isEnd,resL,res1,iE,rE]
   first | exact ⟨_,rfl,rfl,hh⟩ | exact ⟨_,rfl,rfl,fun k hk=>by simp only [ne_nb hk,if_false];exact hh k hk⟩
 ·(try simp only [↓R0,R1,simprocAttr,-Int.reduceAbs]) <;> rfl
 ·(try simp only [↓R0,R1,simprocAttr,-Int.reduceAbs]) <;> rfl
 ·(try simp only [↓R0,R1,simprocAttr,-Int.reduceAbs]) <;> rfl
 ·(first | (simp only [↓R0,R1,simprocAttr,-Int.reduceAbs,cyS_zero];done) | (simp only [↓R0,R1,simprocAttr,-Int.reduceAbs,cyS_zero];rfl) | rfl)
 ·(try simp only [↓R0,R1,simprocAttr,-Int.reduceAbs]) <;> rfl
 ·(try simp only [↓R0,R1,simprocAttr,-Int.reduceAbs]) <;> rfl
 ·(try simp only [↓R0,R1,simprocAttr,-Int.reduceAbs]) <;> rfl
 ·(try simp only [↓R0,R1,simprocAttr,-Int.reduceAbs]) <;> rfl
 ·(try simp only [↓R0,R1,simprocAttr,-Int.reduceAbs]) <;> rfl
 ·intro q hq
  simp only [↓R0,R1,simprocAttr,-Int.reduceAbs,hget_new hq]
end Go.Eng
end
section
namespace Go.Eng
def mvV (v0 xi y i k:Nat):Nat:=v0+xi * (y % 4294967296 ^ k) * 4294967296 ^ i
def mvC (v0 xi y i k:Nat):Nat:=mvV v0 xi y i k / 4294967296 ^ (i+k) - v0 / 4294967296 ^ (i+k)
def mvN (v0 xi y i k:Nat):Nat:=xi * lm y k+lm v0 (i+k)+mvC v0 xi y i k
theorem mvV_zero (v0 xi y i:Nat):mvV v0 xi y i 0=v0:=by simp [mvV,Nat.mod_one]
theorem mvC_zero (v0 xi y i:Nat):mvC v0 xi y i 0=0:=by simp [mvC,mvV_zero]
theorem mvV_succ (v0 xi y i k:Nat):mvV v0 xi y i (k+1)=mvV v0 xi y i k+xi * lm y k * 4294967296 ^ (i+k):=by
 unfold mvV
 rw [mod_step,Nat.pow_add,Nat.mul_add,Nat.add_mul,<- Nat.add_assoc]
 congr 1
 rw [Nat.mul_comm (4294967296 ^ k),<- Nat.mul_assoc,Nat.mul_assoc,Nat.mul_comm (4294967296 ^ k)]
theorem mv_div (v0 xi y i k:Nat):mvV v0 xi y i (k+1) / 4294967296 ^ (i+k)=mvN v0 xi y i k+4294967296 * (v0 / 4294967296 ^ (i+k+1)):=by
 have h1:v0 / 4294967296 ^ (i+k) <= mvV v0 xi y i k / 4294967296 ^ (i+k):=Nat.div_le_div_right (by unfold mvV;omega)
 rw [mvV_succ,Nat.add_mul_div_right _ _ (pB _)]
 unfold mvN mvC
 have h2:=div_step v0 (i+k)
 omega
theorem mv_limb (v0 xi y i k:Nat):lm (mvV v0 xi y i (k+1)) (i+k)=mvN v0 xi y i k % 4294967296:=by
 unfold lm;rw [mv_div];omega
theorem mv_carry (v0 xi y i k:Nat):mvC v0 xi y i (k+1)=mvN v0 xi y i k / 4294967296:=by
 have e:i+(k+1)=i+k+1:=by omega
 unfold mvC
 rw [e,Nat.pow_succ,<- Nat.div_div_eq_div_mul,mv_div,<- Nat.div_div_eq_div_mul,Nat.pow_succ,<- Nat.div_div_eq_div_mul]
 omega
theorem mv_low {v0 xi y i k j:Nat} (h:j < i+k):lm (mvV v0 xi y i (k+1)) j=lm (mvV v0 xi y i k) j:=by
 rw [mvV_succ,lm_add_mul h]
theorem mv_bound {v0 xi y i k:Nat} (hx:xi < 4294967296) (hc:mvC v0 xi y i k < 4294967296):mvN v0 xi y i k < 18446744073709551616 /\ mvC v0 xi y i (k+1) < 4294967296:=by
 have h1:=lm_lt y k
 have h2:=lm_lt v0 (i+k)
 have h3:xi * lm y k <= 4294967295 * 4294967295:=Nat.mul_le_mul (by omega) (by omega)
 rw [mv_carry]
 have hN:mvN v0 xi y i k < 18446744073709551616:=by unfold mvN;omega
 exact ⟨hN,by omega⟩
theorem mv_row {x y i ky:Nat} (hy:y < 4294967296 ^ ky):mvV (x % 4294967296 ^ i * y) (lm x i) y i ky=x % 4294967296 ^ (i+1) * y:=by
 unfold mvV
 rw [Nat.mod_eq_of_lt hy,mod_step,Nat.add_mul]
 congr 1
 rw [Nat.mul_comm,Nat.mul_assoc]
theorem mv_rowlt {x y i ky:Nat} (hy:y < 4294967296 ^ ky):x % 4294967296 ^ i * y < 4294967296 ^ (i+ky):=by
 rw [Nat.pow_add]
 exact Nat.mul_lt_mul'' (Nat.mod_lt _ (pB _)) hy
theorem mv_top {x y i ky:Nat} (hy:y < 4294967296 ^ ky):mvC (x % 4294967296 ^ i * y) (lm x i) y i ky=lm (x % 4294967296 ^ (i+1) * y) (i+ky):=by
 unfold mvC
 rw [mv_row hy,Nat.div_eq_of_lt (mv_rowlt hy),Nat.sub_zero,lm_top]
 have:=mv_rowlt (x:=x) (i:=i+1) hy
 rw [show i+ky+1=i+1+ky by omega];exact this
theorem sh_rest (n d i:Nat):n / 4294967296 ^ i % d=(n / 4294967296 ^ (i+1) % d * 4294967296+lm n i) % d:=by
 rw [div_step n i]
 generalize n / 4294967296 ^ (i+1)=Q
 have:(Q * 4294967296) % d=(Q % d * 4294967296) % d:=by rw [Nat.mul_mod,Nat.mul_mod (Q % d) 4294967296,Nat.mod_mod]
 rw [Nat.mul_comm 4294967296,Nat.add_mod,this,<- Nat.add_mod]
theorem sh_quo {n d i:Nat} (hd:0 < d):lm (n / d) i=(n / 4294967296 ^ (i+1) % d * 4294967296+lm n i) / d /\ (n / 4294967296 ^ (i+1) % d * 4294967296+lm n i) / d < 4294967296:=by
 have hr:=Nat.mod_lt (n / 4294967296 ^ (i+1)) hd
 have hl:=lm_lt n i
 have e0:lm (n / d) i=n / 4294967296 ^ i / d % 4294967296:=by
  unfold lm;rw [Nat.div_div_eq_div_mul,Nat.mul_comm d,<- Nat.div_div_eq_div_mul]
 rw [e0,div_step n i]
 generalize lm n i=l at *
 have hd1:=Nat.div_add_mod (n / 4294967296 ^ (i+1)) d
 generalize n / 4294967296 ^ (i+1)=Q at *
 have hz:(Q % d * 4294967296+l) / d < 4294967296:=by
  rw [Nat.div_lt_iff_lt_mul hd]
  have:(Q % d+1) * 4294967296 <= d * 4294967296:=Nat.mul_le_mul_right _ hr
  rw [Nat.add_mul] at this
  rw [Nat.mul_comm _ d]
  omega
 have e:4294967296 * Q+l=d * (4294967296 * (Q / d))+(Q % d * 4294967296+l):=by
  conv=>lhs;rw [<- hd1]
  rw [Nat.mul_add,<- Nat.mul_assoc,<- Nat.mul_assoc,Nat.mul_comm d 4294967296];omega
 refine ⟨?_,hz⟩
 rw [e,Nat.mul_add_div hd,Nat.mul_add_mod,Nat.mod_eq_of_lt hz]
theorem shl_limb {n s i : Nat} (hs : s < 32) :
    (∀ j, lm (n % 4294967296 ^ (i + 1) * 2 ^ s) j = if j = i + 1 then lm n i * 2 ^ s / 4294967296 else if j = i then lm (n % 4294967296 ^ i * 2 ^ s) i + lm n i * 2 ^ s % 4294967296 else lm (n % 4294967296 ^ i * 2 ^ s) j) ∧
    lm (n % 4294967296 ^ i * 2 ^ s) i < 2 ^ s ∧ lm n i * 2 ^ s % 4294967296 = (lm n i * 2 ^ s % 4294967296) / 2 ^ s * 2 ^ s ∧ lm (n % 4294967296 ^ i * 2 ^ s) i + lm n i * 2 ^ s % 4294967296 < 4294967296 := by
  have hS : 4294967296 = 2 ^ (32 - s) * 2 ^ s := by rw [← Nat.pow_add, show 32 - s + s = 32 by omega]
  have hS0 : 0 < 2 ^ s := Nat.pow_pos (by omega)
  have hm := Nat.mod_lt n (pB i)
  have hx := lm_lt n i
  have e0 : lm n i * 2 ^ s % 4294967296 = lm n i % 2 ^ (32 - s) * 2 ^ s := by
    conv => lhs; rw [hS]
    rw [Nat.mul_mod_mul_right]
  have hT : 2 ^ s ≤ 4294967296 := by conv => rhs; rw [hS]
                                     exact Nat.le_mul_of_pos_left _ (Nat.pow_pos (by omega))
  have hlo : n % 4294967296 ^ i * 2 ^ s < 4294967296 ^ i * 2 ^ s := Nat.mul_lt_mul_of_pos_right hm hS0
  have hlo1 : n % 4294967296 ^ i * 2 ^ s < 4294967296 ^ (i + 1) := by rw [Nat.pow_succ]; exact Nat.lt_of_lt_of_le hlo (Nat.mul_le_mul_left _ hT)
  have h1 : lm (n % 4294967296 ^ i * 2 ^ s) i < 2 ^ s := by
    rw [lm_top hlo1]; exact Nat.div_lt_of_lt_mul hlo
  have h2 : lm n i % 2 ^ (32 - s) * 2 ^ s + 2 ^ s ≤ 4294967296 := by
    have := Nat.mul_le_mul_right (2 ^ s) (Nat.mod_lt (lm n i) (Nat.pow_pos (n := 32 - s) (show 0 < 2 by omega)))
    rw [Nat.succ_mul, ← hS] at this
    exact this
  refine ⟨fun j => ?_, h1, ?_, ?_⟩
  · have e : n % 4294967296 ^ (i + 1) * 2 ^ s = n % 4294967296 ^ i * 2 ^ s + lm n i * 2 ^ s * 4294967296 ^ i := by
      rw [mod_step, Nat.add_mul, Nat.mul_assoc, Nat.mul_comm (4294967296 ^ i)]
    have ediv : (n % 4294967296 ^ i * 2 ^ s + lm n i * 2 ^ s * 4294967296 ^ i) / 4294967296 ^ i = lm (n % 4294967296 ^ i * 2 ^ s) i + lm n i * 2 ^ s := by
      rw [Nat.add_mul_div_right _ _ (pB i), lm_top hlo1]
    rw [e]
    rcases Nat.lt_trichotomy j i with g | g | g
    · rw [if_neg (by omega), if_neg (by omega), lm_add_mul g]
    · subst g
      rw [if_neg (by omega), if_pos rfl]
      have e9 : ∀ W, lm W j = W / 4294967296 ^ j % 4294967296 := fun W => rfl
      rw [e9, ediv]
      have : lm (n % 4294967296 ^ j * 2 ^ s) j + lm n j * 2 ^ s % 4294967296 < 4294967296 := by rw [e0]; omega
      omega
    · by_cases g2 : j = i + 1
      · rw [if_pos g2, g2]
        have e9 : ∀ W, lm W (i + 1) = W / 4294967296 ^ i / 4294967296 % 4294967296 := fun W => by unfold lm; rw [Nat.pow_succ, ← Nat.div_div_eq_div_mul]
        rw [e9, ediv]
        have q1 : lm n i * 2 ^ s < 4294967296 * 4294967296 := Nat.mul_lt_mul_of_lt_of_le hx hT (by omega)
        have q2 : lm n i * 2 ^ s % 4294967296 + 2 ^ s ≤ 4294967296 := by rw [e0]; exact h2
        omega
      · rw [if_neg g2, if_neg (by omega)]
        have hhi : n % 4294967296 ^ i * 2 ^ s + lm n i * 2 ^ s * 4294967296 ^ i < 4294967296 ^ (i + 2) := by
          have e8 : 4294967296 ^ (i + 2) = 4294967296 ^ (i + 1) * 4294967296 := Nat.pow_succ _ _
          rw [← e, e8]
          exact Nat.mul_lt_mul_of_lt_of_le (Nat.mod_lt _ (pB _)) hT (by omega)
        rw [lm_of_lt' hhi (by omega), lm_of_lt' hlo1 (by omega)]
  · rw [e0, Nat.mul_div_cancel _ hS0]
  · rw [e0]; omega
theorem shr_limb {n s i:Nat} (hs:s < 32):lm (n / 2 ^ s) i=(lm n i+lm n (i+1) * 4294967296) / 2 ^ s % 4294967296:=by
 have e:n / 4294967296 ^ i=4294967296 * 4294967296 * (n / 4294967296 ^ (i+2))+(lm n i+lm n (i+1) * 4294967296):=by
  have h1:=div_step n i
  have h2:=div_step n (i+1)
  rw [show i+2=i+1+1 from rfl]
  omega
 have hS:4294967296=2 ^ s * 2 ^ (32 - s):=by rw [<- Nat.pow_add,show s+(32 - s)=32 by omega]
 have hS0:0 < 2 ^ s:=Nat.pow_pos (by omega)
 have e0:lm (n / 2 ^ s) i=n / 4294967296 ^ i / 2 ^ s % 4294967296:=by
  unfold lm;rw [Nat.div_div_eq_div_mul,Nat.mul_comm,<- Nat.div_div_eq_div_mul]
 rw [e0,e]
 have e2:4294967296 * 4294967296 * (n / 4294967296 ^ (i+2))=2 ^ s * (4294967296 * (2 ^ (32 - s) * (n / 4294967296 ^ (i+2)))):=by
  rw [<- Nat.mul_assoc,<- Nat.mul_assoc,Nat.mul_comm (2 ^ s),Nat.mul_assoc 4294967296 (2 ^ s),<- hS]
 rw [e2,Nat.mul_add_div hS0,Nat.mul_add_mod]
end Go.Eng
end
section
set_option maxRecDepth 4000
namespace Go.Eng
open Go Go.Proofs Go.IntWalk
def spNMul:List Value -> Option Value
 | [.string ⟨⟨l⟩⟩,.string ⟨⟨m⟩⟩]=>if l.length <= 34359738368 /\ m.length <= 34359738368 then some (.string ⟨⟨bl (nl l * nl m)⟩⟩) else none
 | _=>none
def c111:ICode:=
 (.seq (.reg [qq 4 (.mv (.c e0))]) (.seq (.reg [qq 12 (.mv (.t 0)),qq 13 (.call 121 [(.t 12)]),qq 14 (.mv (.t 1)),qq 15 (.call 121 [(.t 14)]),qq 5 (.mv (.t 13)),qq 6 (.mv (.t 15))]) (.seq (.reg [qq 16 (.mv (.t 5)),qq 17 (.lensl (.t 16)),qq 18 (.mv (.t 6)),qq 19 (.lensl (.t 18)),qq 20 (.bin .add (.t 17) (.t 19)),qq 21 (.mkslice 122 1 4 [(.int .u32 0)] (.t 20) (.t 20)),qq 7 (.mv (.t 21))]) (.seq (.seq (.reg [qq 22 (.mv (.t 5)),qq 23 (.lensl (.t 22)),qq 24 (.mv (ci 0))]) (.block 0 (.loop (.seq (.reg [qq 25 (.bin .lss (.t 24) (.t 23))]) (.seq (.cond (.t 25) .skip (.exit 0)) (.seq (.block 1 (.seq (.reg [qq 26 (.mv (.t 24)),qq 8 (.mv (.t 26))]) (.seq (.reg [qq 9 (.mv (.c (.int .u64 0)))]) (.seq (.seq (.reg [qq 27 (.mv (.t 6)),qq 28 (.lensl (.t 27)),qq 29 (.mv (ci 0))]) (.block 2 (.loop (.seq (.reg [qq 30 (.bin .lss (.t 29) (.t 28))]) (.seq (.cond (.t 30) .skip (.exit 2)) (.seq (.block 3 (.seq (.reg [qq 31 (.mv (.t 29)),qq 10 (.mv (.t 31))]) (.seq (.dreg [qu 32 (.mv (.t 5)),qu 33 (.mv (.t 8)),qu 34 (.ixsl 1 (.t 32) (.t 33)),qu 35 (.load false 1 (.t 34)),qu 36 (.conv .u64 (.t 35)),qu 37 (.mv (.t 6)),qu 38 (.mv (.t 10)),qu 39 (.ixsl 1 (.t 37) (.t 38)),qu 40 (.load false 1 (.t 39)),qu 41 (.conv .u64 (.t 40)),qu 42 (.bin .mul (.t 36) (.t 41)),qu 43 (.mv (.t 7)),qu 44 (.mv (.t 8)),qu 45 (.mv (.t 10)),qu 46 (.bin .add (.t 44) (.t 45)),qu 47 (.ixsl 1 (.t 43) (.t 46)),qu 48 (.load false 1 (.t 47)),qu 49 (.conv .u64 (.t 48)),qu 50 (.bin .add (.t 42) (.t 49)),qu 51 (.mv (.t 9)),qu 52 (.bin .add (.t 50) (.t 51)),qu 11 (.mv (.t 52))]) (.reg [qq 53 (.mv (.t 7)),qq 54 (.mv (.t 8)),qq 55 (.mv (.t 10)),qq 56 (.bin .add (.t 54) (.t 55)),qq 57 (.mv (.t 11)),qq 58 (.conv .u32 (.t 57)),qq 59 (.mv (.t 11)),qq 60 (.bin .shr (.t 59) (.c (.int .u64 32))),qq 61 (.ixsl 1 (.t 53) (.t 56)),qn (.store 1 (.t 61) (.t 58)),qq 9 (.mv (.t 60))])))) (.reg [qq 62 (.bin .add (.t 29) (ci 1)),qq 29 (.mv (.t 62))]))))))) (.reg [qq 63 (.mv (.t 7)),qq 64 (.mv (.t 8)),qq 65 (.mv (.t 6)),qq 66 (.lensl (.t 65)),qq 67 (.bin .add (.t 64) (.t 66)),qq 68 (.mv (.t 9)),qq 69 (.conv .u32 (.t 68)),qq 70 (.ixsl 1 (.t 63) (.t 67)),qn (.store 1 (.t 70) (.t 69))]))))) (.reg [qq 71 (.bin .add (.t 24) (ci 1)),qq 24 (.mv (.t 71))]))))))) (.seq (.reg [qq 72 (.mv (.t 7)),qq 73 (.call 123 [(.t 72)]),qq 4 (.mv (.t 73))]) .ret)))))
theorem tr111:trFun Tryz.prog 111=some ⟨74,[.t 4],c111⟩:=by kernel_rfl
set_option maxHeartbeats 1000000 in
theorem ok_nMul:SpecOK Tryz.prog 111 (flat spNMul):=by
 refine flat_run (env_cons ok_nlimbs (env_cons ok_nmag (env_nil _))) mixed tr111 ?_
 intro args v h N hG
 unfold spNMul at hG
 split at hG
 case h_2=>cases hG
 rename_i l m
 split at hG
 case isFalse=>cases hG
 rename_i hl
 obtain ⟨hl,hm⟩:=hl
 cases hG
 refine ⟨rfl,by simp,?_⟩
 have hL:lk (nl l) <= 8589934592:=lk_len (Nat.le_trans (bl_length_nl l) (by omega))
 have hM:lk (nl m) <= 8589934592:=lk_len (Nat.le_trans (bl_length_nl m) (by omega))
 have hl':l.length <= 1099511627776:=by omega
 have hm':m.length <= 1099511627776:=by omega
 have hx:=lk_lt (nl l)
 have hy:=lk_lt (nl m)
 generalize ha:nl l=x at *
 generalize hb:nl m=y at *
 have g1:IntKind.i64.wrap ((lk x:Int)+(lk y:Int))=((lk x+lk y:Nat):Int):=by rw [i64_in _ (by omega)];omega
 have g2:4 * ((lk x+lk y:Nat):Int) <= 281474976710656:=by omega
 have g3:((lk x+lk y:Nat):Int) <= 9223372036854775807:=by omega
 simp only [c111,G0,Nat.reduceAdd]
 simp only [↓R0,R1,simprocAttr,-Int.reduceAbs,nwS,spLimbs,hl',hm',ha,hb,g1,g2,g3,tb_rep]
 clear g1 g2 g3
 generalize hkx:lk x=kx at *
 generalize hky:lk y=ky at *
 refine lp_parts (fun m tm hp nx=>∃ (i:Nat),m+i=kx /\ tmget tm 5 = .slice (some ⟨N+0,0,none⟩) kx kx /\ tmget tm 6 = .slice (some ⟨N+1,0,none⟩) ky ky /\
   tmget tm 7 = .slice (some ⟨N+2,0,none⟩) (kx+ky) (kx+ky) /\ tmget tm 23 = .int .i64 kx /\ tmget tm 24 = .int .i64 i /\
   hget hp (N+0)=some ⟨122,1,false,tb kx (lm x)⟩ /\ hget hp (N+1)=some ⟨122,1,false,tb ky (lm y)⟩ /\
   hget hp (N+2)=some ⟨122,1,false,tb (kx+ky) (lm (x % 4294967296 ^ i * y))⟩ /\ (∀ q,q < N -> hget hp q=hget h q) /\ nx=N+3) ?_ kx
  ⟨0,by omega,?_,?_,?_,?_,?_,?_,?_,?_,?_,rfl⟩
 ·intro m tm hp nx ⟨i,hm,h5,h6,h7,h23,h24,hb1,hb2,hb3,hh,hnx⟩
  subst hnx
  by_cases c1:i < kx
  ·have ex:IntKind.i64.wrap ((i:Int)+1)=((i+1:Nat):Int):=by rw [i64_in _ (by omega)];omega
   simp only [↓R0,R1,simprocAttr,-Int.reduceAbs,h5,h6,h7,h23,h24,hb1,hb2,hb3,c1]
   refine lp_parts (fun m2 tm hp nx=>∃ (k:Nat) (f:Nat -> Nat),m2+k=ky /\ tmget tm 5 = .slice (some ⟨N+0,0,none⟩) kx kx /\ tmget tm 6 = .slice (some ⟨N+1,0,none⟩) ky ky /\
    tmget tm 7 = .slice (some ⟨N+2,0,none⟩) (kx+ky) (kx+ky) /\ tmget tm 23 = .int .i64 kx /\ tmget tm 24 = .int .i64 i /\ tmget tm 8 = .int .i64 i /\ tmget tm 28 = .int .i64 ky /\ tmget tm 29 = .int .i64 k /\
    tmget tm 9 = .int .u64 (mvC (x % 4294967296 ^ i * y) (lm x i) y i k:Nat) /\ mvC (x % 4294967296 ^ i * y) (lm x i) y i k < 4294967296 /\
    hget hp (N+0)=some ⟨122,1,false,tb kx (lm x)⟩ /\ hget hp (N+1)=some ⟨122,1,false,tb ky (lm y)⟩ /\
    hget hp (N+2)=some ⟨122,1,false,tb (kx+ky) f⟩ /\ (∀ j,f j=if j < i+k then lm (mvV (x % 4294967296 ^ i * y) (lm x i) y i k) j else lm (x % 4294967296 ^ i * y) j) /\
    (∀ q,q < N -> hget hp q=hget h q) /\ nx=N+3) ?_ ky
    ⟨0,_,by omega,?_,?_,?_,?_,?_,?_,?_,?_,?_,?_,hb1,hb2,hb3,fun j=>?_,hh,rfl⟩
   ·clear h5 h6 h7 h23 h24 hb1 hb2 hb3 hh
    clear tm hp
    intro m2 tm hp nx ⟨k,f,hm2,h5,h6,h7,h23,h24,h8,h28,h29,h9,hc,hb1,hb2,hb3,hf,hh,hnx⟩
    subst hnx
    by_cases c2:k < ky
    ·obtain ⟨hN,hc'⟩:=mv_bound (v0:=x % 4294967296 ^ i * y) (y:=y) (i:=i) (k:=k) (lm_lt x i) hc
     have hfk:f (i+k)=lm (x % 4294967296 ^ i * y) (i+k):=by rw [hf,if_neg (by omega)]
     have hNd:mvN (x % 4294967296 ^ i * y) (lm x i) y i k=lm x i * lm y k+f (i+k)+mvC (x % 4294967296 ^ i * y) (lm x i) y i k:=by rw [hfk];rfl
     have hcar:=mv_carry (x % 4294967296 ^ i * y) (lm x i) y i k
     have hlim:=mv_limb (x % 4294967296 ^ i * y) (lm x i) y i k
     have hlow:∀ j,j < i+k -> lm (mvV (x % 4294967296 ^ i * y) (lm x i) y i (k+1)) j=lm (mvV (x % 4294967296 ^ i * y) (lm x i) y i k) j:=fun j h=>mv_low h
     generalize hC:mvC (x % 4294967296 ^ i * y) (lm x i) y i k=C at *
     generalize hNN:mvN (x % 4294967296 ^ i * y) (lm x i) y i k=W at *
     have bx:=lm_lt x i
     have b_y:=lm_lt y k
     have bf:f (i+k) < 4294967296:=by rw [hfk];exact lm_lt _ _
     have bxy:lm x i * lm y k <= 4294967295 * 4294967295:=Nat.mul_le_mul (by omega) (by omega)
     have w1:=u64_nat (n:=lm x i) (by omega)
     have w2:=u64_nat (n:=lm y k) (by omega)
     have w3:=u64_nat (n:=f (i+k)) (by omega)
     have w4:IntKind.u64.wrap ((lm x i:Int) * (lm y k:Int))=((lm x i * lm y k:Nat):Int):=by rw [<- Int.natCast_mul,u64_nat (by omega)]
     have w5:IntKind.u64.wrap (((lm x i * lm y k:Nat):Int)+(f (i+k):Int))=((lm x i * lm y k+f (i+k):Nat):Int):=by rw [<- Int.natCast_add,u64_nat (by omega)]
     have w6:IntKind.u64.wrap (((lm x i * lm y k+f (i+k):Nat):Int)+(C:Int))=(W:Int):=by rw [<- Int.natCast_add,hNd,u64_nat (by omega)]
     have w7:=u32_mod W
     have w8:(W:Int).fdiv (2 ^ min 32 IntKind.u64.bits)=((W / 4294967296:Nat):Int):=by
      have:(2:Int) ^ min 32 IntKind.u64.bits=4294967296:=rfl
      rw [this,Int.fdiv_eq_ediv_of_nonneg _ (by omega)];omega
     have e1:IntKind.i64.wrap ((i:Int)+(k:Int))=((i+k:Nat):Int):=by rw [i64_in _ (by omega)];omega
     have e2:IntKind.i64.wrap ((k:Int)+1)=((k+1:Nat):Int):=by rw [i64_in _ (by omega)];omega
     have k1:=tb_get' (lm x) c1
     have k2:=tb_get' (lm y) c2
     have c3:i+k < kx+ky:=by omega
     have c3':i+k+1 <= kx+ky:=by omega
     have k3:=tb_get' f c3
     simp only [↓R0,R1,simprocAttr,-Int.reduceAbs,h5,h6,h7,h23,h24,h8,h28,h29,h9,hb1,hb2,hb3,c1,c2,c3,c3',k1,k2,k3,w1,w2,w3,w4,w5,w6,w7,w8,e1,e2,tb_length,tb_set]
     refine ⟨m2 - 1,by omega,k+1,_,by omega,rfl,?_,?_,rfl,fun j=>?_,?_⟩
     ·rw [hcar]
     ·exact hc'
     ·by_cases g:j=i+k
      ·rw [if_pos g,if_pos (by omega),g,hlim]
      ·rw [if_neg g,hf j]
       by_cases g2:j < i+k
       ·rw [if_pos g2,if_pos (by omega),hlow j g2]
       ·rw [if_neg g2,if_neg (by omega)]
     ·intro q hq
      simp only [if_neg (show ¬ N+2=q by omega)]
      exact hh q hq
    ·have ek:k=ky:=by omega
     subst ek
     have hy':y < 4294967296 ^ k:=by rw [<- hky];exact lk_lt y
     have w1:=u32_nat hc
     have e1:IntKind.i64.wrap ((i:Int)+(k:Int))=((i+k:Nat):Int):=by rw [i64_in _ (by omega)];omega
     have c3:i+k < kx+k:=by omega
     have c3':i+k+1 <= kx+k:=by omega
     simp only [↓R0,R1,simprocAttr,-Int.reduceAbs,h5,h6,h7,h23,h24,h8,h28,h29,h9,hb1,hb2,hb3,c1,c2,c3,c3',w1,e1,ex,tb_length,tb_set]
     refine ⟨m - 1,by omega,i+1,by omega,rfl,?_,?_⟩
     ·congr 2
      apply tb_congr
      intro j hj
      by_cases g:j=i+k
      ·rw [if_pos g,mv_top hy',g]
      ·rw [if_neg g,hf j]
       by_cases g2:j < i+k
       ·rw [if_pos g2,mv_row hy']
       ·rw [if_neg g2,lm_of_lt' (mv_rowlt hy') (by omega),lm_of_lt' (mv_rowlt hy') (by omega)]
     ·intro q hq
      simp only [if_neg (show ¬ N+2=q by omega)]
      exact hh q hq
   ·(first | (simp only [↓R0,R1,simprocAttr,-Int.reduceAbs,h5];done) | (simp only [↓R0,R1,simprocAttr,-Int.reduceAbs,h5];rfl) | rfl)
   ·(first | (simp only [↓R0,R1,simprocAttr,-Int.reduceAbs,h6];done) | (simp only [↓R0,R1,simprocAttr,-Int.reduceAbs,h6];rfl) | rfl)
   ·(first | (simp only [↓R0,R1,simprocAttr,-Int.reduceAbs,h7];done) | (simp only [↓R0,R1,simprocAttr,-Int.reduceAbs,h7];rfl) | rfl)
   ·(first | (simp only [↓R0,R1,simprocAttr,-Int.reduceAbs,h23];done) | (simp only [↓R0,R1,simprocAttr,-Int.reduceAbs,h23];rfl) | rfl)
   ·(first | (simp only [↓R0,R1,simprocAttr,-Int.reduceAbs,h24];done) | (simp only [↓R0,R1,simprocAttr,-Int.reduceAbs,h24];rfl) | rfl)
   ·(first | (simp only [↓R0,R1,simprocAttr,-Int.reduceAbs,h24];done) | (simp only [↓R0,R1,simprocAttr,-Int.reduceAbs,h24];rfl) | rfl)
   ·(try simp only [↓R0,R1,simprocAttr,-Int.reduceAbs]) <;> rfl
   ·(try simp only [↓R0,R1,simprocAttr,-Int.reduceAbs]) <;> rfl
   ·(first | (simp only [↓R0,R1,simprocAttr,-Int.reduceAbs,mvC_zero];done) | (simp only [↓R0,R1,simprocAttr,-Int.reduceAbs,mvC_zero];rfl) | rfl)
   ·rw [mvC_zero];omega
   ·rw [mvV_zero];simp
  ·have ei:i=kx:=by omega
   subst ei
   have hX:x % 4294967296 ^ i=x:=Nat.mod_eq_of_lt hx
   have hxy:x * y < 4294967296 ^ (i+ky):=by rw [Nat.pow_add];exact Nat.mul_lt_mul'' hx hy
   have hud:ud (tb (i+ky) (lm (x * y)))=x * y:=by rw [ud_tb,Nat.mod_eq_of_lt hxy]
   have c5:i+ky <= 34359738368:=by omega
   rw [hX] at hb3
   simp only [↓R0,R1,simprocAttr,-Int.reduceAbs,h5,h6,h7,h23,h24,hb1,hb2,hb3,c1,tb_length,rdS,spMag,shows,tb_all,uok_lm,c5,hud,Fin,isEnd,resL,res1,iE,rE]
   first | exact ⟨_,rfl,rfl,hh⟩ | exact ⟨_,rfl,rfl,fun k hk=>by simp only [ne_nb hk,if_false];exact hh k hk⟩
 ·(try simp only [↓R0,R1,simprocAttr,-Int.reduceAbs]) <;> rfl
 ·(try simp only [↓R0,R1,simprocAttr,-Int.reduceAbs]) <;> rfl
 ·(try simp only [↓R0,R1,simprocAttr,-Int.reduceAbs]) <;> rfl
 ·(try simp only [↓R0,R1,simprocAttr,-Int.reduceAbs]) <;> rfl
 ·(try simp only [↓R0,R1,simprocAttr,-Int.reduceAbs]) <;> rfl
 ·(try simp only [↓R0,R1,simprocAttr,-Int.reduceAbs]) <;> rfl
 ·(try simp only [↓R0,R1,simprocAttr,-Int.reduceAbs]) <;> rfl
 ·(first | (simp only [↓R0,R1,simprocAttr,-Int.reduceAbs,Nat.pow_zero,Nat.mod_one,Nat.zero_mul,lm_0];done) | (simp only [↓R0,R1,simprocAttr,-Int.reduceAbs,Nat.pow_zero,Nat.mod_one,Nat.zero_mul,lm_0];rfl) | rfl)
 ·intro q hq
  simp only [↓R0,R1,simprocAttr,-Int.reduceAbs,hget_new hq]
def spShort:List Value -> Heap -> Option ((Nat -> Value) × Blk)
 | [v,.int .u32 d],h=>match shows h v with
  | some cs=>if uok cs=true /\ cs.length <= 34359738368 /\ 0 < d /\ d < 4294967296 then
    some (fun k => .tuple ⟨[.slice (some ⟨k,0,none⟩) cs.length cs.length,.int .u32 (ud cs % d.toNat:Nat)]⟩,⟨122,1,false,tb cs.length (lm (ud cs / d.toNat))⟩) else none
  | none=>none
 | _,_=>none
def c127:ICode:=
 (.seq (.reg [qq 4 (.mv (.c (.slice none 0 0))),qq 5 (.mv (.c (.int .u32 0)))]) (.seq (.reg [qq 10 (.mv (.t 0)),qq 11 (.lensl (.t 10)),qq 12 (.mkslice 122 1 4 [(.int .u32 0)] (.t 11) (.t 11)),qq 6 (.mv (.t 12))]) (.seq (.reg [qq 7 (.mv (.c (.int .u32 0)))]) (.seq (.seq (.reg [qq 13 (.mv (.t 0)),qq 14 (.lensl (.t 13)),qq 15 (.mv (ci 0))]) (.block 0 (.loop (.seq (.reg [qq 16 (.bin .lss (.t 15) (.t 14))]) (.seq (.cond (.t 16) .skip (.exit 0)) (.seq (.block 1 (.seq (.reg [qq 17 (.mv (.t 15)),qq 8 (.mv (.t 17))]) (.seq (.reg [qq 18 (.mv (.t 0)),qq 19 (.lensl (.t 18)),qq 20 (.bin .sub (.t 19) (ci 1)),qq 21 (.mv (.t 8)),qq 22 (.bin .sub (.t 20) (.t 21)),qq 9 (.mv (.t 22))]) (.reg [qq 24 (.mv (.t 6)),qq 25 (.mv (.t 9)),qq 26 (.mv (.t 7)),qq 27 (.mv (.t 0)),qq 28 (.mv (.t 9)),qq 29 (.ixsl 1 (.t 27) (.t 28)),qq 30 (.load false 1 (.t 29)),qq 31 (.mv (.t 1)),qq 32 (.call 134 [(.t 26),(.t 30),(.t 31)]),qq 23 (.mv (.t 32)),qq 33 (.ext (.t 23) 0),qq 34 (.ext (.t 23) 1),qq 35 (.ixsl 1 (.t 24) (.t 25)),qn (.store 1 (.t 35) (.t 33)),qq 7 (.mv (.t 34))])))) (.reg [qq 36 (.bin .add (.t 15) (ci 1)),qq 15 (.mv (.t 36))]))))))) (.seq (.reg [qq 37 (.mv (.t 6)),qq 38 (.mv (.t 7)),qq 4 (.mv (.t 37)),qq 5 (.mv (.t 38))]) .ret)))))
theorem tr127:trFun Tryz.prog 127=some ⟨39,[.t 4,.t 5],c127⟩:=by kernel_rfl
set_option maxHeartbeats 1000000 in
theorem ok_nshort:SpecOK Tryz.prog 127 (nwS spShort):=by
 refine nw_run (env_cons ok_div32 (env_nil _)) mixed tr127 ?_ ?_
 ·intro args h h' v hle e
  unfold spShort at e ⊢
  split at e
  ·split at e
   ·rename_i cs hcs
    simp only [shows_mono hle hcs];exact e
   ·cases e
  ·cases e
 intro args vf b h N hG hN
 unfold spShort at hG
 split at hG
 case h_2=>cases hG
 rename_i sv d _
 split at hG
 case h_2=>cases hG
 rename_i cs hcs
 split at hG
 case isFalse=>cases hG
 rename_i hl
 obtain ⟨hu,hl,hd,hd2⟩:=hl
 cases hG
 refine ⟨rfl,tb_base _ _,vr1_pair (vr1_sl _ _ _) (vr1_flat rfl),by simp,?_⟩
 obtain ⟨kb,off,K,cap,blk,rfl,hb,hle,hcell,hV,hlen⟩:=shows_tb hcs hu
 have hkb:=hN _ _ hb
 have hne:∀ a,¬ (N+a=kb):=fun a=>by omega
 rw [hlen] at hl ⊢
 generalize ud cs=V at *
 obtain ⟨d,rfl⟩:=Int.eq_ofNat_of_zero_le (Int.le_of_lt hd)
 simp only [Int.toNat_natCast]
 have hd0:0 < d:=by omega
 have g2:4 * (K:Int) <= 281474976710656:=by omega
 have g3:(K:Int) <= 9223372036854775807:=by omega
 simp only [c127,G0,Nat.reduceAdd]
 simp only [↓R0,R1,simprocAttr,-Int.reduceAbs,g2,g3,tb_rep]
 clear g2 g3
 refine lp_parts (fun m tm hp nx=>∃ (i:Nat) (f:Nat -> Nat),m+i=K /\ tmget tm 0 = .slice (some ⟨kb,off,none⟩) K cap /\ tmget tm 1 = .int .u32 (d:Nat) /\ tmget tm 6 = .slice (some ⟨N+0,0,none⟩) K K /\
   tmget tm 7 = .int .u32 (V / 4294967296 ^ m % d:Nat) /\ tmget tm 14 = .int .i64 K /\ tmget tm 15 = .int .i64 i /\
   hget hp (N+0)=some ⟨122,1,false,tb K f⟩ /\ (∀ j,m <= j -> j < K -> f j=lm (V / d) j) /\ (∀ q,q < N -> hget hp q=hget h q) /\ nx=N+1) ?_ K
  ⟨0,fun _=>0,by omega,?_,?_,?_,?_,?_,?_,?_,fun j hj hj2=>by omega,?_,rfl⟩
 ·intro m tm hp nx ⟨i,f,hm,h0,h1,h6,h7,h14,h15,hb1,hf,hh,hnx⟩
  subst hnx
  by_cases c1:i < K
  ·obtain ⟨m,rfl⟩:∃ m',m=m'+1:=⟨m - 1,by omega⟩
   have hbb:hget hp kb=some blk:=by rw [hh kb hkb];exact hb
   have c2:m < K:=by omega
   have c2':m+1 <= K:=by omega
   obtain ⟨q1,q2⟩:=sh_quo (n:=V) (i:=m) hd0
   have q3:=sh_rest V d m
   have hr:=Nat.mod_lt (V / 4294967296 ^ (m+1)) hd0
   have bl:=lm_lt V m
   have e1:IntKind.i64.wrap ((K:Int) - 1)=((K - 1:Nat):Int):=by rw [i64_in _ (by omega)];omega
   have e2:IntKind.i64.wrap (((K - 1:Nat):Int) - (i:Int))=(m:Int):=by rw [i64_in _ (by omega)];omega
   have e3:IntKind.i64.wrap ((i:Int)+1)=((i+1:Nat):Int):=by rw [i64_in _ (by omega)];omega
   have v1:((V / 4294967296 ^ (m+1) % d:Nat):Int) < (d:Int):=by omega
   have v2:((lm V m:Nat):Int) < 4294967296:=by omega
   have v3:(((V / 4294967296 ^ (m+1) % d:Nat):Int) * 4294967296+(lm V m:Int)) / (d:Int)=((lm (V / d) m:Nat):Int):=by rw [q1];rfl
   have v4:(((V / 4294967296 ^ (m+1) % d:Nat):Int) * 4294967296+(lm V m:Int)) % (d:Int)=((V / 4294967296 ^ m % d:Nat):Int):=by rw [q3];rfl
   have v5:=hcell m c2
   simp only [↓R0,R1,simprocAttr,-Int.reduceAbs,h0,h1,h6,h7,h14,h15,hb1,hbb,c1,c2,c2',e1,e2,e3,spDiv32,v1,v2,v3,v4,v5,hd2,hr,tb_length,tb_set]
   refine ⟨m,by omega,i+1,_,by omega,rfl,rfl,rfl,fun j hj hj2=>?_,?_⟩
   ·by_cases g:j=m
    ·rw [if_pos g,g]
    ·rw [if_neg g];exact hf j (by omega) hj2
   ·intro q hq
    simp only [if_neg (show ¬ N+0=q by omega)]
    exact hh q hq
  ·have ei:i=K:=by omega
   subst ei
   have em:m=0:=by omega
   subst em
   rw [Nat.pow_zero,Nat.div_one] at h7
   have htb:tb i f=tb i (lm (V / d)):=tb_congr fun j hj=>hf j (by omega) hj
   simp only [↓R0,R1,simprocAttr,-Int.reduceAbs,h0,h1,h6,h7,h14,h15,hb1,c1]
   refine ⟨trivial,_,N+0,false,rfl,?_,by omega,by rw [hb1,htb],hh⟩
   (first | (simp only [↓R0,R1,simprocAttr,-Int.reduceAbs,one];done) | (simp only [↓R0,R1,simprocAttr,-Int.reduceAbs,one];rfl) | rfl)
 ·(try simp only [↓R0,R1,simprocAttr,-Int.reduceAbs]) <;> rfl
 ·(try simp only [↓R0,R1,simprocAttr,-Int.reduceAbs]) <;> rfl
 ·(try simp only [↓R0,R1,simprocAttr,-Int.reduceAbs]) <;> rfl
 ·(first | (simp only [↓R0,R1,simprocAttr,-Int.reduceAbs,Nat.div_eq_of_lt hV,Nat.zero_mod];done) | (simp only [↓R0,R1,simprocAttr,-Int.reduceAbs,Nat.div_eq_of_lt hV,Nat.zero_mod];rfl) | rfl)
 ·(try simp only [↓R0,R1,simprocAttr,-Int.reduceAbs]) <;> rfl
 ·(try simp only [↓R0,R1,simprocAttr,-Int.reduceAbs]) <;> rfl
 ·(try simp only [↓R0,R1,simprocAttr,-Int.reduceAbs]) <;> rfl
 ·intro q hq
  simp only [↓R0,R1,simprocAttr,-Int.reduceAbs,hget_new hq]
def spShift:List Value -> Heap -> Option ((Nat -> Value) × Blk)
 | [v,.int .i64 s],h=>match shows h v with
  | some cs=>if uok cs=true /\ cs.length <= 34359738368 /\ 0 <= s /\ s < 32 then
    some (fun k => .slice (some ⟨k,0,none⟩) (cs.length+1) (cs.length+1),⟨122,1,false,tb (cs.length+1) (lm (ud cs * 2 ^ s.toNat))⟩) else none
  | none=>none
 | _,_=>none
def c136:ICode:=
 (.seq (.reg [qq 4 (.mv (.c (.slice none 0 0)))]) (.seq (.reg [qq 9 (.mv (.t 0)),qq 10 (.lensl (.t 9)),qq 11 (.bin .add (.t 10) (ci 1)),qq 12 (.mkslice 122 1 4 [(.int .u32 0)] (.t 11) (.t 11)),qq 5 (.mv (.t 12))]) (.seq (.seq (.reg [qq 13 (.mv (.t 0)),qq 14 (.lensl (.t 13)),qq 15 (.mv (ci 0))]) (.block 0 (.loop (.seq (.reg [qq 16 (.bin .lss (.t 15) (.t 14))]) (.seq (.cond (.t 16) .skip (.exit 0)) (.seq (.block 1 (.seq (.reg [qq 17 (.mv (.t 15)),qq 18 (.ixsl 1 (.t 13) (.t 15)),qq 19 (.load false 1 (.t 18)),qq 6 (.mv (.t 17)),qq 7 (.mv (.t 19))]) (.seq (.reg [qq 20 (.mv (.t 7)),qq 21 (.conv .u64 (.t 20)),qq 22 (.mv (.t 1)),qq 23 (.bin .shl (.t 21) (.t 22)),qq 8 (.mv (.t 23))]) (.seq (.reg [qq 24 (.mv (.t 5)),qq 25 (.mv (.t 6)),qq 26 (.ixsl 1 (.t 24) (.t 25)),qq 27 (.load false 1 (.t 26)),qq 28 (.mv (.t 8)),qq 29 (.conv .u32 (.t 28)),qq 30 (.bin .or (.t 27) (.t 29)),qq 31 (.ixsl 1 (.t 24) (.t 25)),qn (.store 1 (.t 31) (.t 30))]) (.reg [qq 32 (.mv (.t 5)),qq 33 (.mv (.t 6)),qq 34 (.bin .add (.t 33) (ci 1)),qq 35 (.mv (.t 8)),qq 36 (.bin .shr (.t 35) (.c (.int .u64 32))),qq 37 (.conv .u32 (.t 36)),qq 38 (.ixsl 1 (.t 32) (.t 34)),qn (.store 1 (.t 38) (.t 37))]))))) (.reg [qq 39 (.bin .add (.t 15) (ci 1)),qq 15 (.mv (.t 39))]))))))) (.seq (.reg [qq 40 (.mv (.t 5)),qq 4 (.mv (.t 40))]) .ret))))
theorem tr136:trFun Tryz.prog 136=some ⟨41,[.t 4],c136⟩:=by kernel_rfl
set_option maxHeartbeats 1000000 in
theorem ok_nshift:SpecOK Tryz.prog 136 (nwS spShift):=by
 refine nw_run (env_nil _) mixed tr136 ?_ ?_
 ·intro args h h' v hle e
  unfold spShift at e ⊢
  split at e
  ·split at e
   ·rename_i cs hcs
    simp only [shows_mono hle hcs];exact e
   ·cases e
  ·cases e
 intro args vf b h N hG hN
 unfold spShift at hG
 split at hG
 case h_2=>cases hG
 rename_i sv s _
 split at hG
 case h_2=>cases hG
 rename_i cs hcs
 split at hG
 case isFalse=>cases hG
 rename_i hl
 obtain ⟨hu,hl,hs0,hs⟩:=hl
 cases hG
 refine ⟨rfl,tb_base _ _,vr1_sl _ _ _,by simp,?_⟩
 obtain ⟨kb,off,K,cap,blk,rfl,hb,hle,hcell,hV,hlen⟩:=shows_tb hcs hu
 have hkb:=hN _ _ hb
 have hne:∀ a,¬ (N+a=kb):=fun a=>by omega
 rw [hlen] at hl ⊢
 generalize ud cs=V at *
 obtain ⟨s,rfl⟩:=Int.eq_ofNat_of_zero_le hs0
 simp only [Int.toNat_natCast]
 have hs':s < 32:=by omega
 have g1:IntKind.i64.wrap ((K:Int)+1)=((K+1:Nat):Int):=by rw [i64_in _ (by omega)];omega
 have g2:4 * ((K+1:Nat):Int) <= 281474976710656:=by omega
 have g3:((K+1:Nat):Int) <= 9223372036854775807:=by omega
 simp only [c136,G0,Nat.reduceAdd]
 simp only [↓R0,R1,simprocAttr,-Int.reduceAbs,g1,g2,g3,tb_rep]
 clear g1 g2 g3
 refine lp_parts (fun m tm hp nx=>∃ (i:Nat),m+i=K /\ tmget tm 13 = .slice (some ⟨kb,off,none⟩) K cap /\ tmget tm 1 = .int .i64 (s:Nat) /\ tmget tm 5 = .slice (some ⟨N+0,0,none⟩) (K+1) (K+1) /\
   tmget tm 14 = .int .i64 K /\ tmget tm 15 = .int .i64 i /\
   hget hp (N+0)=some ⟨122,1,false,tb (K+1) (lm (V % 4294967296 ^ i * 2 ^ s))⟩ /\ (∀ q,q < N -> hget hp q=hget h q) /\ nx=N+1) ?_ K
  ⟨0,by omega,?_,?_,?_,?_,?_,?_,?_,rfl⟩
 ·intro m tm hp nx ⟨i,hm,h13,h1,h5,h14,h15,hb1,hh,hnx⟩
  subst hnx
  by_cases c1:i < K
  ·have hbb:hget hp kb=some blk:=by rw [hh kb hkb];exact hb
   have v5:=hcell i c1
   obtain ⟨q1,q2,q3,q4⟩:=shl_limb (n:=V) (i:=i) hs'
   have c2:i < K+1:=by omega
   have c2':i <= K:=by omega
   have k1:=tb_get' (lm (V % 4294967296 ^ i * 2 ^ s)) c2
   have b1:=lm_lt V i
   have hT:2 ^ s <= 2 ^ 31:=Nat.pow_le_pow_right (by omega) (by omega)
   have b2:lm V i * 2 ^ s <= 4294967295 * 2 ^ 31:=Nat.mul_le_mul (by omega) hT
   have w1:=u64_nat (n:=lm V i) (by omega)
   have w2:=shl64 (c:=lm V i) (s:=s) (by omega) (by omega)
   have w3:=u32_mod (lm V i * 2 ^ s)
   have w4:=or_u32 (x:=lm (V % 4294967296 ^ i * 2 ^ s) i) (c:=(lm V i * 2 ^ s % 4294967296) / 2 ^ s) (s:=s) q2 (by rw [<- q3];exact q4)
   rw [<- q3] at w4
   have w5:((lm V i * 2 ^ s:Nat):Int).fdiv (2 ^ min 32 IntKind.u64.bits)=((lm V i * 2 ^ s / 4294967296:Nat):Int):=by
    have:(2:Int) ^ min 32 IntKind.u64.bits=4294967296:=rfl
    rw [this,Int.fdiv_eq_ediv_of_nonneg _ (by omega)];omega
   have w6:=u32_nat (n:=lm V i * 2 ^ s / 4294967296) (by omega)
   have w7:¬ ((s:Int) < 0):=by omega
   have e3:IntKind.i64.wrap ((i:Int)+1)=((i+1:Nat):Int):=by rw [i64_in _ (by omega)];omega
   have c4:i+1 < K+1:=by omega
   have c5:i+1+1 <= K+1:=by omega
   have c6:i+1 <= K:=c1
   simp only [↓R0,R1,simprocAttr,-Int.reduceAbs,h13,h1,h5,h14,h15,hb1,hbb,c1,c2,c2',c4,c5,c6,k1,e3,v5,w1,w2,w3,w4,w5,w6,w7,tb_length,tb_set]
   refine ⟨m - 1,by omega,i+1,by omega,rfl,?_,?_⟩
   ·congr 2
    apply tb_congr
    intro j hj
    rw [q1]
   ·intro q hq
    simp only [if_neg (show ¬ N+0=q by omega)]
    exact hh q hq
  ·have ei:i=K:=by omega
   subst ei
   rw [Nat.mod_eq_of_lt hV] at hb1
   simp only [↓R0,R1,simprocAttr,-Int.reduceAbs,h13,h1,h5,h14,h15,c1]
   refine ⟨trivial,_,N+0,false,rfl,?_,by omega,hb1,hh⟩
   (first | (simp only [↓R0,R1,simprocAttr,-Int.reduceAbs,one];done) | (simp only [↓R0,R1,simprocAttr,-Int.reduceAbs,one];rfl) | rfl)
 ·(try simp only [↓R0,R1,simprocAttr,-Int.reduceAbs]) <;> rfl
 ·(try simp only [↓R0,R1,simprocAttr,-Int.reduceAbs]) <;> rfl
 ·(try simp only [↓R0,R1,simprocAttr,-Int.reduceAbs]) <;> rfl
 ·(try simp only [↓R0,R1,simprocAttr,-Int.reduceAbs]) <;> rfl
 ·(try simp only [↓R0,R1,simprocAttr,-Int.reduceAbs]) <;> rfl
 ·(first | (simp only [↓R0,R1,simprocAttr,-Int.reduceAbs,Nat.pow_zero,Nat.mod_one,Nat.zero_mul,lm_0];done) | (simp only [↓R0,R1,simprocAttr,-Int.reduceAbs,Nat.pow_zero,Nat.mod_one,Nat.zero_mul,lm_0];rfl) | rfl)
 ·intro q hq
  simp only [↓R0,R1,simprocAttr,-Int.reduceAbs,hget_new hq]
def spUnshift:List Value -> Heap -> Option ((Nat -> Value) × Blk)
 | [v,.int .i64 s],h=>match shows h v with
  | some cs=>if uok cs=true /\ cs.length <= 34359738368 /\ 0 <= s /\ s < 32 then
    some (fun k => .slice (some ⟨k,0,none⟩) cs.length cs.length,⟨122,1,false,tb cs.length (lm (ud cs / 2 ^ s.toNat))⟩) else none
  | none=>none
 | _,_=>none
def c138:ICode:=
 (.seq (.reg [qq 4 (.mv (.c (.slice none 0 0)))]) (.seq (.reg [qq 8 (.mv (.t 0)),qq 9 (.lensl (.t 8)),qq 10 (.mkslice 122 1 4 [(.int .u32 0)] (.t 9) (.t 9)),qq 5 (.mv (.t 10))]) (.seq (.seq (.reg [qq 11 (.mv (.t 0)),qq 12 (.lensl (.t 11)),qq 13 (.mv (ci 0))]) (.block 0 (.loop (.seq (.reg [qq 14 (.bin .lss (.t 13) (.t 12))]) (.seq (.cond (.t 14) .skip (.exit 0)) (.seq (.block 1 (.seq (.reg [qq 15 (.mv (.t 13)),qq 6 (.mv (.t 15))]) (.seq (.reg [qq 16 (.mv (.t 0)),qq 17 (.mv (.t 6)),qq 18 (.ixsl 1 (.t 16) (.t 17)),qq 19 (.load false 1 (.t 18)),qq 20 (.conv .u64 (.t 19)),qq 7 (.mv (.t 20))]) (.seq (.seq (.reg [qq 21 (.mv (.t 6)),qq 22 (.bin .add (.t 21) (ci 1)),qq 23 (.mv (.t 0)),qq 24 (.lensl (.t 23)),qq 25 (.bin .lss (.t 22) (.t 24))]) (.cond (.t 25) (.reg [qq 26 (.mv (.t 7)),qq 27 (.mv (.t 0)),qq 28 (.mv (.t 6)),qq 29 (.bin .add (.t 28) (ci 1)),qq 30 (.ixsl 1 (.t 27) (.t 29)),qq 31 (.load false 1 (.t 30)),qq 32 (.conv .u64 (.t 31)),qq 33 (.bin .shl (.t 32) (.c (.int .u64 32))),qq 34 (.bin .or (.t 26) (.t 33)),qq 7 (.mv (.t 34))]) .skip)) (.reg [qq 35 (.mv (.t 5)),qq 36 (.mv (.t 6)),qq 37 (.mv (.t 7)),qq 38 (.mv (.t 1)),qq 39 (.bin .shr (.t 37) (.t 38)),qq 40 (.conv .u32 (.t 39)),qq 41 (.ixsl 1 (.t 35) (.t 36)),qn (.store 1 (.t 41) (.t 40))]))))) (.reg [qq 42 (.bin .add (.t 13) (ci 1)),qq 13 (.mv (.t 42))]))))))) (.seq (.reg [qq 43 (.mv (.t 5)),qq 4 (.mv (.t 43))]) .ret))))
theorem tr138:trFun Tryz.prog 138=some ⟨44,[.t 4],c138⟩:=by kernel_rfl
set_option maxHeartbeats 1000000 in
theorem ok_nunshift:SpecOK Tryz.prog 138 (nwS spUnshift):=by
 refine nw_run (env_nil _) mixed tr138 ?_ ?_
 ·intro args h h' v hle e
  unfold spUnshift at e ⊢
  split at e
  ·split at e
   ·rename_i cs hcs
    simp only [shows_mono hle hcs];exact e
   ·cases e
  ·cases e
 intro args vf b h N hG hN
 unfold spUnshift at hG
 split at hG
 case h_2=>cases hG
 rename_i sv s _
 split at hG
 case h_2=>cases hG
 rename_i cs hcs
 split at hG
 case isFalse=>cases hG
 rename_i hl
 obtain ⟨hu,hl,hs0,hs⟩:=hl
 cases hG
 refine ⟨rfl,tb_base _ _,vr1_sl _ _ _,by simp,?_⟩
 obtain ⟨kb,off,K,cap,blk,rfl,hb,hle,hcell,hV,hlen⟩:=shows_tb hcs hu
 have hkb:=hN _ _ hb
 have hne:∀ a,¬ (N+a=kb):=fun a=>by omega
 rw [hlen] at hl ⊢
 generalize ud cs=V at *
 obtain ⟨s,rfl⟩:=Int.eq_ofNat_of_zero_le hs0
 simp only [Int.toNat_natCast]
 have hs':s < 32:=by omega
 have g2:4 * (K:Int) <= 281474976710656:=by omega
 have g3:(K:Int) <= 9223372036854775807:=by omega
 simp only [c138,G0,Nat.reduceAdd]
 simp only [↓R0,R1,simprocAttr,-Int.reduceAbs,g2,g3,tb_rep]
 clear g2 g3
 refine lp_parts (fun m tm hp nx=>∃ (i:Nat) (f:Nat -> Nat),m+i=K /\ tmget tm 0 = .slice (some ⟨kb,off,none⟩) K cap /\ tmget tm 1 = .int .i64 (s:Nat) /\ tmget tm 5 = .slice (some ⟨N+0,0,none⟩) K K /\
   tmget tm 12 = .int .i64 K /\ tmget tm 13 = .int .i64 i /\
   hget hp (N+0)=some ⟨122,1,false,tb K f⟩ /\ (∀ j,j < i -> f j=lm (V / 2 ^ s) j) /\ (∀ q,q < N -> hget hp q=hget h q) /\ nx=N+1) ?_ K
  ⟨0,fun _=>0,by omega,?_,?_,?_,?_,?_,?_,fun j hj=>by omega,?_,rfl⟩
 ·intro m tm hp nx ⟨i,f,hm,h0,h1,h5,h12,h13,hb1,hf,hh,hnx⟩
  subst hnx
  by_cases c1:i < K
  ·have hbb:hget hp kb=some blk:=by rw [hh kb hkb];exact hb
   have v5:=hcell i c1
   have q1:=shr_limb (n:=V) (i:=i) hs'
   have c2':i+1 <= K:=by omega
   have b1:=lm_lt V i
   have b2:=lm_lt V (i+1)
   have w1:=u64_nat (n:=lm V i) (by omega)
   have w2:=u64_nat (n:=lm V (i+1)) (by omega)
   have w3:IntKind.u64.wrap ((lm V (i+1):Int) * 2 ^ min 32 IntKind.u64.bits)=((lm V (i+1) * 2 ^ 32:Nat):Int):=shl64 (by omega) (by omega)
   have w4:=or_u64 (x:=lm V i) (c:=lm V (i+1)) (s:=32) (by omega) (by omega)
   have w5:∀ z:Nat,(z:Int).fdiv (2 ^ min s IntKind.u64.bits)=((z / 2 ^ s:Nat):Int):=by
    intro z
    have:min s IntKind.u64.bits=s:=Nat.min_eq_left (by have:IntKind.u64.bits=64:=rfl;omega)
    rw [this,Int.fdiv_eq_ediv_of_nonneg _ (Int.pow_nonneg (by omega)),Int.natCast_ediv,Int.natCast_pow];rfl
   have w6:∀ z:Nat,IntKind.u32.wrap (z:Int)=((z % 4294967296:Nat):Int):=u32_mod
   have w7:¬ ((s:Int) < 0):=by omega
   have e3:IntKind.i64.wrap ((i:Int)+1)=((i+1:Nat):Int):=by rw [i64_in _ (by omega)];omega
   by_cases c3:i+1 < K
   ·have v6:=hcell (i+1) c3
    have ea:off+(i+1)=off+(i+1):=rfl
    simp only [↓R0,R1,simprocAttr,-Int.reduceAbs,h0,h1,h5,h12,h13,hb1,hbb,c1,c2',c3,e3,v5,v6,w1,w2,w3,w4,w5,w6,w7,tb_length,tb_set]
    refine ⟨m - 1,by omega,i+1,_,by omega,rfl,rfl,fun j hj=>?_,?_⟩
    ·by_cases g:j=i
     ·rw [if_pos g,g,q1]
     ·rw [if_neg g];exact hf j (by omega)
    ·intro q hq
     simp only [if_neg (show ¬ N+0=q by omega)]
     exact hh q hq
   ·have hz:lm V (i+1)=0:=lm_of_lt' hV (by omega)
    rw [hz,Nat.zero_mul,Nat.add_zero] at q1
    simp only [↓R0,R1,simprocAttr,-Int.reduceAbs,h0,h1,h5,h12,h13,hb1,hbb,c1,c2',c3,e3,v5,w1,w5,w6,w7,tb_length,tb_set]
    refine ⟨m - 1,by omega,i+1,_,by omega,rfl,rfl,fun j hj=>?_,?_⟩
    ·by_cases g:j=i
     ·rw [if_pos g,g,q1]
     ·rw [if_neg g];exact hf j (by omega)
    ·intro q hq
     simp only [if_neg (show ¬ N+0=q by omega)]
     exact hh q hq
  ·have ei:i=K:=by omega
   subst ei
   have htb:tb i f=tb i (lm (V / 2 ^ s)):=tb_congr hf
   simp only [↓R0,R1,simprocAttr,-Int.reduceAbs,h0,h1,h5,h12,h13,c1]
   refine ⟨trivial,_,N+0,false,rfl,?_,by omega,by rw [hb1,htb],hh⟩
   (first | (simp only [↓R0,R1,simprocAttr,-Int.reduceAbs,one];done) | (simp only [↓R0,R1,simprocAttr,-Int.reduceAbs,one];rfl) | rfl)
 ·(try simp only [↓R0,R1,simprocAttr,-Int.reduceAbs]) <;> rfl
 ·(try simp only [↓R0,R1,simprocAttr,-Int.reduceAbs]) <;> rfl
 ·(try simp only [↓R0,R1,simprocAttr,-Int.reduceAbs]) <;> rfl
 ·(try simp only [↓R0,R1,simprocAttr,-Int.reduceAbs]) <;> rfl
 ·(try simp only [↓R0,R1,simprocAttr,-Int.reduceAbs]) <;> rfl
 ·(try simp only [↓R0,R1,simprocAttr,-Int.reduceAbs]) <;> rfl
 ·intro q hq
  simp only [↓R0,R1,simprocAttr,-Int.reduceAbs,hget_new hq]
end Go.Eng
end
section
namespace Go.Eng
def cyM (d q i:Nat):Nat:=q * (d % 4294967296 ^ i) / 4294967296 ^ i
theorem cyM_zero (d q:Nat):cyM d q 0=0:=by simp [cyM,Nat.mod_one]
theorem cyM_div (d q i:Nat):q * (d % 4294967296 ^ (i+1)) / 4294967296 ^ i=lm d i * q+cyM d q i:=by
 unfold cyM
 rw [mod_step,Nat.mul_add,Nat.mul_comm (4294967296 ^ i),<- Nat.mul_assoc,Nat.add_mul_div_right _ _ (pB i),Nat.mul_comm q (lm d i)]
 omega
theorem cyM_succ (d q i:Nat):cyM d q (i+1)=(lm d i * q+cyM d q i) / 4294967296:=by
 rw [<- cyM_div];unfold cyM;rw [Nat.pow_succ,<- Nat.div_div_eq_div_mul]
theorem cyM_limb (d q i:Nat):lm (q * d) i=(lm d i * q+cyM d q i) % 4294967296:=by
 rw [<- cyM_div]
 have e:q * d=q * (d % 4294967296 ^ (i+1))+q * (d / 4294967296 ^ (i+1)) * 4294967296 ^ (i+1):=by
  conv=>lhs;rw [<- Nat.mod_add_div d (4294967296 ^ (i+1))]
  rw [Nat.mul_add,Nat.mul_assoc,Nat.mul_comm (4294967296 ^ (i+1))]
 rw [e,lm_add_mul (Nat.lt_succ_self i)];rfl
theorem cyM_lt {d q i:Nat} (hq:q < 4294967296):cyM d q i < 4294967296 /\ lm d i * q+cyM d q i < 18446744073709551616:=by
 have h1:cyM d q i < 4294967296:=by
  unfold cyM
  rw [Nat.div_lt_iff_lt_mul (pB i)]
  have hm:=Nat.mod_lt d (pB i)
  exact Nat.mul_lt_mul'' hq hm
 have h2:=lm_lt d i
 have h3:lm d i * q <= 4294967295 * 4294967295:=Nat.mul_le_mul (by omega) (by omega)
 exact ⟨h1,by omega⟩
theorem cyM_top {d q m:Nat} (hd:d < 4294967296 ^ m) (hq:q < 4294967296):cyM d q m=lm (q * d) m /\ q * d < 4294967296 ^ (m+1):=by
 have h:q * d < 4294967296 ^ (m+1):=by rw [Nat.pow_succ,Nat.mul_comm];exact Nat.mul_lt_mul'' hd hq
 exact ⟨by rw [lm_top h];unfold cyM;rw [Nat.mod_eq_of_lt hd],h⟩
def tkT (u p m:Nat):Nat:=u+4294967296 ^ (m+1) - p
theorem tk_limb {u p m i:Nat} (hp:p < 4294967296 ^ (m+1)) (hi:i <= m):((lm u i:Int) - lm p i - cyS u p i) % 4294967296=(lm (tkT u p m) i:Int):=by
 refine (sub_limb ?_).symm
 have h:=mod_add_cases p (tkT u p m) (pB (i+1))
 have e:p+tkT u p m=u+4294967296 ^ (m+1):=by unfold tkT;omega
 rw [e] at h
 have e2:4294967296 ^ (m+1)=4294967296 ^ (i+1) * 4294967296 ^ (m - i):=by rw [<- Nat.pow_add];congr 1;omega
 rw [e2,Nat.add_mul_mod_self_left] at h
 exact h
theorem tk_cy {u p m:Nat} (hu:u < 4294967296 ^ (m+1)) (hp:p < 4294967296 ^ (m+1)):cyS u p (m+1)=if u < p then 1 else 0:=by
 unfold cyS;rw [Nat.mod_eq_of_lt hu,Nat.mod_eq_of_lt hp]
theorem cyS_int (a b i:Nat):(if (lm a i:Int) < lm b i+cyS a b i then (1:Int) else 0)=(cyS a b (i+1):Int):=by
 rw [cyS_succ]
 by_cases g:lm a i < lm b i+cyS a b i
 ·rw [if_pos g,if_pos (by omega)];rfl
 ·rw [if_neg g,if_neg (by omega)];rfl
def tkX (u p d m:Nat):Nat:=if u < p then u+4294967296 ^ (m+1) - p+d else u - p
theorem tk_done {u p d m j:Nat} (h:¬ u < p) (hj:j <= m):lm (tkT u p m) j=lm (tkX u p d m) j:=by
 unfold tkX tkT
 rw [if_neg h,show u+4294967296 ^ (m+1) - p=u - p+1 * 4294967296 ^ (m+1) by omega,lm_add_mul (by omega)]
theorem seg_limb {W off len i:Nat} (h:i < len):lm (W / 4294967296 ^ off % 4294967296 ^ len) i=lm W (off+i):=by
 rw [lm_mod h,lm_shift]
def tkCells (W off m D q L:Nat):List Value:=
 tb L fun j=>if off <= j /\ j < off+(m+1) then lm (tkX (W / 4294967296 ^ off % 4294967296 ^ (m+1)) (q * D) D m) (j - off) else lm W j
end Go.Eng
end
section
set_option maxRecDepth 4000
namespace Go.Eng
open Go Go.Proofs Go.IntWalk
def spTake:List Value -> Heap -> Option (Value × Nat × Blk)
 | [.slice (some ⟨ku,off,none⟩) len cap,.slice (some ⟨kd,od,none⟩) dlen dcap,.int .u32 q],h=>match hget h ku,shows h (.slice (some ⟨kd,od,none⟩) dlen dcap) with
  | some blk,some ds=>if uok blk.cells=true /\ uok ds=true /\ len=dlen+1 /\ off+len <= blk.cells.length /\ 0 <= q /\ q < 4294967296 /\ dlen <= 34359738368 /\ ku ≠ kd /\ blk.sz ≠ 0 then
    some (.bool (Nat.blt (ud blk.cells / 4294967296 ^ off % 4294967296 ^ (dlen+1)) (q.toNat * ud ds)),ku,⟨blk.elem,blk.sz,blk.x,tkCells (ud blk.cells) off dlen (ud ds) q.toNat blk.cells.length⟩) else none
  | _,_=>none
 | _,_=>none
def c137:ICode:=
 (.seq (.reg [qq 6 (.mv (.c (.bool false)))]) (.seq (.reg [qq 7 (.mv (.c (.int .u64 0))),qq 8 (.mv (.c (.int .u32 0)))]) (.seq (.seq (.reg [qq 15 (.mv (.t 1)),qq 16 (.lensl (.t 15)),qq 17 (.mv (ci 0))]) (.block 0 (.loop (.seq (.reg [qq 18 (.bin .lss (.t 17) (.t 16))]) (.seq (.cond (.t 18) .skip (.exit 0)) (.seq (.block 1 (.seq (.reg [qq 19 (.mv (.t 17)),qq 20 (.ixsl 1 (.t 15) (.t 17)),qq 21 (.load false 1 (.t 20)),qq 9 (.mv (.t 19)),qq 10 (.mv (.t 21))]) (.seq (.reg [qq 22 (.mv (.t 10)),qq 23 (.conv .u64 (.t 22)),qq 24 (.mv (.t 2)),qq 25 (.conv .u64 (.t 24)),qq 26 (.bin .mul (.t 23) (.t 25)),qq 27 (.mv (.t 7)),qq 28 (.bin .add (.t 26) (.t 27)),qq 11 (.mv (.t 28))]) (.seq (.reg [qq 29 (.mv (.t 11)),qq 30 (.bin .shr (.t 29) (.c (.int .u64 32))),qq 7 (.mv (.t 30))]) (.reg [qq 32 (.mv (.t 0)),qq 33 (.mv (.t 9)),qq 34 (.mv (.t 0)),qq 35 (.mv (.t 9)),qq 36 (.ixsl 1 (.t 34) (.t 35)),qq 37 (.load false 1 (.t 36)),qq 38 (.mv (.t 11)),qq 39 (.conv .u32 (.t 38)),qq 40 (.mv (.t 8)),qq 41 (.call 125 [(.t 37),(.t 39),(.t 40)]),qq 31 (.mv (.t 41)),qq 42 (.ext (.t 31) 0),qq 43 (.ext (.t 31) 1),qq 44 (.ixsl 1 (.t 32) (.t 33)),qn (.store 1 (.t 44) (.t 42)),qq 8 (.mv (.t 43))]))))) (.reg [qq 45 (.bin .add (.t 17) (ci 1)),qq 17 (.mv (.t 45))]))))))) (.seq (.reg [qq 47 (.mv (.t 0)),qq 48 (.mv (.t 1)),qq 49 (.lensl (.t 48)),qq 50 (.mv (.t 0)),qq 51 (.mv (.t 1)),qq 52 (.lensl (.t 51)),qq 53 (.ixsl 1 (.t 50) (.t 52)),qq 54 (.load false 1 (.t 53)),qq 55 (.mv (.t 7)),qq 56 (.conv .u32 (.t 55)),qq 57 (.mv (.t 8)),qq 58 (.call 125 [(.t 54),(.t 56),(.t 57)]),qq 46 (.mv (.t 58)),qq 59 (.ext (.t 46) 0),qq 60 (.ext (.t 46) 1),qq 61 (.ixsl 1 (.t 47) (.t 49)),qn (.store 1 (.t 61) (.t 59)),qq 8 (.mv (.t 60))]) (.seq (.seq (.reg [qq 62 (.mv (.t 8)),qq 63 (.bin .eql (.t 62) (.c (.int .u32 0)))]) (.cond (.t 63) (.seq (.reg [qq 6 (.mv (.c (.bool false)))]) .ret) .skip)) (.seq (.reg [qq 12 (.mv (.c (.int .u32 0)))]) (.seq (.seq (.reg [qq 64 (.mv (.t 1)),qq 65 (.lensl (.t 64)),qq 66 (.mv (ci 0))]) (.block 2 (.loop (.seq (.reg [qq 67 (.bin .lss (.t 66) (.t 65))]) (.seq (.cond (.t 67) .skip (.exit 2)) (.seq (.block 3 (.seq (.reg [qq 68 (.mv (.t 66)),qq 69 (.ixsl 1 (.t 64) (.t 66)),qq 70 (.load false 1 (.t 69)),qq 13 (.mv (.t 68)),qq 14 (.mv (.t 70))]) (.reg [qq 72 (.mv (.t 0)),qq 73 (.mv (.t 13)),qq 74 (.mv (.t 0)),qq 75 (.mv (.t 13)),qq 76 (.ixsl 1 (.t 74) (.t 75)),qq 77 (.load false 1 (.t 76)),qq 78 (.mv (.t 14)),qq 79 (.mv (.t 12)),qq 80 (.call 122 [(.t 77),(.t 78),(.t 79)]),qq 71 (.mv (.t 80)),qq 81 (.ext (.t 71) 0),qq 82 (.ext (.t 71) 1),qq 83 (.ixsl 1 (.t 72) (.t 73)),qn (.store 1 (.t 83) (.t 81)),qq 12 (.mv (.t 82))]))) (.reg [qq 84 (.bin .add (.t 66) (ci 1)),qq 66 (.mv (.t 84))]))))))) (.seq (.reg [qq 85 (.mv (.t 0)),qq 86 (.mv (.t 1)),qq 87 (.lensl (.t 86)),qq 88 (.ixsl 1 (.t 85) (.t 87)),qq 89 (.load false 1 (.t 88)),qq 90 (.mv (.t 12)),qq 91 (.bin .add (.t 89) (.t 90)),qq 92 (.ixsl 1 (.t 85) (.t 87)),qn (.store 1 (.t 92) (.t 91))]) (.seq (.reg [qq 6 (.mv (.c (.bool true)))]) .ret)))))))))
theorem tr137:trFun Tryz.prog 137=some ⟨93,[.t 6],c137⟩:=by kernel_rfl
set_option maxHeartbeats 2000000 in
theorem ok_ntake:SpecOK Tryz.prog 137 (upS spTake):=by
 refine up_run (env_cons ok_add32 (env_cons ok_sub32 (env_nil _))) mixed tr137 ?_ ?_
 ·intro args h h' v hle e
  unfold spTake at e ⊢
  split at e
  ·split at e
   ·rename_i blk ds hb hds
    simp only [hle _ _ hb,shows_mono hle hds];exact e
   ·cases e
  ·cases e
 intro args v ku b h N hG hN
 unfold spTake at hG
 split at hG
 case h_2=>cases hG
 rename_i ku0 off len cap kd od dlen dcap q
 split at hG
 case h_2=>cases hG
 rename_i blk ds hb hds
 split at hG
 case isFalse=>cases hG
 rename_i hl
 obtain ⟨hu,hud,hlen,hle,hq0,hq,hdl,hne,hz⟩:=hl
 cases hG
 have hku:=hN _ _ hb
 obtain ⟨q,rfl⟩:=Int.eq_ofNat_of_zero_le hq0
 simp only [Int.toNat_natCast]
 refine ⟨hku,tb_base _ _,rfl,by simp,?_⟩
 obtain ⟨kb,od',K,cap',blkd,e0,hbd,hled,hcell,hD,hdlen⟩:=shows_tb hds hud
 cases e0
 subst hlen
 obtain ⟨elem,sz,x,cells⟩:=blk
 simp only at hu hle hb hz ⊢
 have hz':=eq_false hz
 have hcells:=tb_ud hu
 generalize hW:ud cells=W at *
 generalize hLL:cells.length=L at *
 subst hcells
 clear hW hLL hu hds hud hdlen
 generalize ud ds=D at *
 have hkd:=hN _ _ hbd
 have n1:(ku=kd)=False:=eq_false hne
 have hq':q < 4294967296:=by omega
 obtain ⟨hct,hP⟩:=cyM_top hD hq'
 have hU:W / 4294967296 ^ off % 4294967296 ^ (dlen+1) < 4294967296 ^ (dlen+1):=Nat.mod_lt _ (pB _)
 have hseg:∀ i,i <= dlen -> lm (W / 4294967296 ^ off % 4294967296 ^ (dlen+1)) i=lm W (off+i):=fun i hi=>seg_limb (by omega)
 unfold tkCells
 generalize W / 4294967296 ^ off % 4294967296 ^ (dlen+1)=U at *
 generalize hPP:q * D=P at *
 have eq64:IntKind.u64.wrap (q:Int)=(q:Int):=u64_nat (by omega)
 simp only [c137,G0,Nat.reduceAdd]
 simp only [↓R0,R1,simprocAttr,-Int.reduceAbs]
 refine lp_parts (fun m tm hp nx=>∃ (i:Nat) (f:Nat -> Nat),m+i=dlen /\ tmget tm 0 = .slice (some ⟨ku,off,none⟩) (dlen+1) cap /\ tmget tm 1 = .slice (some ⟨kd,od,none⟩) dlen dcap /\ tmget tm 2 = .int .u32 (q:Nat) /\
   tmget tm 7 = .int .u64 (cyM D q i:Nat) /\ tmget tm 8 = .int .u32 (cyS U P i:Nat) /\ tmget tm 15 = .slice (some ⟨kd,od,none⟩) dlen dcap /\ tmget tm 16 = .int .i64 dlen /\ tmget tm 17 = .int .i64 i /\
   hget hp ku=some ⟨elem,sz,x,tb L f⟩ /\ (∀ j,j < L -> f j=if off <= j /\ j < off+i then lm (tkT U P dlen) (j - off) else lm W j) /\ (∀ q,q < N -> q ≠ ku -> hget hp q=hget h q) /\ nx=N+0) ?_ dlen
  ⟨0,lm W,by omega,?_,?_,?_,?_,?_,?_,?_,?_,hb,fun j hj=>by rw [if_neg (by omega)],fun q _ _=>rfl,rfl⟩
 ·intro m tm hp nx ⟨i,f,hm,h0,h1,h2,h7,h8,h15,h16,h17,hb1,hf,hh,hnx⟩
  rw [hnx]
  clear hnx nx
  have hbb:hget hp kd=some blkd:=by rw [hh kd hkd (fun e=>hne e.symm)];exact hbd
  obtain ⟨hc1,hc2⟩:=cyM_lt (d:=D) (i:=i) hq'
  have c1':i <= dlen:=by omega
  have c2':i < dlen+1:=by omega
  have c3:off+i < L:=by omega
  have c3':off+i+1 <= L:=by omega
  have hfi:f (off+i)=lm U i:=by rw [hf _ c3,if_neg (by omega),hseg i c1']
  have k1:=tb_get' f c3
  rw [hfi] at k1
  have b1:=lm_lt U i
  have b2:=lm_lt P i
  have b3:=cyS_le U P i
  have v1:((lm U i:Nat):Int) < 4294967296:=by omega
  have v2:((lm P i:Nat):Int) < 4294967296:=by omega
  have v3:((cyS U P i:Nat):Int) <= 1:=by omega
  have v4:=tk_limb (u:=U) hP c1'
  have v5:=cyS_int U P i
  by_cases c1:i < dlen
  ·have hlim:=cyM_limb D q i
   rw [hPP] at hlim
   have hcs:=cyM_succ D q i
   have b4:=lm_lt D i
   have hx1:lm D i * q <= 4294967295 * 4294967295:=Nat.mul_le_mul (by omega) (by omega)
   have w1:=u64_nat (n:=lm D i) (by omega)
   have w2:IntKind.u64.wrap ((lm D i:Int) * (q:Int))=((lm D i * q:Nat):Int):=by rw [<- Int.natCast_mul,u64_nat (by omega)]
   have w3:IntKind.u64.wrap (((lm D i * q:Nat):Int)+(cyM D q i:Int))=((lm D i * q+cyM D q i:Nat):Int):=by rw [<- Int.natCast_add,u64_nat hc2]
   have w4:((lm D i * q+cyM D q i:Nat):Int).fdiv (2 ^ min 32 IntKind.u64.bits)=((cyM D q (i+1):Nat):Int):=by
    have:(2:Int) ^ min 32 IntKind.u64.bits=4294967296:=rfl
    rw [this,Int.fdiv_eq_ediv_of_nonneg _ (by omega),hcs];omega
   have w5:IntKind.u32.wrap ((lm D i * q+cyM D q i:Nat):Int)=(lm P i:Int):=by rw [u32_mod,<- hlim]
   have e3:IntKind.i64.wrap ((i:Int)+1)=((i+1:Nat):Int):=by rw [i64_in _ (by omega)];omega
   have k2:=hcell i c1
   simp only [↓R0,R1,simprocAttr,-Int.reduceAbs,h0,h1,h2,h7,h8,h15,h16,h17,hb1,hbb,c1,c1',c2',c3,c3',n1,hz',eq64,w1,w2,w3,w4,w5,e3,k1,k2,spSub32,v1,v2,v3,v4,v5,tb_length,tb_set]
   refine ⟨m - 1,by omega,i+1,_,by omega,rfl,rfl,rfl,rfl,fun j hj=>?_,?_⟩
   ·by_cases g:j=off+i
    ·rw [if_pos g,if_pos (by omega),g];congr 1;omega
    ·rw [if_neg g,hf j hj]
     by_cases g2:off <= j /\ j < off+i
     ·rw [if_pos g2,if_pos (by omega)]
     ·rw [if_neg g2,if_neg (by omega)]
   ·intro q hq hqk
    simp only [if_neg (fun e:ku=q=>hqk e.symm)]
    exact hh q hq hqk
  ·have ei:i=dlen:=by omega
   subst ei
   have w1:IntKind.u32.wrap (cyM D q i:Int)=(lm P i:Int):=by rw [u32_nat hc1,hct]
   have hcy:=tk_cy hU hP
   simp only [↓R0,R1,simprocAttr,-Int.reduceAbs,h0,h1,h2,h7,h8,h15,h16,h17,hb1,hbb,c1,c2',c3,c3',n1,hz',w1,k1,spSub32,v1,v2,v3,v4,v5,tb_length,tb_set]
   have hg0:∀ j,j < L -> (fun j=>if j=off+i then lm (tkT U P i) i else f j) j=if off <= j /\ j < off+(i+1) then lm (tkT U P i) (j - off) else lm W j:=by
    intro j hj
    simp only
    by_cases g:j=off+i
    ·rw [if_pos g,if_pos (by omega),g];congr 1;omega
    ·rw [if_neg g,hf j hj]
     by_cases g2:off <= j /\ j < off+i
     ·rw [if_pos g2,if_pos (by omega)]
     ·rw [if_neg g2,if_neg (by omega)]
   have hh0:∀ q,q < N -> q ≠ ku -> hget ((ku,some (⟨elem,sz,x,tb L (fun j=>if j=off+i then lm (tkT U P i) i else f j)⟩:Blk)) :: hp) q=hget h q:=by
    intro q hq hqk
    simp only [hget,if_neg (fun e:ku=q=>hqk e.symm)]
    exact hh q hq hqk
   generalize (fun j=>if j=off+i then lm (tkT U P i) i else f j)=g at *
   by_cases hlt:U < P
   ·rw [if_pos hlt] at hcy
    have z1:((1:Nat):Int)=1:=rfl
    have hblt:Nat.blt U P=true:=by rw [Nat.blt_eq];exact hlt
    have hX:tkX U P D i=tkT U P i+D:=by unfold tkX tkT;rw [if_pos hlt]
    rw [hblt,hX]
    generalize tkT U P i=T at *
    simp only [↓R0,R1,simprocAttr,-Int.reduceAbs,hcy,z1,h1]
    refine lp_parts (fun m2 tm hp nx=>∃ (r:Nat) (f:Nat -> Nat),m2+r=i /\ tmget tm 0 = .slice (some ⟨ku,off,none⟩) (i+1) cap /\ tmget tm 1 = .slice (some ⟨kd,od,none⟩) i dcap /\
     tmget tm 12 = .int .u32 (cyA T D r:Nat) /\ tmget tm 64 = .slice (some ⟨kd,od,none⟩) i dcap /\ tmget tm 65 = .int .i64 i /\ tmget tm 66 = .int .i64 r /\
     hget hp ku=some ⟨elem,sz,x,tb L f⟩ /\ (∀ j,j < L -> f j=if off <= j /\ j < off+r then lm (T+D) (j - off) else if off <= j /\ j < off+(i+1) then lm T (j - off) else lm W j) /\ (∀ q,q < N -> q ≠ ku -> hget hp q=hget h q) /\ nx=N+0) ?_ i
     ⟨0,g,by omega,?_,?_,?_,?_,?_,?_,?_,fun j hj=>by rw [hg0 j hj,if_neg (show ¬ (off <= j /\ j < off+0) by omega)],hh0,rfl⟩
    ·clear hh0 hg0 hh hbb hb1 hf h0 h1 h2 h7 h8 h15 h16 h17 k1 v1 v3 v4 v5 hfi
     clear tm hp f g hm m
     intro m2 tm hp nx ⟨r,f,hm,h0,h1,h12,h64,h65,h66,hb1,hf,hh,hnx⟩
     rw [hnx]
     clear hnx nx
     have hbb:hget hp kd=some blkd:=by rw [hh kd hkd (fun e=>hne e.symm)];exact hbd
     have c4:r <= i:=by omega
     have c4':r < i+1:=by omega
     have c5:off+r < L:=by omega
     have c5':off+r+1 <= L:=by omega
     have hfr:f (off+r)=lm T r:=by rw [hf _ c5,if_neg (by omega),if_pos (by omega)];congr 1;omega
     have k1:=tb_get' f c5
     rw [hfr] at k1
     have b1:=lm_lt T r
     have b2:=lm_lt D r
     have b3:=cyA_le T D r
     have v1:((lm T r:Nat):Int) < 4294967296:=by omega
     have v2:((lm D r:Nat):Int) < 4294967296:=by omega
     have v3:((cyA T D r:Nat):Int) <= 1:=by omega
     have v4:((lm T r:Int)+lm D r+cyA T D r) % 4294967296=(lm (T+D) r:Int):=by rw [add_limb];omega
     have v5:((lm T r:Int)+lm D r+cyA T D r) / 4294967296=(cyA T D (r+1):Int):=by rw [cyA_succ];omega
     by_cases c6:r < i
     ·have k2:=hcell r c6
      have e3:IntKind.i64.wrap ((r:Int)+1)=((r+1:Nat):Int):=by rw [i64_in _ (by omega)];omega
      simp only [↓R0,R1,simprocAttr,-Int.reduceAbs,h0,h1,h12,h64,h65,h66,hb1,hbb,c4,c4',c5,c5',c6,n1,hz',e3,k1,k2,spAdd32,v1,v2,v3,v4,v5,tb_length,tb_set]
      refine ⟨m2 - 1,by omega,r+1,_,by omega,rfl,rfl,rfl,fun j hj=>?_,?_⟩
      ·by_cases g:j=off+r
       ·rw [if_pos g,if_pos (by omega),g];congr 1;omega
       ·rw [if_neg g,hf j hj]
        by_cases g2:off <= j /\ j < off+r
        ·rw [if_pos g2,if_pos (by omega)]
        ·rw [if_neg g2,if_neg (show ¬ (off <= j /\ j < off+(r+1)) by omega)]
      ·intro q hq hqk
       simp only [if_neg (fun e:ku=q=>hqk e.symm)]
       exact hh q hq hqk
     ·have er:r=i:=by omega
      subst er
      have hz:lm D r=0:=lm_of_lt' hD (Nat.le_refl _)
      have w1:IntKind.u32.wrap ((lm T r:Int)+(cyA T D r:Int))=(lm (T+D) r:Int):=by rw [u32_int,add_limb,hz];omega
      simp only [↓R0,R1,simprocAttr,-Int.reduceAbs,h0,h1,h12,h64,h65,h66,hb1,hbb,c4,c4',c5,c5',c6,n1,hz',k1,w1,tb_length,tb_set,FinU,Fin,isEnd,resL,res1,iE,rE]
      refine ⟨_,rfl,rfl,?_,?_⟩
      ·congr 2
       apply tb_congr
       intro j hj
       by_cases g:j=off+r
       ·rw [if_pos g,if_pos (by omega),g];congr 1;omega
       ·rw [if_neg g,hf j hj]
        by_cases g2:off <= j /\ j < off+r
        ·rw [if_pos g2,if_pos (by omega)]
        ·rw [if_neg g2]
         by_cases g3:off <= j /\ j < off+(r+1)
         ·omega
         ·rw [if_neg g3,if_neg g3]
      ·intro q hq hqk
       simp only [if_neg (fun e:ku=q=>hqk e.symm)]
       exact hh q hq hqk
    ·(first | (simp only [↓R0,R1,simprocAttr,-Int.reduceAbs,h0];done) | (simp only [↓R0,R1,simprocAttr,-Int.reduceAbs,h0];rfl) | rfl)
    ·(first | (simp only [↓R0,R1,simprocAttr,-Int.reduceAbs,h1];done) | (simp only [↓R0,R1,simprocAttr,-Int.reduceAbs,h1];rfl) | rfl)
    ·(first | (simp only [↓R0,R1,simprocAttr,-Int.reduceAbs,cyA_zero];done) | (simp only [↓R0,R1,simprocAttr,-Int.reduceAbs,cyA_zero];rfl) | rfl)
    ·(first | (simp only [↓R0,R1,simprocAttr,-Int.reduceAbs,h1];done) | (simp only [↓R0,R1,simprocAttr,-Int.reduceAbs,h1];rfl) | rfl)
    ·(try simp only [↓R0,R1,simprocAttr,-Int.reduceAbs]) <;> rfl
    ·(try simp only [↓R0,R1,simprocAttr,-Int.reduceAbs]) <;> rfl
    ·(try simp only [↓R0,R1,simprocAttr,-Int.reduceAbs]) <;> rfl
   ·rw [if_neg hlt] at hcy
    have z1:((0:Nat):Int)=0:=rfl
    have hblt:Nat.blt U P=false:=by
     cases hb:Nat.blt U P with
     | false=>rfl
     | true=>rw [Nat.blt_eq] at hb;exact absurd hb hlt
    rw [hblt]
    simp only [↓R0,R1,simprocAttr,-Int.reduceAbs,hcy,z1,FinU,Fin,isEnd,resL,res1,iE,rE]
    refine ⟨_,rfl,rfl,?_,?_⟩
    ·congr 2
     apply tb_congr
     intro j hj
     rw [hg0 j hj]
     by_cases g2:off <= j /\ j < off+(i+1)
     ·rw [if_pos g2,if_pos g2,tk_done hlt (by omega)]
     ·rw [if_neg g2,if_neg g2]
    ·intro q hq hqk
     simp only [if_neg (fun e:ku=q=>hqk e.symm)]
     exact hh q hq hqk
 ·(try simp only [↓R0,R1,simprocAttr,-Int.reduceAbs]) <;> rfl
 ·(try simp only [↓R0,R1,simprocAttr,-Int.reduceAbs]) <;> rfl
 ·(try simp only [↓R0,R1,simprocAttr,-Int.reduceAbs]) <;> rfl
 ·(first | (simp only [↓R0,R1,simprocAttr,-Int.reduceAbs,cyM_zero];done) | (simp only [↓R0,R1,simprocAttr,-Int.reduceAbs,cyM_zero];rfl) | rfl)
 ·(first | (simp only [↓R0,R1,simprocAttr,-Int.reduceAbs,cyS_zero];done) | (simp only [↓R0,R1,simprocAttr,-Int.reduceAbs,cyS_zero];rfl) | rfl)
 ·(try simp only [↓R0,R1,simprocAttr,-Int.reduceAbs]) <;> rfl
 ·(try simp only [↓R0,R1,simprocAttr,-Int.reduceAbs]) <;> rfl
 ·(try simp only [↓R0,R1,simprocAttr,-Int.reduceAbs]) <;> rfl
end Go.Eng
end
section
namespace Go.Eng
theorem lg_facts {R Dv k p:Nat} (hD:Dv < 4294967296 ^ (p+2)) (hD1:4294967296 ^ (p+1) <= Dv) (hR:R < Dv * 4294967296 ^ (k+1)) :
  1 <= lm Dv (p+1) /\ R / 4294967296 ^ k / Dv < 4294967296 /\
  lm R (k+(p+2)) * 4294967296+lm R (k+(p+1)) < (lm Dv (p+1)+1) * 4294967296 /\
  R / 4294967296 ^ k / Dv * (lm Dv (p+1) * 4294967296+lm Dv p) <= (lm R (k+(p+2)) * 4294967296+lm R (k+(p+1))) * 4294967296+lm R (k+p) /\
  ∀ q r,q * lm Dv (p+1)+r=lm R (k+(p+2)) * 4294967296+lm R (k+(p+1)) -> q * lm Dv p <= r * 4294967296+lm R (k+p) -> q < 4294967296 -> q <= R / 4294967296 ^ k / Dv+1:=by
 have hDp:0 < Dv:=Nat.lt_of_lt_of_le (pB (p+1)) hD1
 have hseg:R / 4294967296 ^ k < Dv * 4294967296:=by
  refine Nat.div_lt_of_lt_mul ?_
  rw [Nat.pow_succ,<- Nat.mul_assoc,Nat.mul_comm Dv,Nat.mul_assoc] at hR
  exact hR
 have hseg3:R / 4294967296 ^ k < 4294967296 ^ (p+3):=by
  rw [show p+3=p+2+1 by omega,Nat.pow_succ]
  exact Nat.lt_of_lt_of_le hseg (Nat.mul_le_mul_right _ (Nat.le_of_lt hD))
 have e1:=lm_shift R k (p+2)
 have e2:=lm_shift R k (p+1)
 have e3:=lm_shift R k p
 rw [<- e1,<- e2,<- e3]
 generalize R / 4294967296 ^ k=seg at *
 have hparts:=kn_parts hD
 have hfront:=kn_front hseg3
 have hdl:=Nat.mod_lt Dv (pB p)
 have hsl:=Nat.mod_lt seg (pB p)
 have hd2:=lm_lt Dv p
 have htop:1 <= lm Dv (p+1):=by
  rw [lm_top (j:=p+1) hD]
  exact (Nat.le_div_iff_mul_le (pB _)).2 (by rw [Nat.one_mul];exact hD1)
 refine ⟨htop,?_,?_,?_,?_⟩
 ·rw [Nat.div_lt_iff_lt_mul hDp,Nat.mul_comm];exact hseg
 ·exact kn_lt hparts hd2 hdl hfront hseg (by omega)
 ·exact kn_true hparts hfront hsl (by rw [Nat.mul_comm];exact Nat.mul_div_le _ _)
 ·intro q r hr hc hq
  have h:=kn_end (P:=4294967296 ^ p) hr hc hq htop hdl
  rw [<- hparts] at h
  have h2:(q - 1) * Dv <= seg:=by rw [hfront];omega
  have:=(Nat.le_div_iff_mul_le hDp).2 h2
  omega
theorem lg_cells {R Dv k m q qd:Nat} (hDp:0 < Dv) (hD:Dv < 4294967296 ^ m) (hR:R < Dv * 4294967296 ^ (k+1)) (hqd:qd=R / 4294967296 ^ k / Dv) (hle:qd <= q) (hge:q <= qd+1) :
  (R / 4294967296 ^ k < q * Dv ↔ q=qd+1) /\ ∀ j,(if k <= j /\ j < k+(m+1) then lm (tkX (R / 4294967296 ^ k) (q * Dv) Dv m) (j - k) else lm R j)=lm (R - qd * (Dv * 4294967296 ^ k)) j:=by
 have hRB:R < 4294967296 ^ (k+m+1):=by
  refine Nat.lt_of_lt_of_le hR ?_
  rw [show k+m+1=m+(k+1) by omega,Nat.pow_add _ m]
  exact Nat.mul_le_mul_right _ (Nat.le_of_lt hD)
 have hdm:=Nat.div_add_mod R (4294967296 ^ k)
 have hml:=Nat.mod_lt R (pB k)
 have hq1:qd * Dv <= R / 4294967296 ^ k:=by rw [hqd,Nat.mul_comm];exact Nat.mul_div_le _ _
 have hq2:R / 4294967296 ^ k < (qd+1) * Dv:=by rw [hqd,Nat.mul_comm];exact Nat.lt_mul_div_succ _ hDp
 clear hqd
 generalize hs:R / 4294967296 ^ k=seg at *
 have hcase:(seg < q * Dv ↔ q=qd+1):=by
  constructor
  ·intro h
   rcases Nat.lt_or_ge q (qd+1) with g | g
   ·have:q=qd:=by omega
    subst this;omega
   ·omega
  ·intro h;rw [h];exact hq2
 refine ⟨hcase,fun j=>?_⟩
 have hY:R - qd * (Dv * 4294967296 ^ k)=R % 4294967296 ^ k+(seg - qd * Dv) * 4294967296 ^ k:=by
  have e:seg=(seg - qd * Dv)+qd * Dv:=by omega
  have:4294967296 ^ k * seg=(seg - qd * Dv) * 4294967296 ^ k+qd * (Dv * 4294967296 ^ k):=by
   conv=>lhs;rw [e]
   rw [Nat.mul_comm,Nat.add_mul,Nat.mul_assoc qd]
  omega
 have hX:∀ i,i <= m -> lm (tkX seg (q * Dv) Dv m) i=lm (seg - qd * Dv) i:=by
  intro i hi
  unfold tkX
  by_cases c:seg < q * Dv
  ·have hq:=hcase.1 c
   rw [if_pos c,hq]
   have hB:Dv <= 4294967296 ^ (m+1):=Nat.le_trans (Nat.le_of_lt hD) (Nat.pow_le_pow_right (by omega) (by omega))
   rw [Nat.add_mul,Nat.one_mul]
   rw [show seg+4294967296 ^ (m+1) - (qd * Dv+Dv)+Dv=seg - qd * Dv+1 * 4294967296 ^ (m+1) by omega,lm_add_mul (by omega)]
  ·have hq:q=qd:=by
    rcases Nat.lt_or_ge qd q with g | g
    ·exact absurd (hcase.2 (by omega)) c
    ·omega
   rw [if_neg c,hq]
 by_cases c:k <= j /\ j < k+(m+1)
 ·rw [if_pos c,hX _ (by omega)]
  obtain ⟨i,rfl⟩:∃ i,j=k+i:=⟨j - k,by omega⟩
  rw [<- lm_shift,hY,Nat.add_mul_div_right _ _ (pB k),Nat.div_eq_of_lt hml,Nat.zero_add]
  congr 1;omega
 ·rw [if_neg c]
  by_cases c2:j < k
  ·rw [hY,lm_add_mul c2,lm_mod c2]
  ·have hj:k+m+1 <= j:=by omega
   rw [lm_of_lt' hRB hj,lm_of_lt' (Nat.lt_of_le_of_lt (Nat.sub_le _ _) hRB) hj]
structure LG (u d p K L:Nat):Prop where
 hi:d < 4294967296 ^ (p+2)
 lo:4294967296 ^ (p+1) <= d
 quo:u < d * 4294967296 ^ K
 len:u < 4294967296 ^ L
def lgR (u d M:Nat):Nat:=u % (d * 4294967296 ^ M)
theorem lgR_top {u d p K L:Nat} (g:LG u d p K L):lgR u d K=u:=Nat.mod_eq_of_lt g.quo
theorem lgR_zero (u d:Nat):lgR u d 0=u % d:=by unfold lgR;rw [Nat.pow_zero,Nat.mul_one]
theorem lg_ud {u d p K L m:Nat} (g:LG u d p K L):ud (tb L (lm (lgR u d m)))=lgR u d m:=by
 rw [ud_tb,Nat.mod_eq_of_lt]
 exact Nat.lt_of_le_of_lt (Nat.mod_le _ _) g.len
theorem lg_dv {u d p K L:Nat} (g:LG u d p K L):ud (tb (p+2) (lm d))=d:=by rw [ud_tb,Nat.mod_eq_of_lt g.hi]
theorem lg_end {u d p K L:Nat} (g:LG u d p K L):ud (tb (p+2) (lm (lgR u d 0)))=u % d:=by
 rw [ud_tb,lgR_zero,Nat.mod_eq_of_lt]
 exact Nat.lt_trans (Nat.mod_lt _ (Nat.lt_of_lt_of_le (pB _) g.lo)) g.hi
theorem lg_step {u d p K L k:Nat} (g:LG u d p K L) (hk:k < K) (hL:k+(p+2) < L) :
  ∃ t2 t1 t0 top d2 qd,lm (lgR u d (k+1)) (k+(p+2))=t2 /\ lm (lgR u d (k+1)) (k+(p+1))=t1 /\ lm (lgR u d (k+1)) (k+p)=t0 /\ lm d (p+1)=top /\ lm d p=d2 /\ lm (u / d) k=qd /\
   t2 < 4294967296 /\ t1 < 4294967296 /\ t0 < 4294967296 /\ top < 4294967296 /\ d2 < 4294967296 /\ 1 <= top /\ qd < 4294967296 /\ t2 * 4294967296+t1 < (top+1) * 4294967296 /\
   qd * (top * 4294967296+d2) <= (t2 * 4294967296+t1) * 4294967296+t0 /\
   (∀ q r,q * top+r=t2 * 4294967296+t1 -> q * d2 <= r * 4294967296+t0 -> q < 4294967296 -> q <= qd+1) /\
   (∀ q,qd <= q -> q <= qd+1 -> Nat.blt (lgR u d (k+1) / 4294967296 ^ k % 4294967296 ^ (p+2+1)) (q * d)=Nat.beq q (qd+1) /\ tkCells (lgR u d (k+1)) k (p+2) d q L=tb L (lm (lgR u d k))):=by
 have hd0:0 < d:=Nat.lt_of_lt_of_le (pB _) g.lo
 have hR:lgR u d (k+1) < d * 4294967296 ^ (k+1):=Nat.mod_lt _ (Nat.mul_pos hd0 (pB _))
 have hq:=dig_lm u d k hd0
 have hrest:=dig_rest u d k hd0
 have e1:u % (d * 4294967296 ^ (k+1))=lgR u d (k+1):=rfl
 have e2:u % (d * 4294967296 ^ k)=lgR u d k:=rfl
 rw [e1] at hq hrest
 rw [e2] at hrest
 obtain ⟨f1,f2,f3,f4,f5⟩:=lg_facts g.hi g.lo hR
 refine ⟨_,_,_,_,_,_,rfl,rfl,rfl,rfl,rfl,rfl,lm_lt _ _,lm_lt _ _,lm_lt _ _,lm_lt _ _,lm_lt _ _,f1,lm_lt _ _,f3,?_,?_,?_⟩
 ·rw [<- hq];exact f4
 ·rw [<- hq];exact f5
 ·intro q h1 h2
  obtain ⟨c1,c2⟩:=lg_cells (m:=p+2) hd0 g.hi hR hq.symm h1 h2
  have hseg:lgR u d (k+1) / 4294967296 ^ k < 4294967296 ^ (p+2+1):=by
   refine Nat.div_lt_of_lt_mul (Nat.lt_of_lt_of_le hR ?_)
   rw [<- Nat.pow_add,show k+(p+2+1)=p+2+(k+1) by omega,Nat.pow_add _ (p+2)]
   exact Nat.mul_le_mul_right _ (Nat.le_of_lt g.hi)
  rw [Nat.mod_eq_of_lt hseg]
  constructor
  ·rw [Bool.eq_iff_iff,Nat.blt_eq,Nat.beq_eq];exact c1
  ·unfold tkCells
   rw [Nat.mod_eq_of_lt hseg]
   apply tb_congr
   intro j _
   rw [c2 j,hrest]
def w2 (a b:Nat):Nat:=a * 4294967296+b
theorem w2_lt {a b:Nat} (ha:a < 4294967296) (hb:b < 4294967296):w2 a b < 18446744073709551616:=by unfold w2;omega
def LI (X top qd q r:Nat):Prop:=q * top+r=X /\ qd <= q
theorem lg_step2 {u d p K L k:Nat} (g:LG u d p K L) (hk:k < K) (hL:k+(p+2) < L) :
  ∃ t2 t1 t0 top d2 qd X,lm (lgR u d (k+1)) (k+(p+2))=t2 /\ lm (lgR u d (k+1)) (k+(p+1))=t1 /\ lm (lgR u d (k+1)) (k+p)=t0 /\ lm d (p+1)=top /\ lm d p=d2 /\ lm (u / d) k=qd /\ w2 t2 t1=X /\
   t2 < 4294967296 /\ t1 < 4294967296 /\ t0 < 4294967296 /\ top < 4294967296 /\ d2 < 4294967296 /\ 1 <= top /\ qd < 4294967296 /\ X < 18446744073709551616 /\
   LI X top qd (X / top) (X % top) /\ (∀ q r,LI X top qd q r -> 4294967296 <= q \/ w2 r t0 < q * d2 -> 1 <= q /\ LI X top qd (q - 1) (r+top)) /\
   (∀ q r,LI X top qd q r -> q < 4294967296 -> q * d2 <= w2 r t0 -> qd <= q /\ q <= qd+1 /\ q < 4294967296) /\
   (∀ q r,LI X top qd q r -> 4294967296 <= r -> qd <= q /\ q <= qd+1 /\ q < 4294967296) /\ (∀ q r,LI X top qd q r -> q <= X) /\
   (∀ q,qd <= q -> q <= qd+1 -> Nat.blt (lgR u d (k+1) / 4294967296 ^ k % 4294967296 ^ (p+2+1)) (q * d)=Nat.beq q (qd+1) /\ tkCells (lgR u d (k+1)) k (p+2) d q L=tb L (lm (lgR u d k))):=by
 obtain ⟨t2,t1,t0,top,d2,qd,g1,g2,g3,g4,g5,g6,b2,b1,b0,bt,bd,ht,bq,hX,hqd,hend,hcells⟩:=lg_step g hk hL
 refine ⟨t2,t1,t0,top,d2,qd,w2 t2 t1,g1,g2,g3,g4,g5,g6,rfl,b2,b1,b0,bt,bd,ht,bq,w2_lt b2 b1,⟨?_,?_⟩,?_,?_,?_,?_,hcells⟩
 ·rw [Nat.mul_comm];exact Nat.div_add_mod _ _
 ·refine (Nat.le_div_iff_mul_le (by omega)).2 ?_
  have key:∀ X,qd * (top * 4294967296+d2) <= X * 4294967296+t0 -> qd * top <= X:=by
   intro X h
   refine Nat.le_of_not_lt fun hlt=>?_
   have h1:(X+1) * 4294967296 <= qd * top * 4294967296:=Nat.mul_le_mul_right _ hlt
   rw [Nat.mul_add,<- Nat.mul_assoc] at h
   clear hqd hX hend hcells
   omega
  exact key _ hqd
 ·intro q r ⟨h1,h2⟩ hc
  have:=kn_step hqd h1 h2 bq hc
  refine ⟨by omega,?_,by omega⟩
  obtain ⟨q,rfl⟩:∃ q',q=q'+1:=⟨q - 1,by omega⟩
  rw [Nat.add_sub_cancel]
  rw [Nat.add_mul] at h1
  omega
 ·intro q r ⟨h1,h2⟩ hq hc
  exact ⟨h2,hend q r h1 hc hq,hq⟩
 ·intro q r ⟨h1,h2⟩ hr
  obtain ⟨h3,h4⟩:=kn_break (u2:=t0) h1 hX hr bd
  exact ⟨h2,hend q r h1 h4 h3,h3⟩
 ·intro q r ⟨h1,h2⟩
  have:q * 1 <= q * top:=Nat.mul_le_mul_left _ ht
  omega
end Go.Eng
end
