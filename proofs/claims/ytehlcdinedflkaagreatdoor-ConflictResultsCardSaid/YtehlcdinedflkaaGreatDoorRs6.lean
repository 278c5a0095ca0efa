/-
  A part of the proof: the machine, the contracts of the functions and the plain laws, merged from smaller texts.
-/
import Derived.Test.YtehlcdinedflkaaGreatDoorRs5
set_option linter.unusedVariables false
set_option linter.unusedSimpArgs false
set_option linter.unusedSectionVars false
section
set_option maxRecDepth 20000
namespace Go.Eng
open Go Go.Proofs Go.IntWalk
def rq1:RQ:=⟨false,[1],[]⟩
theorem rq0_v:rq0.v=0:=by decide +kernel
theorem rq1_v:rq1.v=1:=by decide +kernel
def unitE (n k:Nat) (b:Bool):EqR:=⟨(List.range n).map fun j=>if j=k then rq1 else rq0,if b then rq1 else rq0,0⟩
theorem unitE_len (n k:Nat) (b:Bool):(unitE n k b).coef.length=n:=by show (List.map _ _).length=n;rw [List.length_map,List.length_range]
theorem unitE_at {n k j:Nat} {b:Bool} (hj:j < n):qsV (unitE n k b).coef j=if j=k then 1 else 0:=by
 unfold qsV rqAt unitE
 simp only
 rw [List.getElem?_map,List.getElem?_range hj]
 show (if j=k then rq1 else rq0).v=_
 split
 ·exact rq1_v
 ·exact rq0_v
theorem unitE_lin {n k:Nat} {b:Bool} (hk:k < n) (X:Row):lin n (qsV (unitE n k b).coef) X=X k:=by
 have h:∀ m,m <= n -> lin m (qsV (unitE n k b).coef) X=if k < m then X k else 0:=fun m=>by
  induction m with
  | zero=>intro _;rfl
  | succ m ih=>
   intro hm
   rw [<- lin_step,ih (by omega),unitE_at (by omega)]
   by_cases e:m=k
   ·subst e
    rw [if_neg (by omega),if_pos rfl,if_pos (by omega)];grind
   ·rw [if_neg e]
    by_cases h:k < m
    ·rw [if_pos h,if_pos (by omega)];grind
    ·rw [if_neg h,if_neg (by omega)];grind
 rw [h n (Nat.le_refl _),if_pos hk]
theorem unitE_sat {n k:Nat} {b:Bool} (hk:k < n) {X:Row}:Sat n (unitE n k b) X ↔ X k=if b then 1 else 0:=by
 unfold Sat
 rw [unitE_lin hk]
 show X k=(if b then rq1 else rq0).v ↔ _
 cases b
 ·show X k=rq0.v ↔ X k=0
  rw [rq0_v]
 ·show X k=rq1.v ↔ X k=1
  rw [rq1_v]
theorem push_Z {n:Nat} {l:List EqR} {e:EqR} (c:chkL n (l ++ [e])=0) (c0:chkL n l=0) (X:Row):ZL n (l ++ [e]) X ↔ ZL n l X /\ lin n (qsV e.coef) X+e.rhs.v * X n=0:=by
 rw [ZL_iff (chk0_nat c),ZL_iff (chk0_nat c0)]
 constructor
 ·intro H
  exact ⟨fun d hd=>H d (List.mem_append_left _ hd),H e (List.mem_append_right _ (List.mem_singleton.2 rfl))⟩
 ·rintro ⟨H,h⟩ d hd
  rcases List.mem_append.1 hd with x | x
  ·exact H d x
  ·rw [List.mem_singleton] at x;rw [x];exact h
theorem rank_imp {n:Nat} {l:List EqR} {e:EqR} (c:chkL n (l ++ [e])=0) (c0:chkL n l=0) (con:Cns n l) (h:Imp n l e):rankL n (l ++ [e])=rankL n l:=by
 have eZ:ZL n (l ++ [e])=ZL n l:=funext fun X=>propext (by
  rw [push_Z c c0]
  exact ⟨fun x=>x.1,fun x=>⟨x,imp_hom h con X ((ZL_iff (chk0_nat c0) X).1 x)⟩⟩)
 exact rankL_congr c c0 fun k _=>by rw [eZ]
theorem rank_new {n:Nat} {l:List EqR} {e:EqR} (c:chkL n (l ++ [e])=0) (c0:chkL n l=0) (con:Cns n (l ++ [e])) (h:¬ Imp n l e):rankL n (l ++ [e])=rankL n l+1:=by
 have h:∃ X,(∀ d ∈ l,Sat n d X) /\ ¬ Sat n e X:=Classical.byContradiction fun x=>h fun X hX=>Classical.byContradiction fun y=>x ⟨X,hX,y⟩
 obtain ⟨X,h1,h2⟩:=h
 have up:=rank_up (n:=n) (m:=l.length) (m':=(l ++ [e]).length) (M:=eqM n l) (M':=eqM n (l ++ [e])) (X0:=hom n X) (fun Y hY=>((push_Z c c0 Y).1 hY).1) ((tog_con c).1 ((tog_sat c).2 con)) ((ZL_sat c0 (hom_n n X)).2 fun d hd=>sat_hom.2 (h1 d hd))
  (fun x=>h2 (sat_hom.1 ((ZL_sat c (hom_n n X)).1 x _ (List.mem_append_right _ (List.mem_singleton.2 rfl)))))
 have one:=rank_one (red_sys n l.length (eqM n l)) (red_sys n (l ++ [e]).length (eqM n (l ++ [e]))) fun k k' hk hk' lt H1 H2=>by
  refine Classical.byContradiction fun no=>?_
  have n1:¬ HeadP n (ZL n l) k:=fun x=>no (.inl x)
  have n2:¬ HeadP n (ZL n l) k':=fun x=>no (.inr x)
  unfold HeadP at n1 n2
  obtain ⟨U,hU⟩:=Classical.not_forall.1 n1
  obtain ⟨hU,h'⟩:=Classical.not_imp.1 hU
  obtain ⟨hUn,h'⟩:=Classical.not_imp.1 h'
  obtain ⟨hUz,hUk⟩:=Classical.not_imp.1 h'
  obtain ⟨V,hV⟩:=Classical.not_forall.1 n2
  obtain ⟨hV,h'⟩:=Classical.not_imp.1 hV
  obtain ⟨hVn,h'⟩:=Classical.not_imp.1 h'
  obtain ⟨hVz,hVk⟩:=Classical.not_imp.1 h'
  have eU:lin n (qsV e.coef) U ≠ 0:=fun z=>hUk (H1 U ((push_Z c c0 U).2 ⟨hU,by rw [z,hUn];grind⟩) hUn hUz)
  have:=H2 (fun j=>V j+(- (lin n (qsV e.coef) V / lin n (qsV e.coef) U)) * U j) ((push_Z c c0 _).2 ⟨null_comb _ hV hU,by
   show lin n (qsV e.coef) (fun j=>V j+(- (lin n (qsV e.coef) V / lin n (qsV e.coef) U)) * U j)+e.rhs.v * (V n+(- (lin n (qsV e.coef) V / lin n (qsV e.coef) U)) * U n)=0
   rw [lin_addv,hVn,hUn];grind⟩) (by show V n+_ * U n=0;rw [hVn,hUn];grind) fun j h1 h2=>by
    show V j+_ * U j=0
    rw [hVz j h1 h2,hUz j (by omega) h2];grind
  have this:V k'+(- (lin n (qsV e.coef) V / lin n (qsV e.coef) U)) * U k'=0:=this
  rw [hUz k' lt hk'] at this
  exact hVk (by grind)
 unfold rankL lsOf
 rw [if_pos c,if_pos c0,Int.toNat_natCast]
 omega
def frS (n:Nat) (l:List EqR):Nat -> Nat × List EqR
 | 0=>(0,l)
 | k+1=>if (togL n ((frS n l k).2 ++ [unitE n k false]) && togL n ((frS n l k).2 ++ [unitE n k true]))=true then ((frS n l k).1+1,(frS n l k).2 ++ [unitE n k false]) else frS n l k
theorem frS_mem {n:Nat} {l:List EqR}:∀ {k:Nat} {e:EqR},e ∈ (frS n l k).2 -> e ∈ l \/ ∃ j,j < k /\ e=unitE n j false
 | 0,e,h => .inl h
 | k+1,e,h=>by
  unfold frS at h
  split at h
  ·rcases List.mem_append.1 h with x | x
   ·rcases frS_mem x with y | ⟨j,a,b⟩
    ·exact .inl y
    ·exact .inr ⟨j,by omega,b⟩
   ·rw [List.mem_singleton] at x
    exact .inr ⟨k,by omega,x⟩
  ·rcases frS_mem h with y | ⟨j,a,b⟩
   ·exact .inl y
   ·exact .inr ⟨j,by omega,b⟩
theorem frS_len (n:Nat) (l:List EqR):∀ k,(frS n l k).2.length=l.length+(frS n l k).1 /\ (frS n l k).1 <= k
 | 0=>⟨rfl,Nat.le_refl _⟩
 | k+1=>by
  obtain ⟨a,b⟩:=frS_len n l k
  unfold frS
  split
  ·simp only
   rw [List.length_append,List.length_singleton];omega
  ·omega
theorem frS_chk {n:Nat} {l:List EqR} (c:chkL n l=0) (hl:l.length <= 50) (hn:n <= 8) {k:Nat} (hk:k <= n):chkL n (frS n l k).2=0:=
 chk0_of (by omega) (by have:=frS_len n l k;omega) fun e he=>by
  rcases frS_mem he with h | ⟨j,_,rfl⟩
  ·exact chk0_nat c e h
  ·exact unitE_len _ _ _
theorem frS_inv {n:Nat} {l:List EqR} (c:chkL n l=0) (hl:l.length <= 50) (hn:n <= 8) (con:Cns n l):∀ {k:Nat},k <= n ->
  Cns n (frS n l k).2 /\ (frS n l k).1+rankL n l=rankL n (frS n l k).2 /\ ∀ X Y,(∀ e ∈ (frS n l k).2,Sat n e X) -> (∀ e ∈ (frS n l k).2,Sat n e Y) -> ∀ j,j < k -> X j=Y j
 | 0,_=>⟨con,by show 0+_=_;rw [Nat.zero_add];rfl,fun _ _ _ _ j hj=>absurd hj (Nat.not_lt_zero j)⟩
 | k+1,hk=>by
  obtain ⟨c1,r1,d1⟩:=frS_inv c hl hn con (k:=k) (by omega)
  have ck:=frS_chk c hl hn (k:=k) (by omega)
  have fl:=frS_len n l k
  have cp:∀ b,chkL n ((frS n l k).2 ++ [unitE n k b])=0:=fun b=>chk_push ck (by omega) (unitE_len _ _ _)
  have e0:frS n l (k+1)=if (togL n ((frS n l k).2 ++ [unitE n k false]) && togL n ((frS n l k).2 ++ [unitE n k true]))=true then ((frS n l k).1+1,(frS n l k).2 ++ [unitE n k false]) else frS n l k:=rfl
  rw [e0]
  generalize frS n l k=F at *
  by_cases t:(togL n (F.2 ++ [unitE n k false]) && togL n (F.2 ++ [unitE n k true]))=true
  ·rw [if_pos t]
   rw [Bool.and_eq_true,tog_sat (cp false),tog_sat (cp true)] at t
   obtain ⟨t0,Y,hY⟩:=t
   have yk:Y k=1:=(unitE_sat (b:=true) (by omega)).1 (hY _ (List.mem_append_right _ (List.mem_singleton.2 rfl)))
   refine ⟨t0,?_,fun X Z hX hZ j hj=>?_⟩
   ·rw [rank_new (cp false) ck t0 fun im=>by
     have:=(unitE_sat (b:=false) (by omega)).1 (im Y fun d hd=>hY d (List.mem_append_left _ hd))
     rw [yk] at this
     exact absurd this (by decide)]
    show F.1+1+_=_
    omega
   ·by_cases e:j=k
    ·subst e
     have a:=(unitE_sat (b:=false) (by omega)).1 (hX _ (List.mem_append_right _ (List.mem_singleton.2 rfl)))
     have b:=(unitE_sat (b:=false) (by omega)).1 (hZ _ (List.mem_append_right _ (List.mem_singleton.2 rfl)))
     rw [a,b]
    ·exact d1 X Z (fun d hd=>hX d (List.mem_append_left _ hd)) (fun d hd=>hZ d (List.mem_append_left _ hd)) j (by omega)
  ·rw [if_neg t]
   refine ⟨c1,r1,fun X Z hX hZ j hj=>?_⟩
   by_cases e:j=k
   ·subst e
    refine Classical.byContradiction fun ne=>t ?_
    have nz:X j - Z j ≠ 0:=fun h=>ne (by grind)
    have comb:∀ v:Rat,∃ W:Row,(∀ d ∈ F.2,Sat n d W) /\ W j=v:=fun v=>by
     refine ⟨fun i=>(Z i+((v - Z j) / (X j - Z j)) * X i)+(- ((v - Z j) / (X j - Z j))) * Z i,fun d hd=>?_,?_⟩
     ·have a:=hX d hd
      have b:=hZ d hd
      unfold Sat at a b ⊢
      rw [lin_addv,lin_addv,a,b];grind
     ·show (Z j+((v - Z j) / (X j - Z j)) * X j)+(- ((v - Z j) / (X j - Z j))) * Z j=v
      grind
    rw [Bool.and_eq_true,tog_sat (cp false),tog_sat (cp true)]
    constructor
    ·obtain ⟨W,h1,h2⟩:=comb 0
     refine ⟨W,fun d hd=>?_⟩
     rcases List.mem_append.1 hd with x | x
     ·exact h1 d x
     ·rw [List.mem_singleton] at x;rw [x];exact (unitE_sat (by omega)).2 h2
    ·obtain ⟨W,h1,h2⟩:=comb 1
     refine ⟨W,fun d hd=>?_⟩
     rcases List.mem_append.1 hd with x | x
     ·exact h1 d x
     ·rw [List.mem_singleton] at x;rw [x];exact (unitE_sat (by omega)).2 h2
   ·exact d1 X Z hX hZ j (by omega)
def frF (n:Nat) (l:List EqR):Nat:=(frS n l n).1
theorem frF_rank {n:Nat} {l:List EqR} (c:chkL n l=0) (hl:l.length <= 50) (hn:n <= 8) (con:Cns n l):frF n l+rankL n l=n:=by
 obtain ⟨c1,r1,d1⟩:=frS_inv c hl hn con (Nat.le_refl n)
 have ck:=frS_chk c hl hn (Nat.le_refl n)
 unfold frF
 rw [r1]
 refine rankL_full ck fun k hk X hX hn0=>?_
 obtain ⟨Y,hY⟩:=c1
 have:=d1 (fun j=>Y j+1 * X j) Y (fun d hd=>by
  have a:=(ZL_iff (chk0_nat ck) X).1 hX d hd
  have b:=hY d hd
  unfold Sat at b ⊢
  rw [hn0] at a
  rw [lin_addv,b];grind) hY k hk
 have this:Y k+1 * X k=Y k:=this
 grind
def exS (n:Nat) (l:List EqR):Nat -> List Nat × Bool
 | 0=>([],false)
 | i+1=>if (exS n l i).2=true then exS n l i else if togL n (l.take (i+1))=false then ((exS n l i).1,true) else (if frF n (l.take (i+1))=frF n (l.take i) then (exS n l i).1 ++ [i] else (exS n l i).1,false)
theorem redS_stopped {n:Nat} {l:List EqR} (c:chkL n l=0):∀ {i:Nat},(redS n l i).2=true -> togL n (l.take i)=false
 | 0,h=>by cases h
 | i+1,h=>by
  have mono:togL n (l.take i)=false -> togL n (l.take (i+1))=false:=fun h=>by
   rw [tog_not (take_chk c _)] at h ⊢
   exact fun x=>h (x.sub fun e he=>by rw [List.take_add_one];exact List.mem_append_left _ he)
  by_cases s:(redS n l i).2=true
  ·exact mono (redS_stopped c s)
  ·by_cases t:togL n (l.take i)=false
   ·exact mono t
   ·have e:redS n l (i+1)=(if folL n (l.take i) (eqAt l i)=true then (redS n l i).1 ++ [i] else (redS n l i).1,false):=by
     show (if (redS n l i).2=true then _ else if togL n (l.take i)=false then _ else _)=_
     rw [if_neg s,if_neg t]
    rw [e] at h
    cases h
theorem exS_red {n:Nat} {l:List EqR} (c:chkL n l=0) (hl:l.length <= 40) (hn:n <= 8):∀ {i:Nat},i <= l.length -> (exS n l i).1=(redS n l i).1 /\ ((exS n l i).2=true ↔ togL n (l.take i)=false)
 | 0,_=>⟨rfl,by
   show (false=true) ↔ togL n []=false
   rw [tog_nil hn];simp⟩
 | i+1,hi=>by
  obtain ⟨a,b⟩:=exS_red c hl hn (i:=i) (by omega)
  have ck:=take_chk c i
  have ck1:=take_chk c (i+1)
  have tk:l.take (i+1)=l.take i ++ [eqAt l i]:=by rw [List.take_add_one,eqAt_some (by omega)];rfl
  have e1:exS n l (i+1)=if (exS n l i).2=true then exS n l i else if togL n (l.take (i+1))=false then ((exS n l i).1,true) else (if frF n (l.take (i+1))=frF n (l.take i) then (exS n l i).1 ++ [i] else (exS n l i).1,false):=rfl
  have e2:redS n l (i+1)=if (redS n l i).2=true then redS n l i else if togL n (l.take i)=false then ((redS n l i).1,true) else (if folL n (l.take i) (eqAt l i)=true then (redS n l i).1 ++ [i] else (redS n l i).1,false):=rfl
  by_cases t:togL n (l.take i)=false
  ·rw [e1,if_pos (b.2 t)]
   refine ⟨?_,?_⟩
   ·rw [a,e2]
    split
    ·rfl
    ·first | rfl | rw [if_pos t]
   ·rw [b]
    refine ⟨fun _=>?_,fun _=>t⟩
    rw [tog_not ck] at t
    rw [tog_not ck1]
    exact fun x=>t (x.sub fun e he=>by rw [tk];exact List.mem_append_left _ he)
  ·have ns:¬ (redS n l i).2=true:=fun x=>t (redS_stopped c x)
   have ne:¬ (exS n l i).2=true:=fun x=>t (b.1 x)
   rw [e1,if_neg ne,e2,if_neg ns,if_neg t]
   have con:Cns n (l.take i):=(tog_sat ck).1 (by simpa using t)
   by_cases t1:togL n (l.take (i+1))=false
   ·rw [if_pos t1]
    refine ⟨?_,by simp [t1]⟩
    have:folL n (l.take i) (eqAt l i)=false:=by
     unfold folL
     rw [<- tk,t1];rfl
    simp only
    rw [this,a]
    rfl
   ·rw [if_neg t1]
    have con1:Cns n (l.take (i+1)):=(tog_sat ck1).1 (by simpa using t1)
    refine ⟨?_,by simp [t1]⟩
    have f:=fol_iff ck (by rw [List.length_take];omega) (chk0_nat c _ (eqAt_mem (l:=l) (i:=i) (by omega))) con
    have r0:=frF_rank ck (by rw [List.length_take];omega) hn con
    have r1:=frF_rank ck1 (by rw [List.length_take];omega) hn con1
    have key:frF n (l.take (i+1))=frF n (l.take i) ↔ folL n (l.take i) (eqAt l i)=true:=by
     rw [f]
     constructor
     ·intro h
      refine Classical.byContradiction fun ni=>?_
      rw [tk] at r1 h ck1 con1
      have:=rank_new ck1 ck con1 ni
      omega
     ·intro h
      rw [tk] at r1 ck1 ⊢
      have:=rank_imp ck1 ck con h
      omega
    simp only
    by_cases z:frF n (l.take (i+1))=frF n (l.take i)
    ·rw [if_pos z,if_pos (key.1 z),a]
    ·rw [if_neg z,if_neg fun y=>z (key.2 y),a]
def exF (n:Nat) (l:List EqR):List Nat:=(exS n l l.length).1
theorem exF_red {n:Nat} {l:List EqR} (c:chkL n l=0) (hl:l.length <= 40) (hn:n <= 8):exF n l=redL n l:=(exS_red c hl hn (Nat.le_refl _)).1
theorem unit_cells {n k:Nat} (b:Bool) (hk:k < n):setR ((List.replicate n [Value.bool false,.string ⟨⟨[]⟩⟩,.string ⟨⟨[]⟩⟩]).flatten) (k * 3) [.bool false,.string ⟨⟨[1]⟩⟩,.string ⟨⟨[]⟩⟩]=rqs (unitE n k b).coef:=by
 have e1:∀ m,(List.replicate m [Value.bool false,.string ⟨⟨[]⟩⟩,.string ⟨⟨[]⟩⟩]).flatten=rqs (List.replicate m rq0):=fun m=>by
  induction m with
  | zero=>rfl
  | succ m ih=>rw [List.replicate_succ,List.flatten_cons,ih,List.replicate_succ];rfl
 have e2:=rqs_set (l:=List.replicate n rq0) (k:=k) rq1 (by rw [List.length_replicate];exact hk)
 have e3:(List.replicate n rq0).set k rq1=(unitE n k b).coef:=by
  refine List.ext_getElem? fun j=>?_
  show _=((List.range n).map fun j=>if j=k then rq1 else rq0)[j]?
  rw [List.getElem?_set,List.getElem?_map,List.getElem?_replicate,List.length_replicate]
  by_cases h:j < n
  ·rw [List.getElem?_range h]
   by_cases e:k=j
   ·subst e
    rw [if_pos rfl,if_pos h]
    show _=some (if k=k then rq1 else rq0)
    rw [if_pos rfl]
   ·rw [if_neg e,if_pos h]
    show _=some (if j=k then rq1 else rq0)
    rw [if_neg (fun x=>e x.symm)]
  ·have hr:(List.range n)[j]?=none:=List.getElem?_eq_none (by rw [List.length_range];omega)
   rw [hr]
   by_cases e:k=j
   ·omega
   ·rw [if_neg e,if_neg h];rfl
 rw [e1,<- e3]
 exact e2
theorem unit_dec {h:Heap} {n k a:Nat} {e s:Nat} {x:Bool} (b:Bool) (h0:0 < n) (hb:hget h a=some ⟨e,s,x,rqs (unitE n k false).coef⟩):decEq h (.slice (some ⟨a,0,none⟩) n n :: (unitE n k b).tl)=some (unitE n k b):=
 decEq_of (e:=unitE n k b) (rqs_list hb (unitE_len n k b) h0)
theorem unit_self {h:Heap} {n k a:Nat} {B:Blk} (b:Bool) (hb:hget h a=some B):(Value.slice (some ⟨a,0,none⟩) n n :: (unitE n k b).tl).all (selfOK h)=true:=by
 rw [List.all_cons,Bool.and_eq_true]
 refine ⟨?_,by cases b <;> rfl⟩
 simp [selfOK,slOK,hb]
theorem unit_ok (n k:Nat) (b:Bool):eqOk (unitE n k b) 4:=by
 have r0:rq0.ok 4:=by constructor <;> decide +kernel
 have r1:rq1.ok 4:=by constructor <;> decide +kernel
 refine ⟨fun q hq=>?_,?_⟩
 ·obtain ⟨j,_,rfl⟩:=List.mem_map.1 hq
  show (if j=k then rq1 else rq0).ok 4
  split
  ·exact r1
  ·exact r0
 ·show (if b then rq1 else rq0).ok 4
  cases b
  ·exact r0
  ·exact r1
theorem fr_sys {n:Nat} {l:List EqR} (H:EqsR n l) {k:Nat} (hk:k < n) (b:Bool):SysR n ((frS n l k).2 ++ [unitE n k b]):=fun _=>by
 have fl:=frS_len n l k
 have h8:=H.n8
 have hl:=H.len
 refine ⟨by rw [Int.toNat_natCast];exact H.n8,by rw [List.length_append,List.length_singleton];omega,fun e he=>?_,fun e he=>?_⟩
 ·rw [Int.toNat_natCast]
  rcases List.mem_append.1 he with x | x
  ·rcases frS_mem x with y | ⟨j,_,rfl⟩
   ·exact (H.co e y).1
   ·exact unitE_len _ _ _
  ·rw [List.mem_singleton] at x;rw [x];exact unitE_len _ _ _
 ·rcases List.mem_append.1 he with x | x
  ·rcases frS_mem x with y | ⟨j,_,rfl⟩
   ·exact (H.co e y).2
   ·exact unit_ok _ _ _
  ·rw [List.mem_singleton] at x;rw [x];exact unit_ok _ _ _
structure CellsS (g:Heap) (l:List EqR) (cs:List Value):Prop where
 len:cs.length=l.length * 5
 dec:∀ (i:Nat) q,l[i]?=some q -> decEq g ((cs.drop (i * 5)).take 5)=some q
 self:cs.all (selfOK g)=true
theorem RowsS.cells {h:Heap} {sl:Value} {l:List EqR} {cs:List Value} (r:RowsS h sl l cs):CellsS h l cs where
 len:=r.len.1
 dec:=fun i q hq=>by
  have e:=r.rows
  unfold decRows listAt at e
  rw [r.lay,Option.bind_some] at e
  exact (many_get e).2 i q hq
 self:=r.self
theorem CellsS.mono {g g':Heap} {l:List EqR} {cs:List Value} (c:CellsS g l cs) (h:hle g g'):CellsS g' l cs:=
 ⟨c.len,fun i q hq=>decEq_mono h (c.dec i q hq),selfsOK_mono h c.self⟩
theorem CellsS.rows {h:Heap} {l:List EqR} {cs:List Value} (r:CellsS h l cs) {k el sz c:Nat} {x:Bool} (hc:l.length <= c) (hk:hget h k=some ⟨el,sz,x,cs⟩):RowsS h (.slice (some ⟨k,0,none⟩) l.length c) l cs:=by
 have hlen:=r.len
 have la:Go.Eng.lay 5 h (.slice (some ⟨k,0,none⟩) l.length c)=some cs:=by
  unfold Go.Eng.lay
  cases e:l.length with
  | zero=>
   simp only [hk]
   rw [if_pos ⟨by omega,by omega⟩,List.drop_zero,List.take_of_length_le (by omega)]
  | succ n=>
   simp only [hk]
   rw [if_pos ⟨by omega,by omega⟩,List.drop_zero,List.take_of_length_le (by omega)]
 refine ⟨la,?_,r.self⟩
 unfold decRows listAt
 rw [la,Option.bind_some]
 exact many_some rfl fun i q hq=>r.dec i q hq
theorem CellsS.push {g:Heap} {l:List EqR} {cs:List Value} (r:CellsS g l cs) {ec:List Value} {e:EqR} (he:decEq g ec=some e) (hself:ec.all (selfOK g)=true):CellsS g (l ++ [e]) (cs ++ ec) where
 len:=by rw [List.length_append,List.length_append,List.length_singleton,r.len,decEq_len he];omega
 dec:=fun i q hq=>by
  have hlen:=r.len
  have h5:=decEq_len he
  by_cases hi:i < l.length
  ·rw [List.getElem?_append_left hi] at hq
   have hm:i * 5+5 <= cs.length:=by omega
   rw [List.drop_append_of_le_length (by omega),List.take_append_of_le_length (by rw [List.length_drop];omega)]
   exact r.dec i q hq
  ·have hlt:=(List.getElem?_eq_some_iff.1 hq).1
   rw [List.length_append,List.length_singleton] at hlt
   have hi':i=l.length:=by omega
   subst hi'
   rw [List.getElem?_append_right (Nat.le_refl _),Nat.sub_self] at hq
   simp only [List.getElem?_cons_zero,Option.some.injEq] at hq
   subst hq
   rw [List.drop_append,List.drop_of_length_le (by omega),List.nil_append,hlen,Nat.sub_self,List.drop_zero,List.take_of_length_le (by omega)]
   exact he
 self:=by rw [List.all_append,Bool.and_eq_true];exact ⟨r.self,hself⟩
noncomputable def spFree5:List Value -> Heap -> Option Value
 | [.int .i64 n,sl],h=>match lay 5 h sl,decRows h sl with
  | some cs,some l=>if cs.all (selfOK h)=true /\ 0 <= n /\ EqsR n.toNat l then some (.int .i64 (frF n.toNat l)) else none
  | _,_=>none
 | _,_=>none
theorem spFree5_mono {args:List Value} {h h':Heap} {r:Value} (hl:hle h h') (e:spFree5 args h=some r):spFree5 args h'=some r:=by
 unfold spFree5 at e ⊢
 split at e
 ·split at e
  ·rename_i cs l h1 h2
   split at e
   ·rename_i hc
    simp only [lay_mono hl h1,decRows_mono hl h2]
    rw [if_pos ⟨selfsOK_mono hl hc.1,hc.2⟩];exact e
   ·cases e
  ·cases e
 ·cases e
theorem free5_of {h:Heap} {n:Nat} {l:List EqR} {sl:Value} {cs:List Value} (R:RowsS h sl l cs) (H:EqsR n l):spFree5 [.int .i64 n,sl] h=some (.int .i64 (frF n l)):=by
 unfold spFree5
 simp only [R.lay,R.rows]
 rw [if_pos ⟨R.self,by omega,by rw [Int.toNat_natCast];exact H⟩,Int.toNat_natCast]
def c56:ICode:=
 (.seq (.reg [qq 4 (.mv (ci 0))]) (.seq (.reg [qq 5 (.mv (ci 0))]) (.seq (.reg [qq 11 (.bslice 40 5 0 [] []),qq 12 (.mv (.t 1)),qq 13 (.app 40 5 72 (.t 11) (.t 12)),qq 6 (.mv (.t 13))]) (.seq (.seq (.reg [qq 7 (.mv (ci 0))]) (.block 0 (.loop (.seq (.seq (.reg [qq 14 (.mv (.t 7)),qq 15 (.mv (.t 0)),qq 16 (.bin .lss (.t 14) (.t 15))]) (.cond (.t 16) .skip (.exit 0))) (.seq (.block 1 (.seq (.reg [qq 19 (.mv (.t 0)),qq 20 (.mkslice 38 3 40 [(.bool false),e0,e0] (.t 19) (.t 19)),qq 21 (.build [(.slice none 0 0),(.bool false),e0,e0,(.int .i64 0)] [(0,1,(.t 20))]),qq 8 (.alloc 40 5 [(.slice none 0 0),(.bool false),e0,e0,(.int .i64 0)]),qn (.store 5 (.t 8) (.t 21))]) (.seq (.reg [qq 22 (.faddr 0 (.t 8)),qq 23 (.load false 1 (.t 22)),qq 24 (.mv (.t 7)),qq 25 (.build [(.bool false),e0,e0] [(1,1,(.c (.string ⟨⟨[1]⟩⟩)))]),qq 26 (.ixsl 3 (.t 23) (.t 24)),qn (.store 3 (.t 26) (.t 25))]) (.seq (.dreg [qu 27 (.load true 5 (.t 8)),qu 28 (.load true 5 (.t 8)),qu 9 (.alloc 40 5 [(.slice none 0 0),(.bool false),e0,e0,(.int .i64 0)]),qu 10 (.alloc 40 5 [(.slice none 0 0),(.bool false),e0,e0,(.int .i64 0)]),⟨none,none,[1001],(.store 5 (.t 9) (.t 27))⟩,qm (.store 5 (.t 10) (.t 28))]) (.seq (.reg [qq 29 (.build [(.bool false),e0,e0] [(1,1,(.c (.string ⟨⟨[1]⟩⟩)))]),qq 30 (.faddr 1 (.t 10)),qn (.store 3 (.t 30) (.t 29))]) (.seq (.dreg [qu 31 (.mv (.t 0)),qu 32 (.bslice 40 5 0 [] []),qu 33 (.mv (.t 6)),qu 34 (.app 40 5 72 (.t 32) (.t 33)),qv 35 [1,3] (.load true 5 (.t 9)),qu 36 (.bslice 40 5 1 [(.slice none 0 0),(.bool false),e0,e0,(.int .i64 0)] [(0,5,(.t 35))]),qu 37 (.app 40 5 72 (.t 34) (.t 36)),qu 38 (.call 18 [(.t 31),(.t 37)]),qu 39 (.un .not (.t 38)),qu 40 (.mv (.t 39)),⟨(some 41),(some (40,true)),[],(.mv (.t 0))⟩,⟨(some 42),(some (40,true)),[],(.bslice 40 5 0 [] [])⟩,⟨(some 43),(some (40,true)),[],(.mv (.t 6))⟩,⟨(some 44),(some (40,true)),[],(.app 40 5 72 (.t 42) (.t 43))⟩,⟨(some 45),(some (40,true)),[11,13],(.load true 5 (.t 10))⟩,⟨(some 46),(some (40,true)),[],(.bslice 40 5 1 [(.slice none 0 0),(.bool false),e0,e0,(.int .i64 0)] [(0,5,(.t 45))])⟩,⟨(some 47),(some (40,true)),[],(.app 40 5 72 (.t 44) (.t 46))⟩,⟨(some 48),(some (40,true)),[],(.call 18 [(.t 41),(.t 47)])⟩,⟨(some 49),(some (40,true)),[],(.un .not (.t 48))⟩,qu 50 (.pick (.t 40) (.t 49) (.c (.bool false)))]) (.cond (.t 50) (.seq (.reg [qq 51 (.mv (.t 5)),qq 52 (.bin .add (.t 51) (ci 1)),qq 5 (.mv (.t 52))]) (.reg [qq 53 (.mv (.t 6)),qq 54 (.load true 5 (.t 9)),qq 55 (.bslice 40 5 1 [(.slice none 0 0),(.bool false),e0,e0,(.int .i64 0)] [(0,5,(.t 54))]),qq 56 (.app 40 5 72 (.t 53) (.t 55)),qq 6 (.mv (.t 56))])) .skip))))))) (.reg [qq 17 (.mv (.t 7)),qq 18 (.bin .add (.t 17) (ci 1)),qq 7 (.mv (.t 18))])))))) (.seq (.reg [qq 57 (.mv (.t 5)),qq 4 (.mv (.t 57))]) .ret)))))
theorem tr56:trFun Tryz.prog 56=some ⟨58,[.t 4],c56⟩:=by kernel_rfl
set_option maxHeartbeats 32000000 in
theorem ok_free5:SpecOK Tryz.prog 56 (rdS spFree5):=by
 refine rd_run (env_cons ok_clash5 (env_nil _)) mixed tr56 (fun _ _ _ _=>spFree5_mono) ?_
 intro args v h N hG hN
 unfold spFree5 at hG
 split at hG
 case h_2=>cases hG
 rename_i n sl
 split at hG
 case h_2=>cases hG
 rename_i cs l h1 h2
 split at hG
 case isFalse=>cases hG
 rename_i hs
 obtain ⟨hself,hn0,H⟩:=hs
 cases hG
 obtain ⟨n,rfl⟩:=Int.eq_ofNat_of_zero_le hn0
 rw [Int.toNat_natCast] at H ⊢
 have R:RowsS h sl l cs:=⟨h1,h2,hself⟩
 obtain ⟨hcl,a,c,rfl⟩:=R.len
 have hlen:=H.len
 have n8:=H.n8
 refine ⟨by rfl,by simp,?_⟩
 have x0:=extL_ge (Nat.le_refl N)
 have x1:ExtL N h h=True:=eq_true fun _ _=>rfl
 have up0:∀ {hp},ExtL N h hp -> hle h hp:=fun he k b e=>by rw [he k (hN k b e)];exact e
 have sr0:∀ hp,ExtL N h hp -> srcOf hp 5 l.length a=some cs:=fun hp he=>src_layO (lay_mono (up0 he) h1)
 have ok0:=selfsOK_cells hself
 have mz:(0:Int) <= (n:Int):=by omega
 have mb:(40 * (n:Int) <= 281474976710656 /\ (n:Int) <= 9223372036854775807)=True:=eq_true (by omega)
 have zl:((List.replicate n [Value.bool false,.string ⟨⟨[]⟩⟩,.string ⟨⟨[]⟩⟩]).flatten).length=n * 3:=by
  rw [List.length_flatten,List.map_replicate,List.sum_replicate_nat];rfl
 have RC0:=R.cells
 have hnone:∀ j,N <= j -> hget h j=none:=fun j hj=>by
  cases e:hget h j with
  | none=>rfl
  | some b=>have:=hN j b e;omega
 simp only [c56,G0,Nat.reduceAdd]
 by_cases z0:l.length=0
 case' pos=>
  have cs0:cs=[]:=List.eq_nil_of_length_eq_zero (by omega)
  have l0:l=[]:=List.eq_nil_of_length_eq_zero z0
  have z0':(l.length=0)=True:=eq_true z0
  simp only [↓R0,R1,simprocAttr,-Int.reduceAbs,sr0,x0,x1,z0',hcl,ok0,Nat.zero_add,Nat.zero_mul,List.nil_append]
  have gk:hget ((N+0,some (⟨40,5,true,[]⟩:Blk)) :: h) (N+0)=some ⟨40,5,true,[]⟩:=if_pos rfl
  have fz:(frS n l 0).2.length=0:=z0
  refine lp_parts (fun q tm hp nx=>∃ (k M kl:Nat) (x:Bool) (cs':List Value),q+k=n /\ tmget tm 0 = .int .i64 n /\ tmget tm 7 = .int .i64 k /\ tmget tm 5 = .int .i64 (frS n l k).1 /\ tmget tm 6 = .slice (some ⟨kl,0,none⟩) (frS n l k).2.length (frS n l k).2.length /\ hget hp kl=some ⟨40,5,x,cs'⟩ /\ N <= kl /\ (∃ g,CellsS g (frS n l k).2 cs' /\ hle g hp /\ hget g kl=none) /\ (∀ b blk,hget hp b=some blk -> b < M) /\ (∀ q,q < N -> hget hp q=hget h q) /\ N <= M /\ nx=M+0) ?_ n ⟨0,N+1,N+0,true,[],by omega,?_,?_,?_,?_,gk,by omega,?_,?_,?_,by omega,rfl⟩
  rotate_left
  all_goals first | (simp only [↓R0,R1,simprocAttr,-Int.reduceAbs,fz];done) | (simp only [↓R0,R1,simprocAttr,-Int.reduceAbs,fz];rfl) | skip
  ·refine ⟨h,by rw [<- cs0];exact RC0,fun k b hk=>?_,hnone _ (Nat.le_refl _)⟩
   have:=hN k b hk
   simp only [hget]
   rw [if_neg (by omega)];exact hk
  ·intro b blk hk
   by_cases e:N+0=b
   ·omega
   ·simp only [hget] at hk
    rw [if_neg e] at hk
    have:=hN b blk hk;omega
  ·intro q hq
   have nb:∀ d,(N+d=q)=False:=fun d=>eq_false (by omega)
   simp only [↓R0,R1,simprocAttr,-Int.reduceAbs,nb]
 case' neg=>
  have z0':(l.length=0)=False:=eq_false z0
  have z1:(l.length <= 0)=False:=eq_false (by omega)
  have z2:(l.length * 72 <= 140737488355328)=True:=eq_true (by omega)
  simp only [↓R0,R1,simprocAttr,-Int.reduceAbs,sr0,x0,x1,z0',z1,z2,hcl,ok0,Nat.zero_add,Nat.zero_mul,List.nil_append]
  obtain ⟨H2,eH2⟩:∃ z:Heap,z=(N+1,some ⟨40,5,false,cs⟩) :: (N+0,none) :: (N+0,some ⟨40,5,true,[]⟩) :: h:=⟨_,rfl⟩
  have gk:hget H2 (N+1)=some ⟨40,5,false,cs⟩:=by rw [eH2];exact if_pos rfl
  have l2:hle h H2:=fun k b hk=>by
   have:=hN k b hk
   rw [eH2]
   simp only [hget]
   rw [if_neg (by omega),if_neg (by omega),if_neg (by omega)];exact hk
  rw [eH2] at gk l2
  refine lp_parts (fun q tm hp nx=>∃ (k M kl:Nat) (x:Bool) (cs':List Value),q+k=n /\ tmget tm 0 = .int .i64 n /\ tmget tm 7 = .int .i64 k /\ tmget tm 5 = .int .i64 (frS n l k).1 /\ tmget tm 6 = .slice (some ⟨kl,0,none⟩) (frS n l k).2.length (frS n l k).2.length /\ hget hp kl=some ⟨40,5,x,cs'⟩ /\ N <= kl /\ (∃ g,CellsS g (frS n l k).2 cs' /\ hle g hp /\ hget g kl=none) /\ (∀ b blk,hget hp b=some blk -> b < M) /\ (∀ q,q < N -> hget hp q=hget h q) /\ N <= M /\ nx=M+0) ?_ n ⟨0,N+2,N+1,false,cs,by omega,?_,?_,?_,?_,gk,by omega,⟨h,RC0,l2,hnone _ (Nat.le_add_right _ _)⟩,?_,?_,by omega,rfl⟩
  rotate_left
  all_goals first | (simp only [↓R0,R1,simprocAttr,-Int.reduceAbs];done) | (simp only [↓R0,R1,simprocAttr,-Int.reduceAbs];rfl) | skip
  ·intro b blk hk
   by_cases e:N+1=b
   ·omega
   ·by_cases e':N+0=b
    ·omega
    ·simp only [hget] at hk
     rw [if_neg e,if_neg e',if_neg e'] at hk
     have:=hN b blk hk;omega
  ·intro q hq
   have nb:∀ d,(N+d=q)=False:=fun d=>eq_false (by omega)
   simp only [↓R0,R1,simprocAttr,-Int.reduceAbs,nb]
 all_goals
  rintro q tm hp nx ⟨k,M,kl,x,cs',hq,t0,t7,t5,t6,gL,hkl,⟨g,CG,hg,gn⟩,bM,hh,hM,hnx⟩
  rw [hnx]
  clear hnx nx
  have fl:=frS_len n l k
  have w1:IntKind.i64.wrap ((k:Int)+1)=((k+1:Nat):Int):=by rw [i64_in _ (by omega)];omega
  have wc:IntKind.i64.wrap (((frS n l k).1:Int)+1)=(((frS n l k).1+1:Nat):Int):=by rw [i64_in _ (by omega)];omega
  by_cases ck:k < n
  case neg=>
   have ek:k=n:=by omega
   subst ek
   have ck':((k:Int) < (k:Int))=False:=eq_false (by omega)
   unfold frF
   simp only [↓R0,R1,simprocAttr,-Int.reduceAbs,t0,t7,t5,t6,ck',Fin,isEnd,resL,res1]
   exact ⟨_,rfl,rfl,hh⟩
  have ck':((k:Int) < (n:Int))=True:=eq_true (by omega)
  have sys0:=fr_sys H ck false
  have sys1:=fr_sys H ck true
  have e1:(frS n l (k+1)).1=if (togL n ((frS n l k).2 ++ [unitE n k false]) && togL n ((frS n l k).2 ++ [unitE n k true]))=true then (frS n l k).1+1 else (frS n l k).1:=by
   show (if _ then _ else _:Nat × List EqR).1=_
   split <;> rfl
  have e2:(frS n l (k+1)).2=if (togL n ((frS n l k).2 ++ [unitE n k false]) && togL n ((frS n l k).2 ++ [unitE n k true]))=true then (frS n l k).2 ++ [unitE n k false] else (frS n l k).2:=by
   show (if _ then _ else _:Nat × List EqR).2=_
   split <;> rfl
  have RL:=(CG.mono hg).rows (Nat.le_refl _) gL
  have hcl':=RL.len.1
  generalize (frS n l k).1=cnt at *
  generalize (frS n l k).2=L at *
  have L48:L.length <= 48:=by omega
  have up:∀ {hp'},ExtL M hp hp' -> hle hp hp':=fun he k b e=>by rw [he k (bM k b e)];exact e
  have xg:=extL_ge (Nat.le_refl M)
  have xh:ExtL M hp hp=True:=eq_true fun _ _=>rfl
  have srL:∀ hp',ExtL M hp hp' -> srcOf hp' 5 L.length (some ⟨kl,0,none⟩)=some cs':=fun hp' he=>src_lay (lay_mono (up he) RL.lay)
  have okL:=selfsOK_cells RL.self
  have nk:=bM kl _ gL
  have nkl:∀ d,(M+d=kl)=False:=fun d=>eq_false (by omega)
  have nlk:∀ d,(kl=M+d)=False:=fun d=>eq_false (by omega)
  obtain ⟨UC,eUC⟩:∃ z,rqs (unitE n k false).coef=z:=⟨_,rfl⟩
  have su:=unit_cells false ck
  rw [eUC] at su
  have UCl:UC.length=n * 3:=by rw [<- eUC,rqs_len,unitE_len]
  have UCo:UC.all okCell=true:=by rw [<- eUC];exact rqs_ok _
  have u3:k * 3+3 <= n * 3:=by omega
  have RP:∀ (b:Bool) (hp':Heap) (kk:Nat),ExtL M hp hp' -> hget hp' (M+0)=some ⟨38,3,false,UC⟩ -> hget hp' kk=some ⟨40,5,false,cs' ++ .slice (some ⟨M+0,0,none⟩) n n :: (unitE n k b).tl⟩ -> RowsS hp' (.slice (some ⟨kk,0,none⟩) (L.length+1) (L.length+1)) (L ++ [unitE n k b]) (cs' ++ .slice (some ⟨M+0,0,none⟩) n n :: (unitE n k b).tl):=fun b hp' kk he hu hk=>by
   rw [<- eUC] at hu
   exact (RL.mono (up he)).push (unit_dec b (by omega) hu) (unit_self b hu) (fun _ _ e=>e) (Nat.le_refl _) hk
  have kC:∀ hp' kk,ExtL M hp hp' -> hget hp' (M+0)=some ⟨38,3,false,UC⟩ -> hget hp' kk=some ⟨40,5,false,cs' ++ [.slice (some ⟨M+0,0,none⟩) n n,.bool false,.string ⟨⟨[]⟩⟩,.string ⟨⟨[]⟩⟩,.int .i64 0]⟩ -> spClash5 [.int .i64 n,.slice (some ⟨kk,0,none⟩) (L.length+1) (L.length+1)] hp'=some (.bool (!togL n (L ++ [unitE n k false]))):=fun hp' kk he hu hk=>clash5_of (RP false hp' kk he hu hk).rows sys0
  have kD:∀ hp' kk,ExtL M hp hp' -> hget hp' (M+0)=some ⟨38,3,false,UC⟩ -> hget hp' kk=some ⟨40,5,false,cs' ++ [.slice (some ⟨M+0,0,none⟩) n n,.bool false,.string ⟨⟨[1]⟩⟩,.string ⟨⟨[]⟩⟩,.int .i64 0]⟩ -> spClash5 [.int .i64 n,.slice (some ⟨kk,0,none⟩) (L.length+1) (L.length+1)] hp'=some (.bool (!togL n (L ++ [unitE n k true]))):=fun hp' kk he hu hk=>clash5_of (RP true hp' kk he hu hk).rows sys1
  have v1:(L.length * 72 <= 140737488355328)=True:=eq_true (by omega)
  have v2:((L.length+1) * 72 <= 140737488355328)=True:=eq_true (by omega)
  have v3:(L.length+1 <= L.length)=False:=eq_false (by omega)
  by_cases m0:L.length=0
  ·have c0:cs'=[]:=List.eq_nil_of_length_eq_zero (by omega)
   subst c0
   have m0':(L.length=0)=True:=eq_true m0
   have m5':(L.length * 5=0)=True:=eq_true (by omega)
   rw [m0] at kC kD RP
   simp only [Nat.zero_add,List.nil_append] at kC kD RP
   cases T0:togL n (L ++ [unitE n k false]) with
   | false=>
    rw [T0] at kC
    have e1':(frS n l (k+1)).1=cnt:=by rw [e1,if_neg (by rw [T0];simp)]
    have e2':(frS n l (k+1)).2=L:=by rw [e2,if_neg (by rw [T0];simp)]
    simp only [↓R0,R1,simprocAttr,-Int.reduceAbs,rdS,t0,t7,t5,t6,ck,ck',gL,okL,srL,xg,xh,nkl,mb,mz,if_true,su,zl,UCl,UCo,u3,kC,kD,w1,wc,setR_length,Bool.not_true,Bool.not_false,m0',m5',v1,v2,v3,Nat.zero_add,Nat.zero_mul,List.nil_append]
    refine ⟨q - 1,by omega,k+1,M+7,kl,x,[],by omega,rfl,by rw [e1'],by rw [e2'],?_,by omega,?_,?_,?_,by omega,rfl⟩
    ·simp only [↓R0,R1,simprocAttr,-Int.reduceAbs,nkl,nlk]
     exact gL
    ·rw [e2']
     exact ⟨g,CG,fun j blk hj=>up (by simp only [↓R0,R1,simprocAttr,-Int.reduceAbs,xg,xh]) j blk (hg j blk hj),gn⟩
    ·intro b blk hk
     refine Classical.byContradiction fun nb=>?_
     have nlt:M+7 <= b:=Nat.le_of_not_lt nb
     have f0:(M+0=b)=False:=eq_false (by omega)
     have f1:(M+1=b)=False:=eq_false (by omega)
     have f2:(M+2=b)=False:=eq_false (by omega)
     have f3:(M+3=b)=False:=eq_false (by omega)
     have f4:(M+4=b)=False:=eq_false (by omega)
     have f5:(M+5=b)=False:=eq_false (by omega)
     have f6:(M+6=b)=False:=eq_false (by omega)
     have fk:(kl=b)=False:=eq_false (by omega)
     simp only [↓R0,R1,simprocAttr,-Int.reduceAbs,f0,f1,f2,f3,f4,f5,f6,fk] at hk
     exact absurd (bM b blk hk) (by omega)
    ·intro q hq
     have nb:∀ d,(M+d=q)=False:=fun d=>eq_false (by omega)
     have nc:(kl=q)=False:=eq_false (by omega)
     simp only [↓R0,R1,simprocAttr,-Int.reduceAbs,nb,nc]
     exact hh q hq
   | true=>
    rw [T0] at kC
    cases T1:togL n (L ++ [unitE n k true]) with
    | false=>
     rw [T1] at kD
     have e1':(frS n l (k+1)).1=cnt:=by rw [e1,if_neg (by rw [T0,T1];simp)]
     have e2':(frS n l (k+1)).2=L:=by rw [e2,if_neg (by rw [T0,T1];simp)]
     simp only [↓R0,R1,simprocAttr,-Int.reduceAbs,rdS,t0,t7,t5,t6,ck,ck',gL,okL,srL,xg,xh,nkl,mb,mz,if_true,su,zl,UCl,UCo,u3,kC,kD,w1,wc,setR_length,Bool.not_true,Bool.not_false,m0',m5',v1,v2,v3,Nat.zero_add,Nat.zero_mul,List.nil_append]
     refine ⟨q - 1,by omega,k+1,M+10,kl,x,[],by omega,rfl,by rw [e1'],by rw [e2'],?_,by omega,?_,?_,?_,by omega,rfl⟩
     ·simp only [↓R0,R1,simprocAttr,-Int.reduceAbs,nkl,nlk]
      exact gL
     ·rw [e2']
      exact ⟨g,CG,fun j blk hj=>up (by simp only [↓R0,R1,simprocAttr,-Int.reduceAbs,xg,xh]) j blk (hg j blk hj),gn⟩
     ·intro b blk hk
      refine Classical.byContradiction fun nb=>?_
      have nlt:M+10 <= b:=Nat.le_of_not_lt nb
      have f0:(M+0=b)=False:=eq_false (by omega)
      have f1:(M+1=b)=False:=eq_false (by omega)
      have f2:(M+2=b)=False:=eq_false (by omega)
      have f3:(M+3=b)=False:=eq_false (by omega)
      have f4:(M+4=b)=False:=eq_false (by omega)
      have f5:(M+5=b)=False:=eq_false (by omega)
      have f6:(M+6=b)=False:=eq_false (by omega)
      have f7:(M+7=b)=False:=eq_false (by omega)
      have f8:(M+8=b)=False:=eq_false (by omega)
      have f9:(M+9=b)=False:=eq_false (by omega)
      have fk:(kl=b)=False:=eq_false (by omega)
      simp only [↓R0,R1,simprocAttr,-Int.reduceAbs,f0,f1,f2,f3,f4,f5,f6,f7,f8,f9,fk] at hk
      exact absurd (bM b blk hk) (by omega)
     ·intro q hq
      have nb:∀ d,(M+d=q)=False:=fun d=>eq_false (by omega)
      have nc:(kl=q)=False:=eq_false (by omega)
      simp only [↓R0,R1,simprocAttr,-Int.reduceAbs,nb,nc]
      exact hh q hq
    | true=>
     rw [T1] at kD
     have e1':(frS n l (k+1)).1=cnt+1:=by rw [e1,if_pos (by rw [T0,T1];rfl)]
     have e2':(frS n l (k+1)).2=L ++ [unitE n k false]:=by rw [e2,if_pos (by rw [T0,T1];rfl)]
     simp only [↓R0,R1,simprocAttr,-Int.reduceAbs,rdS,t0,t7,t5,t6,ck,ck',gL,okL,srL,xg,xh,nkl,mb,mz,if_true,su,zl,UCl,UCo,u3,kC,kD,w1,wc,setR_length,Bool.not_true,Bool.not_false,m0',m5',v1,v2,v3,Nat.zero_add,Nat.zero_mul,List.nil_append]
     refine ⟨q - 1,by omega,k+1,M+12,M+11,false,(Value.slice (some ⟨M+0,0,none⟩) n n :: (unitE n k false).tl),by omega,rfl,by rw [e1'],by rw [e2'];simp,?_,by omega,?_,?_,?_,by omega,rfl⟩
     ·simp only [↓R0,R1,simprocAttr,-Int.reduceAbs,nkl,nlk]
      rfl
     ·rw [e2']
      have nM:∀ j,M <= j -> hget g j=none:=fun j hj=>by
       cases e:hget g j with
       | none=>rfl
       | some b=>have:=bM j b (hg j b e);omega
      have hu:hget ((M+0,some (⟨38,3,false,rqs (unitE n k false).coef⟩:Blk)) :: g) (M+0)=some ⟨38,3,false,rqs (unitE n k false).coef⟩:=if_pos rfl
      have gg:hle g ((M+0,some (⟨38,3,false,rqs (unitE n k false).coef⟩:Blk)) :: g):=fun j b hj=>by
       by_cases e:M+0=j
       ·rw [nM j (by omega)] at hj;cases hj
       ·simp only [hget]
        rw [if_neg e];exact hj
      refine ⟨_,(CG.mono gg).push (unit_dec false (by omega) hu) (unit_self false hu),fun j blk hj=>?_,?_⟩
      ·by_cases e:M+0=j
       ·subst e
        rw [hu] at hj
        rw [<- hj,eUC]
        simp only [↓R0,R1,simprocAttr,-Int.reduceAbs,nlk,nkl]
       ·simp only [hget] at hj
        rw [if_neg e] at hj
        have hj':=hg j blk hj
        have jm:=bM j blk hj'
        have nb:∀ d,(M+d=j)=False:=fun d=>eq_false (by omega)
        have nc:(kl=j)=False:=eq_false (fun x=>by rw [x,hj] at gn;cases gn)
        simp only [↓R0,R1,simprocAttr,-Int.reduceAbs,nb,nc]
        exact hj'
      ·simp only [hget]
       rw [if_neg (by omega)]
       exact nM _ (by omega)
     ·intro b blk hk
      refine Classical.byContradiction fun nb=>?_
      have nlt:M+12 <= b:=Nat.le_of_not_lt nb
      have f0:(M+0=b)=False:=eq_false (by omega)
      have f1:(M+1=b)=False:=eq_false (by omega)
      have f2:(M+2=b)=False:=eq_false (by omega)
      have f3:(M+3=b)=False:=eq_false (by omega)
      have f4:(M+4=b)=False:=eq_false (by omega)
      have f5:(M+5=b)=False:=eq_false (by omega)
      have f6:(M+6=b)=False:=eq_false (by omega)
      have f7:(M+7=b)=False:=eq_false (by omega)
      have f8:(M+8=b)=False:=eq_false (by omega)
      have f9:(M+9=b)=False:=eq_false (by omega)
      have f10:(M+10=b)=False:=eq_false (by omega)
      have f11:(M+11=b)=False:=eq_false (by omega)
      have fk:(kl=b)=False:=eq_false (by omega)
      simp only [↓R0,R1,simprocAttr,-Int.reduceAbs,f0,f1,f2,f3,f4,f5,f6,f7,f8,f9,f10,f11,fk] at hk
      exact absurd (bM b blk hk) (by omega)
     ·intro q hq
      have nb:∀ d,(M+d=q)=False:=fun d=>eq_false (by omega)
      have nc:(kl=q)=False:=eq_false (by omega)
      simp only [↓R0,R1,simprocAttr,-Int.reduceAbs,nb,nc]
      exact hh q hq
  ·have m0':(L.length=0)=False:=eq_false m0
   have m1':(L.length <= 0)=False:=eq_false (by omega)
   cases T0:togL n (L ++ [unitE n k false]) with
   | false=>
    rw [T0] at kC
    have e1':(frS n l (k+1)).1=cnt:=by rw [e1,if_neg (by rw [T0];simp)]
    have e2':(frS n l (k+1)).2=L:=by rw [e2,if_neg (by rw [T0];simp)]
    simp only [↓R0,R1,simprocAttr,-Int.reduceAbs,rdS,t0,t7,t5,t6,ck,ck',gL,hcl',okL,srL,xg,xh,nkl,mb,mz,if_true,su,zl,UCl,UCo,u3,kC,kD,w1,wc,setR_length,Bool.not_true,Bool.not_false,m0',m1',v1,v2,v3,Nat.zero_add,Nat.zero_mul,List.nil_append]
    refine ⟨q - 1,by omega,k+1,M+8,kl,x,cs',by omega,rfl,by rw [e1'],by rw [e2'],?_,by omega,?_,?_,?_,by omega,rfl⟩
    ·simp only [↓R0,R1,simprocAttr,-Int.reduceAbs,nkl,nlk]
     exact gL
    ·rw [e2']
     exact ⟨g,CG,fun j blk hj=>up (by simp only [↓R0,R1,simprocAttr,-Int.reduceAbs,xg,xh]) j blk (hg j blk hj),gn⟩
    ·intro b blk hk
     refine Classical.byContradiction fun nb=>?_
     have nlt:M+8 <= b:=Nat.le_of_not_lt nb
     have f0:(M+0=b)=False:=eq_false (by omega)
     have f1:(M+1=b)=False:=eq_false (by omega)
     have f2:(M+2=b)=False:=eq_false (by omega)
     have f3:(M+3=b)=False:=eq_false (by omega)
     have f4:(M+4=b)=False:=eq_false (by omega)
     have f5:(M+5=b)=False:=eq_false (by omega)
     have f6:(M+6=b)=False:=eq_false (by omega)
     have f7:(M+7=b)=False:=eq_false (by omega)
     have fk:(kl=b)=False:=eq_false (by omega)
     simp only [↓R0,R1,simprocAttr,-Int.reduceAbs,f0,f1,f2,f3,f4,f5,f6,f7,fk] at hk
     exact absurd (bM b blk hk) (by omega)
    ·intro q hq
     have nb:∀ d,(M+d=q)=False:=fun d=>eq_false (by omega)
     have nc:(kl=q)=False:=eq_false (by omega)
     simp only [↓R0,R1,simprocAttr,-Int.reduceAbs,nb,nc]
     exact hh q hq
   | true=>
    rw [T0] at kC
    cases T1:togL n (L ++ [unitE n k true]) with
    | false=>
     rw [T1] at kD
     have e1':(frS n l (k+1)).1=cnt:=by rw [e1,if_neg (by rw [T0,T1];simp)]
     have e2':(frS n l (k+1)).2=L:=by rw [e2,if_neg (by rw [T0,T1];simp)]
     simp only [↓R0,R1,simprocAttr,-Int.reduceAbs,rdS,t0,t7,t5,t6,ck,ck',gL,hcl',okL,srL,xg,xh,nkl,mb,mz,if_true,su,zl,UCl,UCo,u3,kC,kD,w1,wc,setR_length,Bool.not_true,Bool.not_false,m0',m1',v1,v2,v3,Nat.zero_add,Nat.zero_mul,List.nil_append]
     refine ⟨q - 1,by omega,k+1,M+12,kl,x,cs',by omega,rfl,by rw [e1'],by rw [e2'],?_,by omega,?_,?_,?_,by omega,rfl⟩
     ·simp only [↓R0,R1,simprocAttr,-Int.reduceAbs,nkl,nlk]
      exact gL
     ·rw [e2']
      exact ⟨g,CG,fun j blk hj=>up (by simp only [↓R0,R1,simprocAttr,-Int.reduceAbs,xg,xh]) j blk (hg j blk hj),gn⟩
     ·intro b blk hk
      refine Classical.byContradiction fun nb=>?_
      have nlt:M+12 <= b:=Nat.le_of_not_lt nb
      have f0:(M+0=b)=False:=eq_false (by omega)
      have f1:(M+1=b)=False:=eq_false (by omega)
      have f2:(M+2=b)=False:=eq_false (by omega)
      have f3:(M+3=b)=False:=eq_false (by omega)
      have f4:(M+4=b)=False:=eq_false (by omega)
      have f5:(M+5=b)=False:=eq_false (by omega)
      have f6:(M+6=b)=False:=eq_false (by omega)
      have f7:(M+7=b)=False:=eq_false (by omega)
      have f8:(M+8=b)=False:=eq_false (by omega)
      have f9:(M+9=b)=False:=eq_false (by omega)
      have f10:(M+10=b)=False:=eq_false (by omega)
      have f11:(M+11=b)=False:=eq_false (by omega)
      have fk:(kl=b)=False:=eq_false (by omega)
      simp only [↓R0,R1,simprocAttr,-Int.reduceAbs,f0,f1,f2,f3,f4,f5,f6,f7,f8,f9,f10,f11,fk] at hk
      exact absurd (bM b blk hk) (by omega)
     ·intro q hq
      have nb:∀ d,(M+d=q)=False:=fun d=>eq_false (by omega)
      have nc:(kl=q)=False:=eq_false (by omega)
      simp only [↓R0,R1,simprocAttr,-Int.reduceAbs,nb,nc]
      exact hh q hq
    | true=>
     rw [T1] at kD
     have e1':(frS n l (k+1)).1=cnt+1:=by rw [e1,if_pos (by rw [T0,T1];rfl)]
     have e2':(frS n l (k+1)).2=L ++ [unitE n k false]:=by rw [e2,if_pos (by rw [T0,T1];rfl)]
     simp only [↓R0,R1,simprocAttr,-Int.reduceAbs,rdS,t0,t7,t5,t6,ck,ck',gL,hcl',okL,srL,xg,xh,nkl,mb,mz,if_true,su,zl,UCl,UCo,u3,kC,kD,w1,wc,setR_length,Bool.not_true,Bool.not_false,m0',m1',v1,v2,v3,Nat.zero_add,Nat.zero_mul,List.nil_append]
     refine ⟨q - 1,by omega,k+1,M+14,M+13,false,(cs' ++ Value.slice (some ⟨M+0,0,none⟩) n n :: (unitE n k false).tl),by omega,rfl,by rw [e1'],by rw [e2'];simp,?_,by omega,?_,?_,?_,by omega,rfl⟩
     ·simp only [↓R0,R1,simprocAttr,-Int.reduceAbs,nkl,nlk]
      rfl
     ·rw [e2']
      have nM:∀ j,M <= j -> hget g j=none:=fun j hj=>by
       cases e:hget g j with
       | none=>rfl
       | some b=>have:=bM j b (hg j b e);omega
      have hu:hget ((M+0,some (⟨38,3,false,rqs (unitE n k false).coef⟩:Blk)) :: g) (M+0)=some ⟨38,3,false,rqs (unitE n k false).coef⟩:=if_pos rfl
      have gg:hle g ((M+0,some (⟨38,3,false,rqs (unitE n k false).coef⟩:Blk)) :: g):=fun j b hj=>by
       by_cases e:M+0=j
       ·rw [nM j (by omega)] at hj;cases hj
       ·simp only [hget]
        rw [if_neg e];exact hj
      refine ⟨_,(CG.mono gg).push (unit_dec false (by omega) hu) (unit_self false hu),fun j blk hj=>?_,?_⟩
      ·by_cases e:M+0=j
       ·subst e
        rw [hu] at hj
        rw [<- hj,eUC]
        simp only [↓R0,R1,simprocAttr,-Int.reduceAbs,nlk,nkl]
       ·simp only [hget] at hj
        rw [if_neg e] at hj
        have hj':=hg j blk hj
        have jm:=bM j blk hj'
        have nb:∀ d,(M+d=j)=False:=fun d=>eq_false (by omega)
        have nc:(kl=j)=False:=eq_false (fun x=>by rw [x,hj] at gn;cases gn)
        simp only [↓R0,R1,simprocAttr,-Int.reduceAbs,nb,nc]
        exact hj'
      ·simp only [hget]
       rw [if_neg (by omega)]
       exact nM _ (by omega)
     ·intro b blk hk
      refine Classical.byContradiction fun nb=>?_
      have nlt:M+14 <= b:=Nat.le_of_not_lt nb
      have f0:(M+0=b)=False:=eq_false (by omega)
      have f1:(M+1=b)=False:=eq_false (by omega)
      have f2:(M+2=b)=False:=eq_false (by omega)
      have f3:(M+3=b)=False:=eq_false (by omega)
      have f4:(M+4=b)=False:=eq_false (by omega)
      have f5:(M+5=b)=False:=eq_false (by omega)
      have f6:(M+6=b)=False:=eq_false (by omega)
      have f7:(M+7=b)=False:=eq_false (by omega)
      have f8:(M+8=b)=False:=eq_false (by omega)
      have f9:(M+9=b)=False:=eq_false (by omega)
      have f10:(M+10=b)=False:=eq_false (by omega)
      have f11:(M+11=b)=False:=eq_false (by omega)
      have f12:(M+12=b)=False:=eq_false (by omega)
      have f13:(M+13=b)=False:=eq_false (by omega)
      have fk:(kl=b)=False:=eq_false (by omega)
      simp only [↓R0,R1,simprocAttr,-Int.reduceAbs,f0,f1,f2,f3,f4,f5,f6,f7,f8,f9,f10,f11,f12,f13,fk] at hk
      exact absurd (bM b blk hk) (by omega)
     ·intro q hq
      have nb:∀ d,(M+d=q)=False:=fun d=>eq_false (by omega)
      have nc:(kl=q)=False:=eq_false (by omega)
      simp only [↓R0,R1,simprocAttr,-Int.reduceAbs,nb,nc]
      exact hh q hq
theorem EqsR.take {n:Nat} {l:List EqR} (H:EqsR n l) (i:Nat):EqsR n (l.take i) where
 n8:=H.n8
 len:=by rw [List.length_take];have:=H.len;omega
 co:=fun e he=>H.co e (List.mem_of_mem_take he)
noncomputable def spRank5:List Value -> Heap -> Option Value
 | [.int .i64 n,sl],h=>match lay 5 h sl,decRows h sl with
  | some cs,some l=>if cs.all (selfOK h)=true /\ 0 <= n /\ EqsR n.toNat l then some (.int .i64 ((n.toNat - frF n.toNat l:Nat):Int)) else none
  | _,_=>none
 | _,_=>none
theorem spRank5_mono {args:List Value} {h h':Heap} {r:Value} (hl:hle h h') (e:spRank5 args h=some r):spRank5 args h'=some r:=by
 unfold spRank5 at e ⊢
 split at e
 ·split at e
  ·rename_i cs l h1 h2
   split at e
   ·rename_i hc
    simp only [lay_mono hl h1,decRows_mono hl h2]
    rw [if_pos ⟨selfsOK_mono hl hc.1,hc.2⟩];exact e
   ·cases e
  ·cases e
 ·cases e
theorem rank5_of {h:Heap} {n:Nat} {l:List EqR} {sl:Value} {cs:List Value} (R:RowsS h sl l cs) (H:EqsR n l):spRank5 [.int .i64 n,sl] h=some (.int .i64 ((n - frF n l:Nat):Int)):=by
 unfold spRank5
 simp only [R.lay,R.rows]
 rw [if_pos ⟨R.self,by omega,by rw [Int.toNat_natCast];exact H⟩,Int.toNat_natCast]
def c37:ICode:=
 (.seq (.reg [qq 4 (.mv (ci 0))]) (.seq (.reg [qq 5 (.mv (.t 0)),qq 6 (.mv (.t 0)),qq 7 (.mv (.t 1)),qq 8 (.call 56 [(.t 6),(.t 7)]),qq 9 (.bin .sub (.t 5) (.t 8)),qq 4 (.mv (.t 9))]) .ret))
theorem tr37:trFun Tryz.prog 37=some ⟨10,[.t 4],c37⟩:=by kernel_rfl
set_option maxHeartbeats 2000000 in
theorem ok_rank5:SpecOK Tryz.prog 37 (rdS spRank5):=by
 refine rd_run (env_cons ok_free5 (env_nil _)) mixed tr37 (fun _ _ _ _=>spRank5_mono) ?_
 intro args v h N hG hN
 unfold spRank5 at hG
 split at hG
 case h_2=>cases hG
 rename_i n sl
 split at hG
 case h_2=>cases hG
 rename_i cs l h1 h2
 split at hG
 case isFalse=>cases hG
 rename_i hs
 obtain ⟨hself,hn0,H⟩:=hs
 cases hG
 obtain ⟨n,rfl⟩:=Int.eq_ofNat_of_zero_le hn0
 rw [Int.toNat_natCast] at H ⊢
 have R:RowsS h sl l cs:=⟨h1,h2,hself⟩
 have n8:=H.n8
 have kf:=free5_of R H
 have fl:frF n l <= n:=(frS_len n l n).2
 have w:IntKind.i64.wrap ((n:Int) - ((frF n l:Nat):Int))=((n - frF n l:Nat):Int):=by rw [i64_in _ (by omega)];omega
 refine ⟨by rfl,by simp,?_⟩
 simp only [c37,G0,Nat.reduceAdd]
 simp only [↓R0,R1,simprocAttr,-Int.reduceAbs,rdS,kf,w,Fin,isEnd,resL,res1]
 exact ⟨_,rfl,rfl,fun k hk=>by simp only [ne_nb hk,if_false]⟩
noncomputable def spExtra:List Value -> Heap -> Option NewL
 | [.int .i64 n,sl],h=>match lay 5 h sl,decRows h sl with
  | some cs,some l=>if cs.all (selfOK h)=true /\ 0 <= n /\ EqsR n.toNat l then some (intNL (exF n.toNat l)) else none
  | _,_=>none
 | _,_=>none
theorem extra_of {h:Heap} {n:Nat} {l:List EqR} {sl:Value} {cs:List Value} (R:RowsS h sl l cs) (H:EqsR n l):spExtra [.int .i64 n,sl] h=some (intNL (exF n l)):=by
 unfold spExtra
 simp only [R.lay,R.rows]
 rw [if_pos ⟨R.self,by omega,by rw [Int.toNat_natCast];exact H⟩,Int.toNat_natCast]
theorem exS_stop {n:Nat} {l:List EqR} {i:Nat} (h:(exS n l i).2=true):∀ d,exS n l (i+d)=exS n l i
 | 0=>rfl
 | d+1=>by
  have ih:=exS_stop h d
  show (if (exS n l (i+d)).2=true then exS n l (i+d) else _)=_
  rw [if_pos (by rw [ih];exact h),ih]
theorem exS_len (n:Nat) (l:List EqR):∀ i,(exS n l i).1.length <= i
 | 0=>Nat.le_refl _
 | i+1=>by
  have:=exS_len n l i
  unfold exS
  split
  ·omega
  ·split
   ·simp only;omega
   ·split
    ·simp only [List.length_append,List.length_singleton];omega
    ·simp only;omega
def c15:ICode:=
 (.seq (.reg [qq 4 (.mv (.c (.slice none 0 0)))]) (.seq (.reg [qq 5 (.mv (.c (.slice none 0 0)))]) (.seq (.seq (.reg [qq 6 (.mv (ci 0))]) (.block 0 (.loop (.seq (.seq (.reg [qq 7 (.mv (.t 6)),qq 8 (.mv (.t 1)),qq 9 (.lensl (.t 8)),qq 10 (.bin .lss (.t 7) (.t 9))]) (.cond (.t 10) .skip (.exit 0))) (.seq (.block 1 (.seq (.seq (.reg [qq 13 (.mv (.t 0)),qq 14 (.mv (.t 1)),qq 15 (.mv (.t 6)),qq 16 (.bin .add (.t 15) (ci 1)),qq 17 (.slsl 5 (.t 14) none (some (.t 16))),qq 18 (.call 18 [(.t 13),(.t 17)])]) (.cond (.t 18) (.exit 0) .skip)) (.seq (.dreg [qu 19 (.mv (.t 0)),qu 20 (.mv (.t 1)),qu 21 (.mv (.t 6)),qu 22 (.bin .add (.t 21) (ci 1)),qu 23 (.slsl 5 (.t 20) none (some (.t 22))),qu 24 (.call 37 [(.t 19),(.t 23)]),qu 25 (.mv (.t 0)),qu 26 (.mv (.t 1)),qu 27 (.mv (.t 6)),qu 28 (.slsl 5 (.t 26) none (some (.t 27))),qu 29 (.call 37 [(.t 25),(.t 28)]),qu 30 (.bin .eql (.t 24) (.t 29))]) (.cond (.t 30) (.reg [qq 31 (.mv (.t 5)),qq 32 (.mv (.t 6)),qq 33 (.bslice 3 1 1 [(.int .i64 0)] [(0,1,(.t 32))]),qq 34 (.app 3 1 8 (.t 31) (.t 33)),qq 5 (.mv (.t 34))]) .skip)))) (.reg [qq 11 (.mv (.t 6)),qq 12 (.bin .add (.t 11) (ci 1)),qq 6 (.mv (.t 12))])))))) (.seq (.reg [qq 35 (.mv (.t 5)),qq 4 (.mv (.t 35))]) .ret))))
theorem tr15:trFun Tryz.prog 15=some ⟨36,[.t 4],c15⟩:=by kernel_rfl
set_option maxHeartbeats 16000000 in
theorem ok_extra:SpecOK Tryz.prog 15 (nwL spExtra):=by
 refine newL_run (env_cons ok_clash5 (env_cons ok_rank5 (env_nil _))) mixed tr15 ?_ ?_
 ·intro args h h' r hl e
  unfold spExtra at e ⊢
  split at e
  ·split at e
   ·rename_i cs l h1 h2
    split at e
    ·rename_i hc
     simp only [lay_mono hl h1,decRows_mono hl h2]
     rw [if_pos ⟨selfsOK_mono hl hc.1,hc.2⟩];exact e
    ·cases e
   ·cases e
  ·cases e
 intro args h N r hG hN
 unfold spExtra at hG
 split at hG
 case h_2=>cases hG
 rename_i n sl
 split at hG
 case h_2=>cases hG
 rename_i cs l h1 h2
 split at hG
 case isFalse=>cases hG
 rename_i hs
 obtain ⟨hself,hn0,H⟩:=hs
 cases hG
 obtain ⟨n,rfl⟩:=Int.eq_ofNat_of_zero_le hn0
 rw [Int.toNat_natCast] at H
 rw [Int.toNat_natCast]
 have R:RowsS h sl l cs:=⟨h1,h2,hself⟩
 obtain ⟨hcl,a,c,rfl⟩:=R.len
 have hlen:=H.len
 have n8:=H.n8
 refine ⟨intNL_par _ _,by simp,?_⟩
 simp only [c15,G0,Nat.reduceAdd]
 simp only [↓R0,R1,simprocAttr,-Int.reduceAbs]
 refine lp_parts (fun q tm hp nx=>∃ (i M:Nat) (o:Value),q+i=l.length /\ tmget tm 0 = .int .i64 n /\ tmget tm 1 = .slice a l.length c /\ tmget tm 6 = .int .i64 i /\ tmget tm 5=o /\ (exS n l i).2=false /\ OutI hp N M o (exS n l i).1 /\ (∀ q,q < N -> hget hp q=hget h q) /\ N <= M /\ nx=M+0) ?_ l.length
  ⟨0,N,.slice none 0 0,by omega,?_,?_,?_,?_,rfl,.inl ⟨rfl,rfl⟩,?_,Nat.le_refl _,rfl⟩
 rotate_left
 all_goals first | (simp only [↓R0,R1,simprocAttr,-Int.reduceAbs];done) | (simp only [↓R0,R1,simprocAttr,-Int.reduceAbs];rfl) | skip
 ·exact fun q _=>rfl
 rintro q tm hp nx ⟨i,M,o,hq,t0,t1,t6,t5,ns,hO,hh,hM,hnx⟩
 rw [hnx]
 clear hnx nx
 have wi:IntKind.i64.wrap ((i:Int)+1)=((i+1:Nat):Int):=by rw [i64_in _ (by omega)];omega
 by_cases ci:i < l.length
 case neg=>
  have ei:i=l.length:=by omega
  subst ei
  have ci':((l.length:Int) < (l.length:Int))=False:=eq_false (by omega)
  unfold exF intNL
  rcases hO with ⟨z,rfl⟩ | ⟨z,kk,x,rfl,h3,h4,h5⟩
  ·rw [if_pos z]
   simp only [↓R0,R1,simprocAttr,-Int.reduceAbs,t0,t1,t6,t5,ci',FinL,isEnd,resL,res1]
   refine ⟨fun i=>i,_,fun i hi=>absurd hi (Nat.not_lt_zero i),fun i j hi=>absurd hi (Nat.not_lt_zero i),rfl,rfl,fun i hi=>absurd hi (Nat.not_lt_zero i),hh⟩
  ·rw [if_neg z]
   simp only [↓R0,R1,simprocAttr,-Int.reduceAbs,t0,t1,t6,t5,ci',FinL,isEnd,resL,res1]
   refine ⟨fun _=>kk,_,fun i hi=>(by omega:N <= kk),fun i j (hi:i < 1) (hj:j < 1) _=>by omega,rfl,rfl,fun i hi=>⟨x,h3⟩,hh⟩
 have ci':((i:Int) < (l.length:Int))=True:=eq_true (by omega)
 have HLp:hle h hp:=fun q b e=>by rw [hh q (hN _ _ e)];exact e
 obtain ⟨k,off,blk,ea,hb,hlc,hle,ecs⟩:=lay_pos h1 (by omega)
 subst ea
 have RT0:=(R.take (by omega) (Nat.le_of_lt ci)).mono HLp
 have RT1:=(R.take (by omega) (show i+1 <= l.length by omega)).mono HLp
 have mk:∀ j,mkSl k off 5 c 0 j = .slice (some ⟨k,off,none⟩) j c:=fun j=>by unfold mkSl;rw [if_neg (by omega),Nat.zero_mul,Nat.add_zero,Nat.sub_zero,Nat.sub_zero]
 have ic:((i:Int) <= (c:Int))=True:=eq_true (by omega)
 have ic1:(((i+1:Nat):Int) <= (c:Int))=True:=eq_true (by omega)
 have ic2:(i <= c)=True:=eq_true (by omega)
 have ic3:(i+1 <= c)=True:=eq_true (by omega)
 have kC:=clash5_of RT1.rows ((H.take (i+1)).sys (by rw [List.length_take];omega) fun e h=>h)
 have r0:=rank5_of RT0 (H.take i)
 have r1:=rank5_of RT1 (H.take (i+1))
 have rs:exS n l (i+1)=if togL n (l.take (i+1))=false then ((exS n l i).1,true) else (if frF n (l.take (i+1))=frF n (l.take i) then (exS n l i).1 ++ [i] else (exS n l i).1,false):=by
  show (if (exS n l i).2=true then _ else _)=_
  rw [if_neg (by rw [ns];simp)]
 have rl:=exS_len n l i
 cases tg:togL n (l.take (i+1)) with
 | false=>
  rw [tg] at kC
  rw [if_pos tg] at rs
  have fin:exF n l=(exS n l i).1:=by
   unfold exF
   have:=exS_stop (n:=n) (l:=l) (i:=i+1) (by rw [rs]) (l.length - (i+1))
   rw [show i+1+(l.length - (i+1))=l.length by omega,rs] at this
   rw [this]
  unfold intNL
  rw [fin]
  rcases hO with ⟨z,rfl⟩ | ⟨z,kk,x,rfl,h3,h4,h5⟩
  ·rw [if_pos z]
   simp only [↓R0,R1,simprocAttr,-Int.reduceAbs,rdS,t0,t1,t6,t5,ci,ci',mk,ic,ic1,ic2,ic3,hlc,kC,wi,Bool.not_true,Bool.not_false,FinL,isEnd,resL,res1]
   refine ⟨fun i=>i,_,fun i hi=>absurd hi (Nat.not_lt_zero i),fun i j hi=>absurd hi (Nat.not_lt_zero i),rfl,rfl,fun i hi=>absurd hi (Nat.not_lt_zero i),hh⟩
  ·rw [if_neg z]
   simp only [↓R0,R1,simprocAttr,-Int.reduceAbs,rdS,t0,t1,t6,t5,ci,ci',mk,ic,ic1,ic2,ic3,hlc,kC,wi,Bool.not_true,Bool.not_false,FinL,isEnd,resL,res1]
   refine ⟨fun _=>kk,_,fun i hi=>(by omega:N <= kk),fun i j (hi:i < 1) (hj:j < 1) _=>by omega,rfl,rfl,fun i hi=>⟨x,h3⟩,hh⟩
 | true=>
  rw [tg] at kC
  rw [if_neg (by rw [tg];simp)] at rs
  have f0:frF n (l.take i) <= n:=(frS_len n _ n).2
  have f1:frF n (l.take (i+1)) <= n:=(frS_len n _ n).2
  by_cases fg:frF n (l.take (i+1))=frF n (l.take i)
  case neg=>
   have fg':(((n - frF n (l.take (i+1)):Nat):Int)=((n - frF n (l.take i):Nat):Int))=False:=eq_false (by omega)
   rw [if_neg fg] at rs
   generalize ((n - frF n (l.take (i+1)):Nat):Int)=A1 at *
   generalize ((n - frF n (l.take i):Nat):Int)=A0 at *
   simp only [↓R0,R1,simprocAttr,-Int.reduceAbs,rdS,t0,t1,t6,t5,ci,ci',mk,ic,ic1,ic2,ic3,hlc,kC,r0,r1,fg',wi,Bool.not_true,Bool.not_false]
   exact ⟨q - 1,by omega,i+1,M,o,by omega,rfl,rfl,by rw [rs],by rw [rs];exact hO,hh,hM,rfl⟩
  case pos=>
   have fg':(((n - frF n (l.take (i+1)):Nat):Int)=((n - frF n (l.take i):Nat):Int))=True:=eq_true (by omega)
   rw [if_pos fg] at rs
   generalize ((n - frF n (l.take (i+1)):Nat):Int)=A1 at *
   generalize ((n - frF n (l.take i):Nat):Int)=A0 at *
   generalize (exS n l i).1=out at *
   rcases hO with ⟨z,rfl⟩ | ⟨z,kk,x,rfl,h3,h4,h5⟩
   ·simp only [↓R0,R1,simprocAttr,-Int.reduceAbs,rdS,t0,t1,t6,t5,ci,ci',mk,ic,ic1,ic2,ic3,hlc,kC,r0,r1,fg',wi,Bool.not_true,Bool.not_false]
    refine ⟨q - 1,by omega,i+1,M+2,.slice (some ⟨M+1,0,none⟩) 1 1,by omega,rfl,rfl,by rw [rs],.inr ⟨by rw [rs];simp,M+1,false,by rw [rs,z];rfl,?_,by omega,by omega⟩,fun q hq=>?_,by omega,rfl⟩
    ·rw [rs,z]
     simp only [↓R0,R1,simprocAttr,-Int.reduceAbs]
     rfl
    ·have nb:∀ d,(M+d=q)=False:=fun d=>eq_false (by omega)
     simp only [↓R0,R1,simprocAttr,-Int.reduceAbs,nb]
     exact hh q hq
   ·have v1:∀ d,(M+d=kk)=False:=fun d=>eq_false (by omega)
    have v2:∀ d,(kk=M+d)=False:=fun d=>eq_false (by omega)
    have lI:(intC out).length=out.length:=by unfold intC;rw [List.length_map]
    have aI:intC out ++ [.int .i64 (i:Nat)]=intC (out ++ [i]):=by unfold intC;rw [List.map_append];rfl
    have nler:(out.length+1 <= out.length)=False:=eq_false (by omega)
    have ovr:((out.length+1) * 8 <= 140737488355328)=True:=eq_true (by omega)
    generalize intC out=IC0 at *
    generalize eIC:intC (out ++ [i])=IC1 at *
    simp only [↓R0,R1,simprocAttr,-Int.reduceAbs,rdS,t0,t1,t6,t5,ci,ci',mk,ic,ic1,ic2,ic3,hlc,kC,r0,r1,fg',wi,h3,lI,aI,nler,ovr,v1,v2,Bool.not_true,Bool.not_false]
    refine ⟨q - 1,by omega,i+1,M+2,.slice (some ⟨M+1,0,none⟩) (out.length+1) (out.length+1),by omega,rfl,rfl,by rw [rs],.inr ⟨by rw [rs];simp,M+1,false,by rw [rs];simp,?_,by omega,by omega⟩,fun q hq=>?_,by omega,rfl⟩
    ·rw [rs,eIC]
     simp only [↓R0,R1,simprocAttr,-Int.reduceAbs,v1,v2]
    ·have nb:∀ d,(M+d=q)=False:=fun d=>eq_false (by omega)
     have nq:(kk=q)=False:=eq_false (by omega)
     simp only [↓R0,R1,simprocAttr,-Int.reduceAbs,nb,nq]
     exact hh q hq
def spL25res:List Value -> Heap -> Option Value
 | [.int .i64 n,a],h=>match decRows h a with
  | some la=>if (-9223372036854775808 <= n /\ n <= 9223372036854775807) /\ la.length <= 9223372036854775807 then some (.bool true) else none
  | _=>none
 | _,_=>none
def c3:ICode:=
 (.seq (.reg [qq 4 (.mv (.c (.bool false)))]) (.seq (.seq (.reg [qq 7 (.call 9 []),qq 8 (.un .not (.t 7))]) (.cond (.t 8) (.seq (.reg [qq 4 (.mv (.c (.bool false)))]) .ret) .skip)) (.seq (.reg [qq 10 (.mv (.t 0)),qq 11 (.mv (.t 1)),qq 12 (.call 10 [(.t 10),(.t 11)]),qq 9 (.mv (.t 12)),qq 13 (.ext (.t 9) 0),qq 14 (.ext (.t 9) 1),qq 5 (.mv (.t 13)),qq 6 (.mv (.t 14))]) (.seq (.reg [qq 15 (.mv (.t 6)),qq 16 (.un .not (.t 15)),qq 17 (.mv (.t 16)),⟨(some 18),(some (17,false)),(.mv (.t 0))⟩,⟨(some 19),(some (17,false)),(.mv (.t 5))⟩,⟨(some 20),(some (17,false)),(.call 12 [(.t 18),(.t 19)])⟩,⟨(some 21),(some (17,false)),(.mv (.t 0))⟩,⟨(some 22),(some (17,false)),(.mv (.t 5))⟩,⟨(some 23),(some (17,false)),(.call 13 [(.t 21),(.t 22)])⟩,⟨(some 24),(some (17,false)),(.call 11 [(.t 20),(.t 23)])⟩,⟨(some 25),(some (17,false)),(.mv (.t 24))⟩,⟨(some 26),(some (25,true)),(.mv (.t 0))⟩,⟨(some 27),(some (25,true)),(.mv (.t 5))⟩,⟨(some 28),(some (25,true)),(.call 14 [(.t 26),(.t 27)])⟩,⟨(some 29),(some (25,true)),(.mv (.t 0))⟩,⟨(some 30),(some (25,true)),(.mv (.t 5))⟩,⟨(some 31),(some (25,true)),(.call 15 [(.t 29),(.t 30)])⟩,⟨(some 32),(some (25,true)),(.call 11 [(.t 28),(.t 31)])⟩,⟨(some 33),(some (17,false)),(.pick (.t 25) (.t 32) (.c (.bool false)))⟩,qq 34 (.pick (.t 17) (.c (.bool true)) (.t 33)),qq 4 (.mv (.t 34))]) .ret))))
theorem tr3:trFun Tryz.prog 3=some ⟨35,[.t 4],c3⟩:=by kernel_rfl
set_option maxHeartbeats 32000000 in
theorem ok_L25res:SpecOK Tryz.prog 3 (rdS spL25res):=by
 refine rd_run (env_cons ok_alive5 (env_cons ok_normed (env_cons ok_min (env_cons ok_least (env_cons ok_same5 (env_cons ok_red (env_cons ok_extra (env_nil _)))))))) mixed tr3 ?_ ?_
 ·intro args h h' v hle e
  unfold spL25res at e ⊢
  split at e
  ·split at e
   ·rename_i la h1
    simp only [decRows_mono hle h1];exact e
   ·cases e
  ·cases e
 intro args v h N hG hN
 unfold spL25res at hG
 split at hG
 case h_2=>cases hG
 rename_i n sa
 split at hG
 case h_2=>cases hG
 rename_i la hxa
 split at hG
 case isFalse=>cases hG
 rename_i hm
 obtain ⟨hn,hma⟩:=hm
 cases hG
 refine ⟨by rfl,by simp,?_⟩
 have al:spAlive5 []=some (.bool true):=rfl
 obtain ⟨aA,mA,okA,DA,dA,kA,oA,bA,cA⟩:=normed_any (n:=n) (b:=N+0) hxa hma (fun k b e=>by have:=hN k b e;omega)
 obtain ⟨MA,hMA⟩:∃ M,M=N+dA:=⟨_,rfl⟩
 have eMA:N+0+dA=MA+0:=by omega
 rw [show N+0+dA=MA by omega] at bA
 generalize eHA:DA ++ h=HA at *
 have acA:∀ (d:Nat) (tm:List (Nat × Value)) (V:Value) (K:St -> Prop),@aft (some d) (some (V,DA,dA)) ⟨(⟨tm,h,N+0⟩,K)⟩=K ⟨(d,V) :: tm,HA,MA+0⟩:=fun _ _ _ _=>by rw [<- eMA,<- eHA];exact propext Iff.rfl
 have xA:ExtL N h HA:=fun q hq=>oA q (by omega)
 rcases cA with ⟨rfl,_⟩ | ⟨rfl,fA,rfl,csA,RA⟩
 ·simp only [c3,G0,Nat.reduceAdd]
  simp only [↓R0,R1,simprocAttr,-Int.reduceAbs,flat,al,kA,acA,Bool.not_true,Bool.not_false,Fin,isEnd,resL,res1]
  exact ⟨_,rfl,rfl,xA⟩
 obtain ⟨nn,rfl⟩:=Int.eq_ofNat_of_zero_le fA.1
 have la14:=fA.2.2.1
 have EA:=fit_eqs fA
 have FA:=fit_R fA
 have lA:=nmL_len la
 generalize nmL la=LL at *
 have up:∀ {hp},ExtL MA HA hp -> hle HA hp:=fun he k b e=>by rw [he k (bA k b e)];exact e
 have rowsA:∀ hp',ExtL MA HA hp' -> RowsS hp' (.slice aA la.length la.length) LL csA:=fun hp' he=>RA.mono (up he)
 have xg:=extL_ge (Nat.le_refl MA)
 have xh:ExtL MA HA HA=True:=eq_true fun _ _=>rfl
 have kS0:∀ hp,spSame5 [.slice none 0 0,.slice none 0 0] hp=some (.bool true):=fun hp=>by
  have d0:listAt 1 decN hp (.slice none 0 0)=some []:=rfl
  unfold spSame5
  simp only [d0]
  rw [if_pos (by omega)]
  simp
 have eX:=exF_red EA.chk (by omega) EA.n8
 have rl0:(redL nn LL).length <= 14:=by have:=redS_len nn LL LL.length;unfold redL;omega
 have kRc:redL nn LL=[] \/ redL nn LL ≠ []:=by by_cases x:redL nn LL=[];exact .inl x;exact .inr x
 have kR1:=fun hp' k (he:ExtL MA HA hp')=>intNL_call (b:=k) (red_of (rowsA hp' he) EA.red)
 have kR2:=fun hp' k (he:ExtL MA HA hp')=>intNL_call (b:=k) (extra_of (rowsA hp' he) FA)
 have kN1:=fun hp' k (he:ExtL MA HA hp')=>intNL_nil (b:=k) (red_of (rowsA hp' he) EA.red)
 have kN2:=fun hp' k (he:ExtL MA HA hp')=>intNL_nil (b:=k) (extra_of (rowsA hp' he) FA)
 rw [eX] at kR2 kN2
 have kSr:∀ hp k1 k2,hget hp k1=some ⟨3,1,false,intC (redL nn LL)⟩ -> hget hp k2=some ⟨3,1,false,intC (redL nn LL)⟩ -> spSame5 [.slice (some ⟨k1,0,none⟩) (redL nn LL).length (redL nn LL).length,.slice (some ⟨k2,0,none⟩) (redL nn LL).length (redL nn LL).length] hp=some (.bool true):=fun hp k1 k2 g1 g2=>by
  have d1:=intC_listO g1 (o:=0) (m:=(redL nn LL).length) (c:=(redL nn LL).length) (by omega) (Nat.le_refl _)
  have d2:=intC_listO g2 (o:=0) (m:=(redL nn LL).length) (c:=(redL nn LL).length) (by omega) (Nat.le_refl _)
  unfold spSame5
  simp only [d1,d2]
  rw [if_pos (by omega)]
  simp
 cases tA:togL nn LL with
 | true=>
  have kM1:∀ hp' k,ExtL MA HA hp' -> nwL spMin [.int .i64 nn,.slice aA la.length la.length] hp' k=some (.slice none 0 0,[],0):=fun hp' k he=>min_yes (rowsA hp' he) EA tA
  have eL:leF nn LL=[]:=if_pos tA
  have kM2:∀ hp' k,ExtL MA HA hp' -> nwL spLeast [.int .i64 nn,.slice aA la.length la.length] hp' k=some (.slice none 0 0,[],0):=fun hp' k he=>intNL_nil (least_of (rowsA hp' he) FA) eL
  rcases kRc with z | z
  ·have kN1':=fun hp' k (he:ExtL MA HA hp')=>kN1 hp' k he z
   have kN2':=fun hp' k (he:ExtL MA HA hp')=>kN2 hp' k he z
   simp only [c3,G0,Nat.reduceAdd]
   simp only [↓R0,R1,simprocAttr,-Int.reduceAbs,rdS,flat,al,kA,acA,kM1,kM2,kS0,kN1',kN2',kS0,xg,xh,Nat.zero_add,Bool.not_true,Bool.not_false,Fin,isEnd,resL,res1]
   refine ⟨_,rfl,rfl,fun q hq=>?_⟩
   have nb:∀ d,(MA+d=q)=False:=fun d=>eq_false (by omega)
   try simp only [↓R0,R1,simprocAttr,-Int.reduceAbs,nb]
   exact xA q hq
  ·have kR1':=fun hp' k (he:ExtL MA HA hp')=>kR1 hp' k he z
   have kR2':=fun hp' k (he:ExtL MA HA hp')=>kR2 hp' k he z
   generalize eIC:intC (redL nn LL)=IC at *
   generalize (redL nn LL).length=RL at *
   have kSr':=kSr
   simp only [c3,G0,Nat.reduceAdd]
   simp only [↓R0,R1,simprocAttr,-Int.reduceAbs,rdS,flat,al,kA,acA,kM1,kM2,kS0,kR1',kR2',kSr',xg,xh,Nat.zero_add,Bool.not_true,Bool.not_false,Fin,isEnd,resL,res1]
   refine ⟨_,rfl,rfl,fun q hq=>?_⟩
   have nb:∀ d,(MA+d=q)=False:=fun d=>eq_false (by omega)
   try simp only [↓R0,R1,simprocAttr,-Int.reduceAbs,nb]
   exact xA q hq
 | false=>
  have mR:=minF_R EA.chk tA
  have mLen:=mR.len
  have mPos:=mR.pos EA.n8
  have eL:leF nn LL=leL nn LL LL.length:=if_neg (by rw [tA];simp)
  have eM:=leL_minF nn LL
  have eLn:(leL nn LL LL.length).length=(minF nn LL).length:=by rw [<- eM,List.length_map]
  have kM1:∀ hp' k,ExtL MA HA hp' -> nwL spMin [.int .i64 nn,.slice aA la.length la.length] hp' k=some (.slice (some ⟨k,0,none⟩) (minF nn LL).length ((minF nn LL).length+(minS nn LL LL.length).2),[(k,some ⟨3,1,false,intZ (minF nn LL ++ List.replicate (minS nn LL LL.length).2 0)⟩)],1):=fun hp' k he=>min_no (rowsA hp' he) EA tA
  have kM2:∀ hp' k,ExtL MA HA hp' -> nwL spLeast [.int .i64 nn,.slice aA la.length la.length] hp' k=some (.slice (some ⟨k,0,none⟩) (minF nn LL).length (minF nn LL).length,[(k,some ⟨3,1,false,intC (leL nn LL LL.length)⟩)],1):=fun hp' k he=>by
   have:=intNL_call (b:=k) (least_of (rowsA hp' he) FA) (by rw [eL];intro e;rw [e] at eLn;simp only [List.length_nil] at eLn;omega)
   rw [eL,eLn] at this
   exact this
  have kSm:∀ hp k1 k2,hget hp k1=some ⟨3,1,false,intZ (minF nn LL ++ List.replicate (minS nn LL LL.length).2 0)⟩ -> hget hp k2=some ⟨3,1,false,intC (leL nn LL LL.length)⟩ -> spSame5 [.slice (some ⟨k1,0,none⟩) (minF nn LL).length ((minF nn LL).length+(minS nn LL LL.length).2),.slice (some ⟨k2,0,none⟩) (minF nn LL).length (minF nn LL).length] hp=some (.bool true):=fun hp k1 k2 g1 g2=>by
   have d1:=intZ_list (c:=(minF nn LL).length+(minS nn LL LL.length).2) g1 (by omega)
   have d2:=intC_listO g2 (o:=0) (m:=(minF nn LL).length) (c:=(minF nn LL).length) (by rw [eLn];omega) (Nat.le_refl _)
   rw [List.drop_zero,List.take_of_length_le (by omega),eM] at d2
   unfold spSame5
   simp only [d1,d2]
   rw [if_pos (by omega)]
   simp
  generalize (minS nn LL LL.length).2=Z at *
  generalize (minF nn LL).length=ML at *
  generalize intZ (minF nn LL ++ List.replicate Z 0)=CZ at *
  generalize intC (leL nn LL LL.length)=CL at *
  rcases kRc with z | z
  ·have kN1':=fun hp' k (he:ExtL MA HA hp')=>kN1 hp' k he z
   have kN2':=fun hp' k (he:ExtL MA HA hp')=>kN2 hp' k he z
   simp only [c3,G0,Nat.reduceAdd]
   simp only [↓R0,R1,simprocAttr,-Int.reduceAbs,rdS,flat,al,kA,acA,kM1,kM2,kSm,kN1',kN2',kS0,xg,xh,Nat.zero_add,Bool.not_true,Bool.not_false,Fin,isEnd,resL,res1]
   refine ⟨_,rfl,rfl,fun q hq=>?_⟩
   have nb:∀ d,(MA+d=q)=False:=fun d=>eq_false (by omega)
   try simp only [↓R0,R1,simprocAttr,-Int.reduceAbs,nb]
   exact xA q hq
  ·have kR1':=fun hp' k (he:ExtL MA HA hp')=>kR1 hp' k he z
   have kR2':=fun hp' k (he:ExtL MA HA hp')=>kR2 hp' k he z
   generalize eIC:intC (redL nn LL)=IC at *
   generalize (redL nn LL).length=RL at *
   have kSr':=kSr
   simp only [c3,G0,Nat.reduceAdd]
   simp only [↓R0,R1,simprocAttr,-Int.reduceAbs,rdS,flat,al,kA,acA,kM1,kM2,kSm,kR1',kR2',kSr',xg,xh,Nat.zero_add,Bool.not_true,Bool.not_false,Fin,isEnd,resL,res1]
   refine ⟨_,rfl,rfl,fun q hq=>?_⟩
   have nb:∀ d,(MA+d=q)=False:=fun d=>eq_false (by omega)
   try simp only [↓R0,R1,simprocAttr,-Int.reduceAbs,nb]
   exact xA q hq
theorem fr_L25res {h:Heap} {N:Nat} {n:Int} {a:Value} {la:List EqR} (z:-9223372036854775808 <= n /\ n <= 9223372036854775807) (ea:decRows h a=some la) (ma:la.length <= maxLen):rdS spL25res [.int .i64 n,a] h N=some (.bool true,[],0):=by
 unfold rdS spL25res
 simp only [ea]
 rw [if_pos ⟨z,Nat.le_trans ma (by decide)⟩];rfl
end Go.Eng
end
