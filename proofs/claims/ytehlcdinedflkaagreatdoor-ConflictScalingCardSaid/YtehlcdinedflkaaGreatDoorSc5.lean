/-
  A part of the proof: the machine, the contracts of the functions and the plain laws, merged from smaller texts.
-/
import Derived.Test.YtehlcdinedflkaaGreatDoorSc4
import Derived.RowKit3
import Derived.ChangeSame
import Derived.ReadAgain
import Derived.Deep.Slices
import Derived.WideShapes
set_option linter.unusedVariables false
set_option linter.unusedSimpArgs false
set_option linter.unusedSectionVars false
section
set_option maxRecDepth 20000
namespace Go.Eng
open Go Go.Proofs Go.IntWalk
structure EqsOK (n : Nat) (l : List EqR) : Prop where
 n8 : n <= 8
 len : l.length <= 50
 co : ∀ e ∈ l,e.coef.length = n /\ (∀ q ∈ e.coef,q.ok 100) /\ e.rhs.ok 100
theorem EqsOK.sys {n : Nat} {l l' : List EqR} (H : EqsOK n l) (hl : l'.length <= 100) (h : ∀ e ∈ l',e ∈ l \/ ∃ e0 ∈ l,e = bump e0) : SysOK n l' := fun _ => by
 have all : ∀ e ∈ l',e.coef.length = n /\ (∀ q ∈ e.coef,q.ok 100) /\ e.rhs.ok 120 := fun e he => by
  rcases h e he with h | ⟨e0,h,rfl⟩
  ·obtain ⟨a,b,c⟩ := H.co e h
   exact ⟨a,b,c.le (by omega)⟩
  ·obtain ⟨a,b,c⟩ := H.co e0 h
   exact ⟨a,b,(RQ.of_ok ((c.rb.add (RB.int (z := 1) (k := 1) (bl_length_le.2 (by decide)) (Nat.le_refl _)) (k := 120) (by omega)))).le (by omega)⟩
 refine ⟨by omega,by have := H.n8; omega,hl,fun e he => ?_,fun e he => ⟨fun q hq => ((all e he).2.1 q hq).le (by omega),(all e he).2.2.le (by omega)⟩⟩
 rw [Int.toNat_natCast]
 exact (all e he).1
theorem selL_mem {l : List EqR} {ps : List Int} (h : ∀ p ∈ ps,0 <= p /\ p.toNat < l.length) : ∀ e ∈ selL l ps,e ∈ l := by
 intro e he
 unfold selL at he
 obtain ⟨p,hp,rfl⟩ := List.mem_map.1 he
 exact eqAt_mem (h p hp).2
theorem tog_nil {n : Nat} (hn : n <= 8) : togL n [] = true := by
 have c : chkL n [] = 0 := chk0_of (by omega) (by simp) (by simp)
 rw [tog_con c]
 exact ⟨fun j => if j = n then -1 else 0,fun i hi => absurd hi (Nat.not_lt_zero _),if_pos rfl⟩
theorem EqsOK.min {n : Nat} {l : List EqR} (H : EqsOK n l) : MinOK n l where
 len := by have := H.len; omega
 sys := H.sys (by have := H.len; omega) fun e he => .inl he
 sub := fun ps hp hl => H.sys (by unfold selL; rw [List.length_map]; have := H.len; omega) fun e he => .inl (selL_mem hp e he)
 nil := tog_nil H.n8
theorem EqsOK.red {n : Nat} {l : List EqR} (H : EqsOK n l) : RdnOK n l where
 len := by have := H.len; omega
 sys := fun i hi => H.sys (by rw [List.length_take]; have := H.len; omega) fun e he => .inl (List.mem_of_mem_take he)
 fol := fun i hi => by
  have hr := (H.co _ (eqAt_mem hi)).2.2
  have hl := H.len
  refine ⟨by rw [List.length_take]; omega,H.sys (by rw [List.length_append,List.length_take,List.length_singleton]; omega) fun e he => ?_,H.sys (by rw [List.length_append,List.length_take,List.length_singleton]; omega) fun e he => ?_,Nat.le_trans hr.1 (by omega),Nat.le_trans hr.2 (by omega)⟩
  ·rw [List.mem_append,List.mem_singleton] at he
   rcases he with he | rfl
   ·exact .inl (List.mem_of_mem_take he)
   ·exact .inl (eqAt_mem hi)
  ·rw [List.mem_append,List.mem_singleton] at he
   rcases he with he | rfl
   ·exact .inl (List.mem_of_mem_take he)
   ·exact .inr ⟨_,eqAt_mem hi,rfl⟩
theorem flat5 : ∀ {css : List (List Value)} {i : Nat} {ec : List Value},(∀ c ∈ css,c.length = 5) -> css[i]? = some ec -> (css.flatten.drop (i * 5)).take 5 = ec
 | [],i,ec,_,e => by simp at e
 | c :: css,0,ec,h,e => by
  simp only [List.getElem?_cons_zero,Option.some.injEq] at e
  subst e
  have := h c (by simp)
  rw [List.flatten_cons,Nat.zero_mul,List.drop_zero,List.take_append_of_le_length (by omega),List.take_of_length_le (by omega)]
 | c :: css,i + 1,ec,h,e => by
  simp only [List.getElem?_cons_succ] at e
  have := h c (by simp)
  rw [List.flatten_cons,Nat.succ_mul,List.drop_append,List.drop_of_length_le (by omega),this,List.nil_append,Nat.add_sub_cancel]
  exact flat5 (fun c hc => h c (by simp [hc])) e
theorem flat5_len : ∀ {css : List (List Value)},(∀ c ∈ css,c.length = 5) -> css.flatten.length = css.length * 5
 | [],_ => rfl
 | c :: css,h => by
  rw [List.flatten_cons,List.length_append,h c (by simp),flat5_len (fun c hc => h c (by simp [hc])),List.length_cons]; omega
theorem RowsS.lit {hp : Heap} {k0 e s c : Nat} {x : Bool} {css : List (List Value)} {l : List EqR} (hk : hget hp k0 = some ⟨e,s,x,css.flatten⟩) (hc : l.length <= c) (hl : css.length = l.length)
  (hd : ∀ (i : Nat) (ec : List Value) (q : EqR),css[i]? = some ec -> l[i]? = some q -> decEq hp ec = some q) (hs : ∀ ec ∈ css,ec.all (selfOK hp) = true) (h5 : ∀ c ∈ css,c.length = 5) :
  RowsS hp (.slice (some ⟨k0,0,none⟩) l.length c) l css.flatten := by
 have fl := flat5_len h5
 rw [hl] at fl
 have la : Go.Eng.lay 5 hp (.slice (some ⟨k0,0,none⟩) l.length c) = some css.flatten := by
  unfold Go.Eng.lay
  cases e : l.length with
  | zero =>
   rw [e] at fl hc
   simp only [hk]
   rw [if_pos ⟨hc,by omega⟩,List.drop_zero,List.take_of_length_le (by omega)]
  | succ n =>
   rw [e] at fl hc
   simp only [hk]
   rw [if_pos ⟨hc,by omega⟩,List.drop_zero,List.take_of_length_le (by omega)]
 refine ⟨la,?_,?_⟩
 ·unfold decRows listAt
  rw [la,Option.bind_some]
  refine many_some rfl fun i q hq => ?_
  have hi : i < css.length := by rw [hl]; exact (List.getElem?_eq_some_iff.1 hq).1
  rw [flat5 h5 (List.getElem?_eq_getElem hi)]
  exact hd i _ q (List.getElem?_eq_getElem hi) hq
 ·rw [List.all_eq_true]
  intro v hv
  obtain ⟨ec,h1,h2⟩ := List.mem_flatten.1 hv
  have := hs ec h1
  rw [List.all_eq_true] at this
  exact this v h2
theorem eqV_self {hp : Heap} {k n : Nat} {r : Rat} {b : Blk} (hk : hget hp k = some b) : (eqV k n r).all (selfOK hp) = true := by
 show (selfOK hp (.slice (some ⟨k,0,none⟩) n n) && (eqOf [] r).tl.all (selfOK hp)) = true
 rw [Bool.and_eq_true]
 refine ⟨?_,rfl⟩
 simp [selfOK,slOK,hk]
theorem RB_small {z : Int} (h : -1000 <= z /\ z <= 1000) : RB (z : Rat) 4 := RB.int (bl_length_le.2 (by
 have : z.natAbs <= 1000 := by omega
 exact Nat.lt_of_le_of_lt this (by decide))) (by omega)
theorem exOK {l : List (List Rat × Rat)} (hl : l.length <= 50) (h : ∀ x ∈ l,x.1.length = 2 /\ (∀ q ∈ x.1,RB q 4) /\ RB x.2 4) : EqsOK 2 (exL l) where
 n8 := by omega
 len := by unfold exL; rw [List.length_map]; exact hl
 co := fun e he => by
  obtain ⟨x,hx,rfl⟩ := List.mem_map.1 he
  obtain ⟨a,b,c⟩ := h x hx
  refine ⟨by unfold eqOf; rw [List.length_map]; exact a,fun q hq => ?_,(RQ.of_ok c).le (by omega)⟩
  obtain ⟨y,hy,rfl⟩ := List.mem_map.1 hq
  exact (RQ.of_ok (b y hy)).le (by omega)
theorem okA : EqsOK 2 (exL exA) := exOK (by decide) (by decide +kernel)
theorem okB : EqsOK 2 (exL exB) := exOK (by decide) (by decide +kernel)
theorem rowsA {hp : Heap} {k k1 k2 k3 : Nat} (h : hget hp k = some ⟨40,5,true,eqV k1 2 1 ++ (eqV k2 2 2 ++ eqV k3 2 4)⟩) (h1 : hget hp k1 = some ⟨38,3,false,ratC [1,0]⟩) (h2 : hget hp k2 = some ⟨38,3,false,ratC [0,1]⟩) (h3 : hget hp k3 = some ⟨38,3,false,ratC [1,1]⟩) :
  RowsS hp (.slice (some ⟨k,0,none⟩) 3 3) (exL exA) (eqV k1 2 1 ++ (eqV k2 2 2 ++ eqV k3 2 4)) := by
 have := RowsS.lit (css := [eqV k1 2 1,eqV k2 2 2,eqV k3 2 4]) (l := exL exA) (c := 3) (k0 := k) (hp := hp) (e := 40) (s := 5) (x := true) (by rw [h]; rfl) (by decide) rfl ?_ ?_ ?_
 ·exact this
 ·intro i ec q e1 e2
  match i with
  | 0 => cases e1; cases e2; exact decEq_V (c := [1,0]) h1 (by simp)
  | 1 => cases e1; cases e2; exact decEq_V (c := [0,1]) h2 (by simp)
  | 2 => cases e1; cases e2; exact decEq_V (c := [1,1]) h3 (by simp)
  | i + 3 => cases e1
 ·intro ec he
  simp only [List.mem_cons,List.not_mem_nil,or_false] at he
  rcases he with rfl | rfl | rfl
  ·exact eqV_self h1
  ·exact eqV_self h2
  ·exact eqV_self h3
 ·intro ec he
  simp only [List.mem_cons,List.not_mem_nil,or_false] at he
  rcases he with rfl | rfl | rfl <;> rfl
theorem rowsB {hp : Heap} {k k1 k2 k3 k4 : Nat} (h : hget hp k = some ⟨40,5,true,eqV k1 2 1 ++ (eqV k2 2 2 ++ (eqV k3 2 0 ++ eqV k4 2 3))⟩) (h1 : hget hp k1 = some ⟨38,3,false,ratC [1,0]⟩) (h2 : hget hp k2 = some ⟨38,3,false,ratC [2,0]⟩) (h3 : hget hp k3 = some ⟨38,3,false,ratC [0,1]⟩) (h4 : hget hp k4 = some ⟨38,3,false,ratC [1,0]⟩) :
  RowsS hp (.slice (some ⟨k,0,none⟩) 4 4) (exL exB) (eqV k1 2 1 ++ (eqV k2 2 2 ++ (eqV k3 2 0 ++ eqV k4 2 3))) := by
 have := RowsS.lit (css := [eqV k1 2 1,eqV k2 2 2,eqV k3 2 0,eqV k4 2 3]) (l := exL exB) (c := 4) (k0 := k) (hp := hp) (e := 40) (s := 5) (x := true) (by rw [h]; rfl) (by decide) rfl ?_ ?_ ?_
 ·exact this
 ·intro i ec q e1 e2
  match i with
  | 0 => cases e1; cases e2; exact decEq_V (c := [1,0]) h1 (by simp)
  | 1 => cases e1; cases e2; exact decEq_V (c := [2,0]) h2 (by simp)
  | 2 => cases e1; cases e2; exact decEq_V (c := [0,1]) h3 (by simp)
  | 3 => cases e1; cases e2; exact decEq_V (c := [1,0]) h4 (by simp)
  | i + 4 => cases e1
 ·intro ec he
  simp only [List.mem_cons,List.not_mem_nil,or_false] at he
  rcases he with rfl | rfl | rfl | rfl
  ·exact eqV_self h1
  ·exact eqV_self h2
  ·exact eqV_self h3
  ·exact eqV_self h4
 ·intro ec he
  simp only [List.mem_cons,List.not_mem_nil,or_false] at he
  rcases he with rfl | rfl | rfl | rfl <;> rfl
theorem row_at {h : Heap} {k el sz : Nat} {xb : Bool} {r x y : Int} {r' x' y' : Rat} (hb : hget h k = some ⟨el,sz,xb,[.int .i64 x,.int .i64 y]⟩) (hl : (-1000 <= r /\ r <= 1000) /\ (-1000 <= x /\ x <= 1000) /\ -1000 <= y /\ y <= 1000) (e1 : (r : Rat) = r') (e2 : (x : Rat) = x') (e3 : (y : Rat) = y') :
  spRow [.int .i64 r,.slice (some ⟨k,0,none⟩) 2 2] h = some (fun k => .agg ⟨eqV k 2 r'⟩,⟨38,3,false,ratC [x',y']⟩) := by
 subst e1; subst e2; subst e3
 unfold spRow
 simp only [hb]
 exact if_pos hl
theorem same_at {h : Heap} {k k' e s e' s' c c' : Nat} {x x' : Bool} {L Z : List Int} (h1 : hget h k = some ⟨e,s,x,intZ (L ++ Z)⟩) (h2 : hget h k' = some ⟨e',s',x',intZ L⟩) (hc : L.length <= c) (hc' : L.length <= c') (hl : L.length <= 1000) :
  spSame5 [.slice (some ⟨k,0,none⟩) L.length c,.slice (some ⟨k',0,none⟩) L.length c'] h = some (.bool true) := by
 unfold spSame5
 simp only [intZ_list h1 hc,intZ_list (Z := []) (by rw [List.append_nil]; exact h2) hc']
 rw [if_pos ⟨hl,hl⟩]
 simp
def spAlive5 : List Value -> Option Value
 | [] => some (.bool true)
 | _ => none
def c9 : ICode :=
 (.seq (.reg [qq 0 (.mv (.c (.bool false)))]) (.seq (.reg [qq 3 (.bslice 2 1 2 [(.int .i64 0),(.int .i64 0)] [(0,1,(ci 1)),(1,1,(ci 0))]),qq 4 (.call 25 [(ci 1),(.t 3)]),qq 5 (.bslice 2 1 2 [(.int .i64 0),(.int .i64 0)] [(0,1,(ci 0)),(1,1,(ci 1))]),qq 6 (.call 25 [(ci 2),(.t 5)]),qq 7 (.bslice 2 1 2 [(.int .i64 0),(.int .i64 0)] [(0,1,(ci 1)),(1,1,(ci 1))]),qq 8 (.call 25 [(ci 4),(.t 7)]),qq 9 (.bslice 40 5 3 [(.slice none 0 0),(.bool false),e0,e0,(.int .i64 0),(.slice none 0 0),(.bool false),e0,e0,(.int .i64 0),(.slice none 0 0),(.bool false),e0,e0,(.int .i64 0)] [(0,5,(.t 4)),(5,5,(.t 6)),(10,5,(.t 8))]),qq 10 (.call 12 [(ci 2),(.t 9)]),qq 1 (.mv (.t 10))]) (.seq (.reg [qq 11 (.bslice 2 1 2 [(.int .i64 0),(.int .i64 0)] [(0,1,(ci 1)),(1,1,(ci 0))]),qq 12 (.call 25 [(ci 1),(.t 11)]),qq 13 (.bslice 2 1 2 [(.int .i64 0),(.int .i64 0)] [(0,1,(ci 2)),(1,1,(ci 0))]),qq 14 (.call 25 [(ci 2),(.t 13)]),qq 15 (.bslice 2 1 2 [(.int .i64 0),(.int .i64 0)] [(0,1,(ci 0)),(1,1,(ci 1))]),qq 16 (.call 25 [(ci 0),(.t 15)]),qq 17 (.bslice 2 1 2 [(.int .i64 0),(.int .i64 0)] [(0,1,(ci 1)),(1,1,(ci 0))]),qq 18 (.call 25 [(ci 3),(.t 17)]),qq 19 (.bslice 40 5 4 [(.slice none 0 0),(.bool false),e0,e0,(.int .i64 0),(.slice none 0 0),(.bool false),e0,e0,(.int .i64 0),(.slice none 0 0),(.bool false),e0,e0,(.int .i64 0),(.slice none 0 0),(.bool false),e0,e0,(.int .i64 0)] [(0,5,(.t 12)),(5,5,(.t 14)),(10,5,(.t 16)),(15,5,(.t 18))]),qq 2 (.mv (.t 19))]) (.seq (.reg [qq 20 (.mv (.t 1)),qq 21 (.bslice 3 1 3 [(.int .i64 0),(.int .i64 0),(.int .i64 0)] [(0,1,(ci 0)),(1,1,(ci 1)),(2,1,(ci 2))]),qq 22 (.call 11 [(.t 20),(.t 21)]),qq 23 (.mv (.t 22)),⟨(some 24),(some (23,true)),(.mv (.t 2))⟩,⟨(some 25),(some (23,true)),(.call 14 [(ci 2),(.t 24)])⟩,⟨(some 26),(some (23,true)),(.bslice 3 1 1 [(.int .i64 0)] [(0,1,(ci 1))])⟩,⟨(some 27),(some (23,true)),(.call 11 [(.t 25),(.t 26)])⟩,qq 28 (.pick (.t 23) (.t 27) (.c (.bool false))),qq 29 (.mv (.t 28)),⟨(some 30),(some (29,true)),(.mv (.t 2))⟩,⟨(some 31),(some (29,true)),(.call 12 [(ci 2),(.t 30)])⟩,⟨(some 32),(some (29,true)),(.bslice 3 1 2 [(.int .i64 0),(.int .i64 0)] [(0,1,(ci 1)),(1,1,(ci 3))])⟩,⟨(some 33),(some (29,true)),(.call 11 [(.t 31),(.t 32)])⟩,qq 34 (.pick (.t 29) (.t 33) (.c (.bool false))),qq 0 (.mv (.t 34))]) .ret))))
theorem tr9 : trFun Tryz.prog 9 = some ⟨35,[.t 0],c9⟩ := by kernel_rfl
set_option maxHeartbeats 16000000 in
theorem ok_alive5 : SpecOK Tryz.prog 9 (flat spAlive5) := by
 refine flat_run (env_cons ok_row (env_cons ok_min (env_cons ok_same5 (env_cons ok_red (env_nil _))))) mixed tr9 ?_
 intro args v h N hG
 unfold spAlive5 at hG
 split at hG
 case h_2 => cases hG
 cases hG
 refine ⟨rfl,by simp,?_⟩
 have r1 : ∀ hp k,hget hp k = some ⟨2,1,true,[.int .i64 1,.int .i64 0]⟩ -> spRow [.int .i64 1,.slice (some ⟨k,0,none⟩) 2 2] hp = some (fun k => .agg ⟨eqV k 2 1⟩,⟨38,3,false,ratC [1,0]⟩) := fun hp k hk => row_at hk (by omega) rfl rfl rfl
 have r2 : ∀ hp k,hget hp k = some ⟨2,1,true,[.int .i64 0,.int .i64 1]⟩ -> spRow [.int .i64 2,.slice (some ⟨k,0,none⟩) 2 2] hp = some (fun k => .agg ⟨eqV k 2 2⟩,⟨38,3,false,ratC [0,1]⟩) := fun hp k hk => row_at hk (by omega) rfl rfl rfl
 have r3 : ∀ hp k,hget hp k = some ⟨2,1,true,[.int .i64 1,.int .i64 1]⟩ -> spRow [.int .i64 4,.slice (some ⟨k,0,none⟩) 2 2] hp = some (fun k => .agg ⟨eqV k 2 4⟩,⟨38,3,false,ratC [1,1]⟩) := fun hp k hk => row_at hk (by omega) rfl rfl rfl
 have r4 : ∀ hp k,hget hp k = some ⟨2,1,true,[.int .i64 2,.int .i64 0]⟩ -> spRow [.int .i64 2,.slice (some ⟨k,0,none⟩) 2 2] hp = some (fun k => .agg ⟨eqV k 2 2⟩,⟨38,3,false,ratC [2,0]⟩) := fun hp k hk => row_at hk (by omega) rfl rfl rfl
 have r5 : ∀ hp k,hget hp k = some ⟨2,1,true,[.int .i64 0,.int .i64 1]⟩ -> spRow [.int .i64 0,.slice (some ⟨k,0,none⟩) 2 2] hp = some (fun k => .agg ⟨eqV k 2 0⟩,⟨38,3,false,ratC [0,1]⟩) := fun hp k hk => row_at hk (by omega) rfl rfl rfl
 have r6 : ∀ hp k,hget hp k = some ⟨2,1,true,[.int .i64 1,.int .i64 0]⟩ -> spRow [.int .i64 3,.slice (some ⟨k,0,none⟩) 2 2] hp = some (fun k => .agg ⟨eqV k 2 3⟩,⟨38,3,false,ratC [1,0]⟩) := fun hp k hk => row_at hk (by omega) rfl rfl rfl
 have z3 : ∀ a b c : List Value,a.length = 5 -> b.length = 5 -> c.length = 5 -> setR (setR (setR [.slice none 0 0,.bool false,.string ⟨⟨[]⟩⟩,.string ⟨⟨[]⟩⟩,.int .i64 0,.slice none 0 0,.bool false,.string ⟨⟨[]⟩⟩,.string ⟨⟨[]⟩⟩,.int .i64 0,.slice none 0 0,.bool false,.string ⟨⟨[]⟩⟩,.string ⟨⟨[]⟩⟩,.int .i64 0] 0 a) 5 b) 10 c = a ++ (b ++ c) := fun a b c ha hb hc => by
  match a,ha,b,hb,c,hc with
  | [_,_,_,_,_],_,[_,_,_,_,_],_,[_,_,_,_,_],_ => rfl
 have z4 : ∀ a b c d : List Value,a.length = 5 -> b.length = 5 -> c.length = 5 -> d.length = 5 -> setR (setR (setR (setR [.slice none 0 0,.bool false,.string ⟨⟨[]⟩⟩,.string ⟨⟨[]⟩⟩,.int .i64 0,.slice none 0 0,.bool false,.string ⟨⟨[]⟩⟩,.string ⟨⟨[]⟩⟩,.int .i64 0,.slice none 0 0,.bool false,.string ⟨⟨[]⟩⟩,.string ⟨⟨[]⟩⟩,.int .i64 0,.slice none 0 0,.bool false,.string ⟨⟨[]⟩⟩,.string ⟨⟨[]⟩⟩,.int .i64 0] 0 a) 5 b) 10 c) 15 d = a ++ (b ++ (c ++ d)) := fun a b c d ha hb hc hd => by
  match a,ha,b,hb,c,hc,d,hd with
  | [_,_,_,_,_],_,[_,_,_,_,_],_,[_,_,_,_,_],_,[_,_,_,_,_],_ => rfl
 simp only [c9,G0,Nat.reduceAdd]
 simp only [↓R0,R1,simprocAttr,-Int.reduceAbs,nwS,r1,r2,r3,r4,r5,r6,eqV_len,eqV_ok,setR_length,z3,z4]
 have km : ∀ hp k,hget hp (N + 6) = some ⟨40,5,true,eqV (N + 1) 2 1 ++ (eqV (N + 3) 2 2 ++ eqV (N + 5) 2 4)⟩ -> hget hp (N + 1) = some ⟨38,3,false,ratC [1,0]⟩ -> hget hp (N + 3) = some ⟨38,3,false,ratC [0,1]⟩ -> hget hp (N + 5) = some ⟨38,3,false,ratC [1,1]⟩ ->
   nwL spMin [.int .i64 2,.slice (some ⟨N + 6,0,none⟩) 3 3] hp k = some (.slice (some ⟨k,0,none⟩) 3 3,[(k,some ⟨3,1,false,intZ [0,1,2]⟩)],1) := fun hp k g0 g1 g2 g3 => by
  have e := min_of (n := ((2 : Nat) : Int)) (rowsA g0 g1 g2 g3) okA.min
  unfold nwL
  rw [show spMin [.int .i64 2,.slice (some ⟨N + 6,0,none⟩) 3 3] hp = some (minNL 2 (exL exA)) from e]
  unfold minNL
  rw [if_neg (by rw [togA]; simp),show (exL exA).length = 3 from rfl,minA]
  rfl
 have kb : ∀ hp k,hget hp (N + 16) = some ⟨40,5,true,eqV (N + 9) 2 1 ++ (eqV (N + 11) 2 2 ++ (eqV (N + 13) 2 0 ++ eqV (N + 15) 2 3))⟩ -> hget hp (N + 9) = some ⟨38,3,false,ratC [1,0]⟩ -> hget hp (N + 11) = some ⟨38,3,false,ratC [2,0]⟩ -> hget hp (N + 13) = some ⟨38,3,false,ratC [0,1]⟩ -> hget hp (N + 15) = some ⟨38,3,false,ratC [1,0]⟩ ->
   nwL spMin [.int .i64 2,.slice (some ⟨N + 16,0,none⟩) 4 4] hp k = some (.slice (some ⟨k,0,none⟩) 2 3,[(k,some ⟨3,1,false,intZ [1,3,0]⟩)],1) := fun hp k g0 g1 g2 g3 g4 => by
  have e := min_of (n := ((2 : Nat) : Int)) (rowsB g0 g1 g2 g3 g4) okB.min
  unfold nwL
  rw [show spMin [.int .i64 2,.slice (some ⟨N + 16,0,none⟩) 4 4] hp = some (minNL 2 (exL exB)) from e]
  unfold minNL
  rw [if_neg (by rw [togB]; simp),show (exL exB).length = 4 from rfl,minB]
  rfl
 have kr : ∀ hp k,hget hp (N + 16) = some ⟨40,5,true,eqV (N + 9) 2 1 ++ (eqV (N + 11) 2 2 ++ (eqV (N + 13) 2 0 ++ eqV (N + 15) 2 3))⟩ -> hget hp (N + 9) = some ⟨38,3,false,ratC [1,0]⟩ -> hget hp (N + 11) = some ⟨38,3,false,ratC [2,0]⟩ -> hget hp (N + 13) = some ⟨38,3,false,ratC [0,1]⟩ -> hget hp (N + 15) = some ⟨38,3,false,ratC [1,0]⟩ ->
   nwL spRed [.int .i64 2,.slice (some ⟨N + 16,0,none⟩) 4 4] hp k = some (.slice (some ⟨k,0,none⟩) 1 1,[(k,some ⟨3,1,false,intZ [1]⟩)],1) := fun hp k g0 g1 g2 g3 g4 => by
  have e := red_of (n := ((2 : Nat) : Int)) (rowsB g0 g1 g2 g3 g4) okB.red
  unfold nwL
  rw [show spRed [.int .i64 2,.slice (some ⟨N + 16,0,none⟩) 4 4] hp = some (intNL (redL 2 (exL exB))) from e,redB]
  rfl
 have k1 : ∀ hp,hget hp (N + 7) = some ⟨3,1,false,intZ [0,1,2]⟩ -> hget hp (N + 17) = some ⟨3,1,true,[.int .i64 0,.int .i64 1,.int .i64 2]⟩ -> spSame5 [.slice (some ⟨N + 7,0,none⟩) 3 3,.slice (some ⟨N + 17,0,none⟩) 3 3] hp = some (.bool true) := fun hp g0 g1 =>
  same_at (L := [0,1,2]) (Z := []) g0 g1 (by decide) (by decide) (by decide)
 have k2 : ∀ hp,hget hp (N + 18) = some ⟨3,1,false,intZ [1]⟩ -> hget hp (N + 19) = some ⟨3,1,true,[.int .i64 1]⟩ -> spSame5 [.slice (some ⟨N + 18,0,none⟩) 1 1,.slice (some ⟨N + 19,0,none⟩) 1 1] hp = some (.bool true) := fun hp g0 g1 =>
  same_at (L := [1]) (Z := []) g0 g1 (by decide) (by decide) (by decide)
 have k3 : ∀ hp,hget hp (N + 20) = some ⟨3,1,false,intZ [1,3,0]⟩ -> hget hp (N + 21) = some ⟨3,1,true,[.int .i64 1,.int .i64 3]⟩ -> spSame5 [.slice (some ⟨N + 20,0,none⟩) 2 3,.slice (some ⟨N + 21,0,none⟩) 2 2] hp = some (.bool true) := fun hp g0 g1 =>
  same_at (L := [1,3]) (Z := [0]) g0 g1 (by decide) (by decide) (by decide)
 simp only [↓R0,R1,simprocAttr,-Int.reduceAbs,nwS,rdS,r1,r2,r3,r4,r5,r6,eqV_len,eqV_ok,setR_length,z3 (eqV (N + 1) 2 1) (eqV (N + 3) 2 2) (eqV (N + 5) 2 4) rfl rfl rfl,z4 (eqV (N + 9) 2 1) (eqV (N + 11) 2 2) (eqV (N + 13) 2 0) (eqV (N + 15) 2 3) rfl rfl rfl rfl,km,kb,kr,k1,k2,k3,Fin,isEnd,resL,res1]
 exact ⟨_,rfl,rfl,fun k hk => by simp only [ne_nb hk,if_false]⟩
def fitE (n : Int) (e : EqR) : Prop := (e.coef.length : Int) = n /\ smallQ e.rhs /\ ∀ q ∈ e.coef,smallQ q
def fitS (n : Int) (l : List EqR) : Prop := 0 <= n /\ n <= 8 /\ l.length <= 14 /\ ∀ e ∈ l,fitE n e
noncomputable instance {n : Int} {l : List EqR} : Decidable (fitS n l) := Classical.propDecidable _
noncomputable def spFits : List Value -> Heap -> Option Value
 | [.int .i64 n,sl],h => match decRows h sl with
  | some l => if l.length <= 9223372036854775807 then some (.int .i64 (if fitS n l then 1 else 0)) else none
  | none => none
 | _,_ => none
theorem cell_at {cs L : List Value} {o m i : Nat} (h : (cs.drop o).take m = L) (hi : i < m) : cs[o + i]? = L[i]? := by
 rw [<- h,List.getElem?_take_of_lt hi,List.getElem?_drop]
def c26 : ICode :=
 (.seq (.reg [qq 4 (.mv (ci 0))]) (.seq (.seq (.reg [qq 7 (.mv (.t 0)),qq 8 (.bin .lss (.t 7) (ci 0)),qq 9 (.mv (.t 8)),⟨(some 10),(some (9,false)),(.mv (.t 0))⟩,⟨(some 11),(some (9,false)),(.bin .gtr (.t 10) (ci 8))⟩,qq 12 (.pick (.t 9) (.c (.bool true)) (.t 11)),qq 13 (.mv (.t 12)),⟨(some 14),(some (13,false)),(.mv (.t 1))⟩,⟨(some 15),(some (13,false)),(.lensl (.t 14))⟩,⟨(some 16),(some (13,false)),(.bin .gtr (.t 15) (ci 14))⟩,qq 17 (.pick (.t 13) (.c (.bool true)) (.t 16))]) (.cond (.t 17) (.seq (.reg [qq 4 (.mv (ci 0))]) .ret) .skip)) (.seq (.seq (.reg [qq 5 (.mv (ci 0))]) (.block 0 (.loop (.seq (.seq (.reg [qq 18 (.mv (.t 5)),qq 19 (.mv (.t 1)),qq 20 (.lensl (.t 19)),qq 21 (.bin .lss (.t 18) (.t 20))]) (.cond (.t 21) .skip (.exit 0))) (.seq (.block 1 (.seq (.seq (.reg [qq 24 (.mv (.t 1)),qq 25 (.mv (.t 5)),qq 26 (.ixsl 5 (.t 24) (.t 25)),qq 27 (.faddr 0 (.t 26)),qq 28 (.load false 1 (.t 27)),qq 29 (.lensl (.t 28)),qq 30 (.mv (.t 0)),qq 31 (.bin .neq (.t 29) (.t 30)),qq 32 (.mv (.t 31)),⟨(some 33),(some (32,false)),(.mv (.t 1))⟩,⟨(some 34),(some (32,false)),(.mv (.t 5))⟩,⟨(some 35),(some (32,false)),(.ixsl 5 (.t 33) (.t 34))⟩,⟨(some 36),(some (32,false)),(.faddr 1 (.t 35))⟩,⟨(some 37),(some (32,false)),(.faddr 1 (.t 36))⟩,⟨(some 38),(some (32,false)),(.load false 1 (.t 37))⟩,⟨(some 39),(some (32,false)),(.lens (.t 38))⟩,⟨(some 40),(some (32,false)),(.bin .gtr (.t 39) (ci 4))⟩,qq 41 (.pick (.t 32) (.c (.bool true)) (.t 40)),qq 42 (.mv (.t 41)),⟨(some 43),(some (42,false)),(.mv (.t 1))⟩,⟨(some 44),(some (42,false)),(.mv (.t 5))⟩,⟨(some 45),(some (42,false)),(.ixsl 5 (.t 43) (.t 44))⟩,⟨(some 46),(some (42,false)),(.faddr 1 (.t 45))⟩,⟨(some 47),(some (42,false)),(.faddr 2 (.t 46))⟩,⟨(some 48),(some (42,false)),(.load false 1 (.t 47))⟩,⟨(some 49),(some (42,false)),(.lens (.t 48))⟩,⟨(some 50),(some (42,false)),(.bin .gtr (.t 49) (ci 4))⟩,qq 51 (.pick (.t 42) (.c (.bool true)) (.t 50))]) (.cond (.t 51) (.seq (.reg [qq 4 (.mv (ci 0))]) .ret) .skip)) (.seq (.reg [qq 6 (.mv (ci 0))]) (.block 2 (.loop (.seq (.seq (.reg [qq 52 (.mv (.t 6)),qq 53 (.mv (.t 0)),qq 54 (.bin .lss (.t 52) (.t 53))]) (.cond (.t 54) .skip (.exit 2))) (.seq (.block 3 (.seq (.reg [qq 57 (.mv (.t 1)),qq 58 (.mv (.t 5)),qq 59 (.ixsl 5 (.t 57) (.t 58)),qq 60 (.faddr 0 (.t 59)),qq 61 (.load false 1 (.t 60)),qq 62 (.mv (.t 6)),qq 63 (.ixsl 3 (.t 61) (.t 62)),qq 64 (.faddr 1 (.t 63)),qq 65 (.load false 1 (.t 64)),qq 66 (.lens (.t 65)),qq 67 (.bin .gtr (.t 66) (ci 4)),qq 68 (.mv (.t 67)),⟨(some 69),(some (68,false)),(.mv (.t 1))⟩,⟨(some 70),(some (68,false)),(.mv (.t 5))⟩,⟨(some 71),(some (68,false)),(.ixsl 5 (.t 69) (.t 70))⟩,⟨(some 72),(some (68,false)),(.faddr 0 (.t 71))⟩,⟨(some 73),(some (68,false)),(.load false 1 (.t 72))⟩,⟨(some 74),(some (68,false)),(.mv (.t 6))⟩,⟨(some 75),(some (68,false)),(.ixsl 3 (.t 73) (.t 74))⟩,⟨(some 76),(some (68,false)),(.faddr 2 (.t 75))⟩,⟨(some 77),(some (68,false)),(.load false 1 (.t 76))⟩,⟨(some 78),(some (68,false)),(.lens (.t 77))⟩,⟨(some 79),(some (68,false)),(.bin .gtr (.t 78) (ci 4))⟩,qq 80 (.pick (.t 68) (.c (.bool true)) (.t 79))]) (.cond (.t 80) (.seq (.reg [qq 4 (.mv (ci 0))]) .ret) .skip))) (.reg [qq 55 (.mv (.t 6)),qq 56 (.bin .add (.t 55) (ci 1)),qq 6 (.mv (.t 56))])))))))) (.reg [qq 22 (.mv (.t 5)),qq 23 (.bin .add (.t 22) (ci 1)),qq 5 (.mv (.t 23))])))))) (.seq (.reg [qq 4 (.mv (ci 1))]) .ret))))
theorem tr26 : trFun Tryz.prog 26 = some ⟨81,[.t 4],c26⟩ := by kernel_rfl
set_option maxHeartbeats 16000000 in
theorem ok_fits : SpecOK Tryz.prog 26 (rdS spFits) := by
 refine rd_run (env_nil _) mixed tr26 ?_ ?_
 ·intro args h h' v hle e
  unfold spFits at e ⊢
  split at e
  ·split at e
   ·rename_i l hb
    simp only [decRows_mono hle hb]; exact e
   ·cases e
  ·cases e
 intro args v h N hG hN
 unfold spFits at hG
 split at hG
 case h_2 => cases hG
 rename_i n sl
 split at hG
 case h_2 => cases hG
 rename_i l hx
 split at hG
 case isFalse => cases hG
 rename_i hm
 cases hG
 obtain ⟨a,cc,rfl⟩ := listAt_sl (dec := decEq h) hx
 refine ⟨by rfl,by simp,?_⟩
 by_cases b1 : n < 0
 ·rw [if_neg (fun e : fitS n l => by have := e.1; omega)]
  have g1 : (n < 0) = True := eq_true b1
  simp only [c26,G0,Nat.reduceAdd]
  simp only [↓R0,R1,simprocAttr,-Int.reduceAbs,g1,Fin,isEnd,resL,res1]
  exact ⟨_,rfl,rfl,fun k hk => by simp only [ne_nb hk,if_false]⟩
 have g1 : (n < 0) = False := eq_false b1
 by_cases b2 : n > 8
 ·rw [if_neg (fun e : fitS n l => by have := e.2.1; omega)]
  have g2 : (n > 8) = True := eq_true b2
  simp only [c26,G0,Nat.reduceAdd]
  simp only [↓R0,R1,simprocAttr,-Int.reduceAbs,g1,g2,Fin,isEnd,resL,res1]
  exact ⟨_,rfl,rfl,fun k hk => by simp only [ne_nb hk,if_false]⟩
 have g2 : (n > 8) = False := eq_false b2
 by_cases b3 : l.length > 14
 ·rw [if_neg (fun e : fitS n l => by have := e.2.2.1; omega)]
  have g3 : ((l.length : Int) > 14) = True := eq_true (by omega)
  simp only [c26,G0,Nat.reduceAdd]
  simp only [↓R0,R1,simprocAttr,-Int.reduceAbs,g1,g2,g3,Fin,isEnd,resL,res1]
  exact ⟨_,rfl,rfl,fun k hk => by simp only [ne_nb hk,if_false]⟩
 have g3 : ((l.length : Int) > 14) = False := eq_false (by omega)
 have bad : ∀ {i : Nat},i < l.length -> ¬ fitE n (eqAt l i) -> ¬ fitS n l := fun hi h e => h (e.2.2.2 _ (eqAt_mem hi))
 simp only [c26,G0,Nat.reduceAdd]
 simp only [↓R0,R1,simprocAttr,-Int.reduceAbs,g1,g2,g3]
 refine lp_parts (fun q tm hp nx => ∃ i : Nat,q + i = l.length /\ tmget tm 0 = .int .i64 n /\ tmget tm 1 = .slice a l.length cc /\ tmget tm 5 = .int .i64 i /\ (∀ j e,j < i -> l[j]? = some e -> fitE n e) /\ h = hp /\ nx = N + 0) ?_ l.length
  ⟨0,by omega,?_,?_,?_,fun j e hj => absurd hj (Nat.not_lt_zero j),rfl,rfl⟩
 rotate_left
 all_goals first | (simp only [↓R0,R1,simprocAttr,-Int.reduceAbs]; done) | (simp only [↓R0,R1,simprocAttr,-Int.reduceAbs]; rfl) | skip
 rintro q tm hp nx ⟨i,hq,t0,t1,t5,hall,hhp,hnx⟩
 subst hhp
 rw [hnx]
 clear hnx nx
 have wi : IntKind.i64.wrap ((i : Int) + 1) = ((i + 1 : Nat) : Int) := by rw [i64_in _ (by omega)]; omega
 by_cases c1 : i < l.length
 case neg =>
  have e : i = l.length := by omega
  subst e
  have c1' : ((l.length : Int) < (l.length : Int)) = False := eq_false (by omega)
  have fs : fitS n l := ⟨by omega,by omega,by omega,fun e he => by
   obtain ⟨j,hj⟩ := List.getElem?_of_mem he
   exact hall j e (List.getElem?_eq_some_iff.1 hj).1 hj⟩
  rw [if_pos fs]
  simp only [↓R0,R1,simprocAttr,-Int.reduceAbs,t0,t1,t5,c1',Fin,isEnd,resL,res1]
  exact ⟨_,rfl,rfl,fun q _ => trivial⟩
 have c1' : ((i : Int) < (l.length : Int)) = True := eq_true (by omega)
 obtain ⟨k,off,blk,a',n',c',ea,hb,q1,q2,hn',hl'⟩ := eq_at hx c1
 subst ea
 have ee := eqAt_some c1
 have k0 : blk.cells[off + i * 5 + 0]? = some (.slice a' n' c') := by have := cell_at (i := 0) q2 (by omega); rw [this]; rfl
 have k2 : blk.cells[off + i * 5 + 1 + 1]? = some (.string ⟨⟨(eqAt l i).rhs.n⟩⟩) := by have := cell_at (i := 2) q2 (by omega); rw [show off + i * 5 + 1 + 1 = off + i * 5 + 2 by omega,this]; rfl
 have k3 : blk.cells[off + i * 5 + 1 + 2]? = some (.string ⟨⟨(eqAt l i).rhs.d⟩⟩) := by have := cell_at (i := 3) q2 (by omega); rw [show off + i * 5 + 1 + 2 = off + i * 5 + 3 by omega,this]; rfl
 by_cases d1 : (n' : Int) = n
 case neg =>
  have d1' : ((n' : Int) = n) = False := eq_false d1
  rw [if_neg (bad c1 fun e => d1 (by rw [hn']; exact e.1))]
  simp only [↓R0,R1,simprocAttr,-Int.reduceAbs,t0,t1,t5,c1,c1',hb,k0,d1',Bool.not_false,Fin,isEnd,resL,res1]
  exact ⟨_,rfl,rfl,fun q _ => trivial⟩
 have d1' : ((n' : Int) = n) = True := eq_true d1
 by_cases d2 : (eqAt l i).rhs.n.length > 4
 ·have d2' : (((eqAt l i).rhs.n.length : Int) > 4) = True := eq_true (by omega)
  rw [if_neg (bad c1 fun e => by have := e.2.1.1; omega)]
  simp only [↓R0,R1,simprocAttr,-Int.reduceAbs,t0,t1,t5,c1,c1',hb,k0,k2,d1',d2',Bool.not_true,Bool.not_false,Fin,isEnd,resL,res1]
  exact ⟨_,rfl,rfl,fun q _ => trivial⟩
 have d2' : (((eqAt l i).rhs.n.length : Int) > 4) = False := eq_false (by omega)
 by_cases d3 : (eqAt l i).rhs.d.length > 4
 ·have d3' : (((eqAt l i).rhs.d.length : Int) > 4) = True := eq_true (by omega)
  rw [if_neg (bad c1 fun e => by have := e.2.1.2; omega)]
  simp only [↓R0,R1,simprocAttr,-Int.reduceAbs,t0,t1,t5,c1,c1',hb,k0,k2,k3,d1',d2',d3',Bool.not_true,Bool.not_false,Fin,isEnd,resL,res1]
  exact ⟨_,rfl,rfl,fun q _ => trivial⟩
 have d3' : (((eqAt l i).rhs.d.length : Int) > 4) = False := eq_false (by omega)
 have nn : n = ((eqAt l i).coef.length : Int) := by rw [<- d1,hn']
 simp only [↓R0,R1,simprocAttr,-Int.reduceAbs,t0,t1,t5,c1,c1',hb,k0,k2,k3,d1',d2',d3',Bool.not_true,Bool.not_false]
 refine lp_parts (fun d tm hp nx => ∃ j : Nat,d + j = (eqAt l i).coef.length /\ tmget tm 0 = .int .i64 n /\ tmget tm 1 = .slice (some ⟨k,off,none⟩) l.length cc /\ tmget tm 5 = .int .i64 i /\ tmget tm 6 = .int .i64 j /\ (∀ j',j' < j -> smallQ (rqAt (eqAt l i).coef j')) /\ h = hp /\ nx = N + 0) ?_ (eqAt l i).coef.length
  ⟨0,by omega,?_,?_,?_,?_,fun j hj => absurd hj (Nat.not_lt_zero j),rfl,rfl⟩
 rotate_left
 all_goals first | (simp only [↓R0,R1,simprocAttr,-Int.reduceAbs,t0,t1,t5]; done) | (simp only [↓R0,R1,simprocAttr,-Int.reduceAbs,t0,t1,t5]; rfl) | skip
 clear t0 t1 t5
 rintro d tm hp nx ⟨j,hd,t0,t1,t5,t6,hall2,hhp,hnx⟩
 subst hhp
 rw [hnx]
 clear hnx nx
 have wj : IntKind.i64.wrap ((j : Int) + 1) = ((j + 1 : Nat) : Int) := by rw [i64_in _ (by omega)]; omega
 by_cases cj : j < (eqAt l i).coef.length
 case neg =>
  have cj' : ((j : Int) < n) = False := eq_false (by omega)
  have fe : fitE n (eqAt l i) := ⟨nn.symm,⟨by omega,by omega⟩,fun q hq => by
   obtain ⟨j',hj'⟩ := List.getElem?_of_mem hq
   have hlt := (List.getElem?_eq_some_iff.1 hj').1
   have := hall2 j' (by omega)
   unfold rqAt at this
   rw [hj'] at this
   exact this⟩
  simp only [↓R0,R1,simprocAttr,-Int.reduceAbs,t0,t1,t5,t6,cj',wi]
  refine ⟨q - 1,by omega,i + 1,by omega,rfl,fun j' e hj he => ?_⟩
  by_cases x : j' = i
  ·subst x; rw [ee] at he; cases he; exact fe
  ·exact hall j' e (by omega) he
 have cj' : ((j : Int) < n) = True := eq_true (by omega)
 have cjn : ((j : Int) < (n' : Int)) = True := eq_true (by omega)
 have cjn2 : j < n' := by omega
 rw [hn'] at hl'
 obtain ⟨kk,f2,B2,ea2,b2,q3,q4⟩ := rq_at hl' cj
 subst ea2
 rw [<- hn'] at hl'
 have r1 : B2.cells[f2 + j * 3 + 1]? = some (.string ⟨⟨(rqAt (eqAt l i).coef j).n⟩⟩) := by have := cell_at (i := 1) q4 (by omega); rw [this]; rfl
 have r2 : B2.cells[f2 + j * 3 + 2]? = some (.string ⟨⟨(rqAt (eqAt l i).coef j).d⟩⟩) := by have := cell_at (i := 2) q4 (by omega); rw [this]; rfl
 have qm : rqAt (eqAt l i).coef j ∈ (eqAt l i).coef := by unfold rqAt; rw [List.getElem?_eq_getElem cj]; exact List.getElem_mem cj
 by_cases s1 : (rqAt (eqAt l i).coef j).n.length > 4
 ·have s1' : (((rqAt (eqAt l i).coef j).n.length : Int) > 4) = True := eq_true (by omega)
  rw [if_neg (bad c1 fun e => by have := (e.2.2 _ qm).1; omega)]
  simp only [↓R0,R1,simprocAttr,-Int.reduceAbs,t0,t1,t5,t6,c1,c1',cj',cjn,cjn2,hb,k0,b2,r1,s1',Fin,isEnd,resL,res1]
  exact ⟨_,rfl,rfl,fun q _ => trivial⟩
 have s1' : (((rqAt (eqAt l i).coef j).n.length : Int) > 4) = False := eq_false (by omega)
 by_cases s2 : (rqAt (eqAt l i).coef j).d.length > 4
 ·have s2' : (((rqAt (eqAt l i).coef j).d.length : Int) > 4) = True := eq_true (by omega)
  rw [if_neg (bad c1 fun e => by have := (e.2.2 _ qm).2; omega)]
  simp only [↓R0,R1,simprocAttr,-Int.reduceAbs,t0,t1,t5,t6,c1,c1',cj',cjn,cjn2,hb,k0,b2,r1,r2,s1',s2',Fin,isEnd,resL,res1]
  exact ⟨_,rfl,rfl,fun q _ => trivial⟩
 have s2' : (((rqAt (eqAt l i).coef j).d.length : Int) > 4) = False := eq_false (by omega)
 simp only [↓R0,R1,simprocAttr,-Int.reduceAbs,t0,t1,t5,t6,c1,c1',cj',cjn,cjn2,hb,k0,b2,r1,r2,s1',s2',wj]
 refine ⟨d - 1,by omega,j + 1,by omega,rfl,fun j' hj' => ?_⟩
 by_cases x : j' = j
 ·subst x; exact ⟨by omega,by omega⟩
 ·exact hall2 j' (by omega)
def nmE (e : EqR) : EqR := ⟨e.coef.map fun q => RQ.of q.v,RQ.of e.rhs.v,e.line⟩
def nmL (l : List EqR) : List EqR := l.map nmE
theorem nmL_len (l : List EqR) : (nmL l).length = l.length := by unfold nmL; rw [List.length_map]
theorem nmL_at {l : List EqR} {i : Nat} (h : i < l.length) : eqAt (nmL l) i = nmE (eqAt l i) := by
 unfold eqAt nmL
 rw [List.getElem?_map,List.getElem?_eq_getElem h]; rfl
def nmCo (n : Nat) (ρ : Nat -> Nat) (j : Nat) : Value := if n = 0 then .slice none 0 0 else .slice (some ⟨ρ j,0,none⟩) n n
def nmF (n : Nat) (ρ : Nat -> Nat) (l : List EqR) (j : Nat) : List Value := nmCo n ρ j :: (eqAt l j).tl
def nmNL (n : Nat) (l : List EqR) : NewL :=
 if l = [] then ⟨0,fun _ => .tuple ⟨[.slice none 0 0,.bool true]⟩,fun _ => 0,fun _ => 0,fun _ _ => []⟩
 else ⟨if n = 0 then 1 else l.length + 1,fun σ => .tuple ⟨[.slice (some ⟨σ 0,0,none⟩) l.length l.length,.bool true]⟩,fun i => if i = 0 then 40 else 38,fun i => if i = 0 then 5 else 3,
  fun σ i => if i = 0 then blkC (nmF n (fun j => σ (j + 1)) l) l.length else rqs (eqAt l (i - 1)).coef⟩
noncomputable def spNormed : List Value -> Heap -> Option NewL
 | [.int .i64 n,sl],h => match decRows h sl with
  | some l => if l.length <= 9223372036854775807 then (if fitS n l then some (nmNL n.toNat (nmL l)) else some ⟨0,fun _ => .tuple ⟨[.slice none 0 0,.bool false]⟩,fun _ => 0,fun _ => 0,fun _ _ => []⟩) else none
  | none => none
 | _,_ => none
theorem VRs.blk {β : Emb} {f g : Nat -> List Value} : ∀ {m : Nat},(∀ j,j < m -> VRs β (f j) (g j)) -> VRs β (blkC f m) (blkC g m)
 | 0,_ => .nil
 | m + 1,h => (VRs.blk fun j hj => h j (by omega)).append (h m (by omega))
theorem nmNL_par (n : Nat) (l : List EqR) (h : Heap) : (nmNL n l).Par h := by
 unfold nmNL
 split
 ·exact ⟨fun β σ σ' _ _ => .tup _ _ (.cons _ _ _ _ (.base _ rfl) (.cons _ _ _ _ (.base _ rfl) .nil)),fun β σ σ' _ _ i hi => absurd hi (Nat.not_lt_zero i)⟩
 ·refine ⟨fun β σ σ' b1 _ => .tup _ _ (.cons _ _ _ _ (VR.sl (σ 0) 0 _ _ ⟨σ' 0,0,[]⟩ (b1 0 (by show 0 < if n = 0 then 1 else l.length + 1; split <;> omega))) (.cons _ _ _ _ (.base _ rfl) .nil)),fun β σ σ' b1 _ i hi => ?_⟩
  match i with
  | 0 =>
   show VRs β (blkC (nmF n (fun j => σ (j + 1)) l) l.length) (blkC (nmF n (fun j => σ' (j + 1)) l) l.length)
   refine VRs.blk fun j hj => .cons _ _ _ _ ?_ (VRs.of_base rfl)
   unfold nmCo
   by_cases z : n = 0
   ·rw [if_pos z,if_pos z]; exact .base _ rfl
   ·rw [if_neg z,if_neg z]
    exact VR.sl (σ (j + 1)) 0 _ _ ⟨σ' (j + 1),0,[]⟩ (b1 (j + 1) (by show j + 1 < if n = 0 then 1 else l.length + 1; rw [if_neg z]; omega))
  | i + 1 =>
   show VRs β (rqs (eqAt l i).coef) (rqs (eqAt l i).coef)
   exact VRs.of_base (rqs_base _)
def NmS (hp : Heap) (N M n : Nat) (l : List EqR) (i : Nat) (sl : Value) : Prop :=
 (i = 0 /\ sl = .slice none 0 0) \/ (0 < i /\ ∃ (kL : Nat) (x : Bool) (ρ : Nat -> Nat),sl = .slice (some ⟨kL,0,none⟩) i i /\ hget hp kL = some ⟨40,5,x,blkC (nmF n ρ l) i⟩ /\ N <= kL /\ kL < M /\
  (n ≠ 0 -> (∀ j,j < i -> (∃ y,hget hp (ρ j) = some ⟨38,3,y,rqs (eqAt l j).coef⟩) /\ N <= ρ j /\ ρ j < M /\ ρ j ≠ kL) /\ ∀ j j',j < i -> j' < i -> ρ j = ρ j' -> j = j'))
def CoS (hp : Heap) (N M : Nat) (cs : List RQ) (j : Nat) (co : Value) : Prop :=
 (j = 0 /\ co = .slice none 0 0) \/ (0 < j /\ ∃ (kk : Nat) (x : Bool),co = .slice (some ⟨kk,0,none⟩) j j /\ hget hp kk = some ⟨38,3,x,rqs (cs.take j)⟩ /\ N <= kk /\ kk < M)
theorem updF (ρ : Nat -> Nat) (i v : Nat) : ∃ ρ' : Nat -> Nat,ρ' i = v /\ ∀ j,j ≠ i -> ρ' j = ρ j := ⟨fun j => if j = i then v else ρ j,if_pos rfl,fun j hj => if_neg hj⟩
theorem NmS.push {hp hp' : Heap} {N M M0 M' n i kN : Nat} {l : List EqR} {x : Bool} {sl co : Value} (S : NmS hp N M n l i sl) (keep : ∀ q,q < M -> q ≠ (match sl with | .slice (some ⟨k,_,_⟩) _ _ => k | _ => M) -> hget hp' q = hget hp q)
  (hm : M <= M0) (hco : CoS hp' M0 M' (eqAt l i).coef n co) (hl : (eqAt l i).coef.length = n) (hk : hget hp' kN = some ⟨40,5,x,(match sl with | .slice (some ⟨k,_,_⟩) _ _ => (match hget hp k with | some b => b.cells | none => []) | _ => []) ++ (co :: (eqAt l i).tl)⟩)
  (h1 : M <= kN) (h2 : kN < M') (h3 : ∀ k,co = .slice (some ⟨k,0,none⟩) n n -> k ≠ kN) (hN : N <= M) (hM' : M <= M') : NmS hp' N M' n l (i + 1) (.slice (some ⟨kN,0,none⟩) (i + 1) (i + 1)) := by
 have main : ∀ (ρ : Nat -> Nat),(n ≠ 0 -> (∀ j,j < i -> (∃ y,hget hp' (ρ j) = some ⟨38,3,y,rqs (eqAt l j).coef⟩) /\ N <= ρ j /\ ρ j < M) /\ ∀ j j',j < i -> j' < i -> ρ j = ρ j' -> j = j') ->
   hget hp' kN = some ⟨40,5,x,blkC (nmF n ρ l) i ++ (co :: (eqAt l i).tl)⟩ -> NmS hp' N M' n l (i + 1) (.slice (some ⟨kN,0,none⟩) (i + 1) (i + 1)) := by
  intro ρ hρ hk
  rcases hco with ⟨z,rfl⟩ | ⟨z,kk,y,rfl,c1,c2,c3⟩
  ·subst z
   refine .inr ⟨by omega,kN,x,ρ,rfl,?_,by omega,h2,fun z => absurd rfl z⟩
   rw [hk]
   rfl
  ·obtain ⟨ρ',p1,p2⟩ := updF ρ i kk
   obtain ⟨g1,g2⟩ := hρ (by omega)
   refine .inr ⟨by omega,kN,x,ρ',rfl,?_,by omega,h2,fun _ => ⟨fun j hj => ?_,fun j j' hj hj' e => ?_⟩⟩
   ·rw [hk]
    congr 2
    show _ = blkC _ i ++ _
    congr 1
    ·exact blkC_congr fun j hj => by unfold nmF nmCo; rw [p2 j (by omega)]
    ·unfold nmF nmCo; rw [p1,if_neg (by omega)]
   ·by_cases e : j = i
    ·subst e
     rw [p1]
     rw [List.take_of_length_le (by omega)] at c1
     exact ⟨⟨y,c1⟩,by omega,c3,h3 _ rfl⟩
    ·rw [p2 j e]
     obtain ⟨a,b,c⟩ := g1 j (by omega)
     exact ⟨a,b,by omega,by omega⟩
   ·by_cases e1 : j = i
    ·subst e1
     by_cases e2 : j' = j
     ·exact e2.symm
     ·rw [p1,p2 j' e2] at e
      have := (g1 j' (by omega)).2.2
      omega
    ·by_cases e2 : j' = i
     ·subst e2
      rw [p1,p2 j e1] at e
      have := (g1 j (by omega)).2.2
      omega
     ·rw [p2 j e1,p2 j' e2] at e
      exact g2 j j' (by omega) (by omega) e
 rcases S with ⟨z,rfl⟩ | ⟨z,kL,y,ρ,rfl,a1,a2,a3,a4⟩
 ·subst z
  exact main (fun _ => 0) (fun _ => ⟨fun j hj => absurd hj (Nat.not_lt_zero _),fun j j' hj => absurd hj (Nat.not_lt_zero _)⟩) hk
 ·simp only [a1] at hk
  refine main ρ (fun hn => ⟨fun j hj => ?_,(a4 hn).2⟩) hk
  obtain ⟨⟨y,b1⟩,b2,b3,b4⟩ := (a4 hn).1 j hj
  exact ⟨⟨y,by rw [keep _ b3 b4]; exact b1⟩,b2,b3⟩
theorem nmE_cells (e : EqR) : setR (setR [.slice none 0 0,.bool false,.string ⟨⟨[]⟩⟩,.string ⟨⟨[]⟩⟩,.int .i64 0] 1 (rE e.rhs.v)) 4 [.int .i64 e.line] = .slice none 0 0 :: (nmE e).tl := rfl
def c10 : ICode :=
 (.seq (.reg [qq 4 (.mv (.c (.slice none 0 0))),qq 5 (.mv (.c (.bool false)))]) (.seq (.seq (.reg [qq 10 (.mv (.t 0)),qq 11 (.mv (.t 1)),qq 12 (.call 26 [(.t 10),(.t 11)]),qq 13 (.bin .eql (.t 12) (ci 0))]) (.cond (.t 13) (.seq (.reg [qq 4 (.mv (.c (.slice none 0 0))),qq 5 (.mv (.c (.bool false)))]) .ret) .skip)) (.seq (.reg [qq 6 (.mv (.c (.slice none 0 0)))]) (.seq (.seq (.reg [qq 7 (.mv (ci 0))]) (.block 0 (.loop (.seq (.seq (.reg [qq 14 (.mv (.t 7)),qq 15 (.mv (.t 1)),qq 16 (.lensl (.t 15)),qq 17 (.bin .lss (.t 14) (.t 16))]) (.cond (.t 17) .skip (.exit 0))) (.seq (.block 1 (.seq (.dreg [qu 20 (.mv (.t 1)),qu 21 (.mv (.t 7)),qu 22 (.ixsl 5 (.t 20) (.t 21)),qu 23 (.faddr 1 (.t 22)),qu 24 (.load true 3 (.t 23)),qu 25 (.call 27 [(.t 24)]),qu 26 (.mv (.t 1)),qu 27 (.mv (.t 7)),qu 28 (.ixsl 5 (.t 26) (.t 27)),qu 29 (.faddr 4 (.t 28)),qv 30 [5] (.load false 1 (.t 29)),qu 31 (.build [(.slice none 0 0),(.bool false),e0,e0,(.int .i64 0)] [(1,3,(.t 25)),(4,1,(.t 30))]),qu 8 (.alloc 40 5 [(.slice none 0 0),(.bool false),e0,e0,(.int .i64 0)]),qm (.store 5 (.t 8) (.t 31))]) (.seq (.seq (.reg [qq 9 (.mv (ci 0))]) (.block 2 (.loop (.seq (.seq (.reg [qq 32 (.mv (.t 9)),qq 33 (.mv (.t 0)),qq 34 (.bin .lss (.t 32) (.t 33))]) (.cond (.t 34) .skip (.exit 2))) (.seq (.block 3 (.dreg [qu 37 (.faddr 0 (.t 8)),qu 38 (.load false 1 (.t 37)),qu 39 (.mv (.t 1)),qu 40 (.mv (.t 7)),qu 41 (.ixsl 5 (.t 39) (.t 40)),qu 42 (.faddr 0 (.t 41)),qu 43 (.load false 1 (.t 42)),qu 44 (.mv (.t 9)),qu 45 (.ixsl 3 (.t 43) (.t 44)),qu 46 (.load true 3 (.t 45)),qu 47 (.call 27 [(.t 46)]),qu 48 (.bslice 38 3 1 [(.bool false),e0,e0] [(0,3,(.t 47))]),qu 49 (.app 38 3 40 (.t 38) (.t 48)),qu 50 (.faddr 0 (.t 8)),qm (.store 1 (.t 50) (.t 49))])) (.reg [qq 35 (.mv (.t 9)),qq 36 (.bin .add (.t 35) (ci 1)),qq 9 (.mv (.t 36))])))))) (.reg [qq 51 (.mv (.t 6)),qq 52 (.load true 5 (.t 8)),qq 53 (.bslice 40 5 1 [(.slice none 0 0),(.bool false),e0,e0,(.int .i64 0)] [(0,5,(.t 52))]),qq 54 (.app 40 5 72 (.t 51) (.t 53)),qq 6 (.mv (.t 54))])))) (.reg [qq 18 (.mv (.t 7)),qq 19 (.bin .add (.t 18) (ci 1)),qq 7 (.mv (.t 19))])))))) (.seq (.reg [qq 55 (.mv (.t 6)),qq 4 (.mv (.t 55)),qq 5 (.mv (.c (.bool true)))]) .ret)))))
theorem tr10 : trFun Tryz.prog 10 = some ⟨56,[.t 4,.t 5],c10⟩ := by kernel_rfl
set_option maxHeartbeats 32000000 in
theorem ok_normed : SpecOK Tryz.prog 10 (nwL spNormed) := by
 refine newL_run (env_cons ok_fits (env_cons ok_r3Norm (env_nil _))) mixed tr10 ?_ ?_
 ·intro args h h' r hle e
  unfold spNormed at e ⊢
  split at e
  ·split at e
   ·rename_i l hb
    simp only [decRows_mono hle hb]; exact e
   ·cases e
  ·cases e
 intro args h N r hG hN
 unfold spNormed at hG
 split at hG
 case h_2 => cases hG
 rename_i n sl
 split at hG
 case h_2 => cases hG
 rename_i l hx
 split at hG
 case isFalse => cases hG
 rename_i hm
 obtain ⟨a,cc,rfl⟩ := listAt_sl (dec := decEq h) hx
 have fx : spFits [.int .i64 n,.slice a l.length cc] h = some (.int .i64 (if fitS n l then 1 else 0)) := by
  unfold spFits
  simp only [hx]
  exact if_pos hm
 split at hG
 case isFalse =>
  rename_i nf
  cases hG
  refine ⟨⟨fun β σ σ' _ _ => .tup _ _ (.cons _ _ _ _ (.base _ rfl) (.cons _ _ _ _ (.base _ rfl) .nil)),fun β σ σ' _ _ i hi => absurd hi (Nat.not_lt_zero i)⟩,by simp,?_⟩
  rw [if_neg nf] at fx
  simp only [c10,G0,Nat.reduceAdd]
  simp only [↓R0,R1,simprocAttr,-Int.reduceAbs,rdS,fx,FinL,isEnd,resL,res1]
  exact ⟨fun i => i,_,fun i hi => absurd hi (Nat.not_lt_zero i),fun i j hi => absurd hi (Nat.not_lt_zero i),rfl,rfl,fun i hi => absurd hi (Nat.not_lt_zero i),fun k _ => trivial⟩
 rename_i ft
 cases hG
 rw [if_pos ft] at fx
 obtain ⟨n0,n8,m14,hfit⟩ := ft
 obtain ⟨n,rfl⟩ := Int.eq_ofNat_of_zero_le n0
 rw [Int.toNat_natCast]
 refine ⟨nmNL_par _ _ _,by simp,?_⟩
 have hL := nmL_len l
 simp only [c10,G0,Nat.reduceAdd]
 simp only [↓R0,R1,simprocAttr,-Int.reduceAbs,rdS,fx]
 refine lp_parts (fun q tm hp nx => ∃ (i M : Nat) (o : Value),q + i = l.length /\ tmget tm 0 = .int .i64 n /\ tmget tm 1 = .slice a l.length cc /\ tmget tm 7 = .int .i64 i /\ tmget tm 6 = o /\ NmS hp N M n (nmL l) i o /\ ExtL N h hp /\ N <= M /\ nx = M + 0) ?_ l.length
  ⟨0,N,.slice none 0 0,by omega,?_,?_,?_,?_,.inl ⟨rfl,rfl⟩,fun q _ => rfl,Nat.le_refl _,rfl⟩
 rotate_left
 all_goals first | (simp only [↓R0,R1,simprocAttr,-Int.reduceAbs]; done) | (simp only [↓R0,R1,simprocAttr,-Int.reduceAbs]; rfl) | skip
 rintro q tm hp nx ⟨i,M,o,hq,t0,t1,t7,t6,hS,hh,hM,hnx⟩
 rw [hnx]
 clear hnx nx
 have wi : IntKind.i64.wrap ((i : Int) + 1) = ((i + 1 : Nat) : Int) := by rw [i64_in _ (by omega)]; omega
 by_cases c1 : i < l.length
 case neg =>
  have e : i = l.length := by omega
  subst e
  have c1' : ((l.length : Int) < (l.length : Int)) = False := eq_false (by omega)
  unfold nmNL
  rcases hS with ⟨z,rfl⟩ | ⟨z,kL,x,ρ,rfl,a1,a2,a3,a4⟩
  ·rw [if_pos (List.eq_nil_of_length_eq_zero (by rw [hL]; exact z))]
   simp only [↓R0,R1,simprocAttr,-Int.reduceAbs,t0,t1,t7,t6,c1',FinL,isEnd,resL,res1]
   exact ⟨fun i => i,_,fun i hi => absurd hi (Nat.not_lt_zero i),fun i j hi => absurd hi (Nat.not_lt_zero i),rfl,rfl,fun i hi => absurd hi (Nat.not_lt_zero i),hh⟩
  ·rw [if_neg (fun e => by rw [e] at hL; simp at hL; omega),hL]
   simp only [↓R0,R1,simprocAttr,-Int.reduceAbs,t0,t1,t7,t6,c1',FinL,isEnd,resL,res1]
   by_cases zn : n = 0
   ·subst zn
    refine ⟨fun _ => kL,_,fun i hi => (by omega : N <= kL),fun i j hi hj _ => ?_,rfl,rfl,fun i hi => ⟨x,?_⟩,hh⟩
    ·simp at hi hj; omega
    ·simp at hi
     subst hi
     exact a1
   ·obtain ⟨b1,b2⟩ := a4 zn
    refine ⟨fun i => if i = 0 then kL else ρ (i - 1),_,fun i hi => ?_,fun i j hi hj e => ?_,rfl,rfl,fun i hi => ?_,hh⟩
    ·show N <= if i = 0 then kL else ρ (i - 1)
     rw [if_neg zn] at hi
     split
     ·omega
     ·exact (b1 (i - 1) (by omega)).2.1
    ·rw [if_neg zn] at hi hj
     simp only at e
     by_cases e1 : i = 0
     ·by_cases e2 : j = 0
      ·omega
      ·rw [if_pos e1,if_neg e2] at e
       exact absurd e.symm (b1 (j - 1) (by omega)).2.2.2
     ·by_cases e2 : j = 0
      ·rw [if_neg e1,if_pos e2] at e
       exact absurd e (b1 (i - 1) (by omega)).2.2.2
      ·rw [if_neg e1,if_neg e2] at e
       have := b2 _ _ (by omega) (by omega) e
       omega
    ·rw [if_neg zn] at hi
     match i with
     | 0 => exact ⟨x,a1⟩
     | i + 1 =>
      obtain ⟨⟨y,g⟩,_⟩ := b1 i (by omega)
      exact ⟨y,g⟩
 have c1' : ((i : Int) < (l.length : Int)) = True := eq_true (by omega)
 obtain ⟨k,off,blk,a',n',c',ea,hb,q1,q2,hn',hl'⟩ := eq_at hx c1
 subst ea
 have fe := hfit _ (eqAt_mem c1)
 have hnn : n' = n := by have := fe.1; omega
 subst hnn
 have nk := hN _ _ hb
 have hbb : hget hp k = some blk := by rw [hh k nk]; exact hb
 have Mk : ∀ d,(M + d = k) = False := fun d => eq_false (by omega)
 have e51 : (blk.cells.drop (off + i * 5 + 1)).take 3 = (eqAt l i).rhs.cells := by
  have := congrArg (fun y => (y.drop 1).take 3) q2
  simp only [List.drop_take,List.take_take,List.drop_drop] at this
  exact this
 have q3 : off + i * 5 + 1 + 3 <= blk.cells.length := by omega
 have k4 : blk.cells[off + i * 5 + 4]? = some (.int .i64 (eqAt l i).line) := by have := cell_at (i := 4) q2 (by omega); rw [this]; rfl
 have k0 : blk.cells[off + i * 5 + 0]? = some (.slice a' n' c') := by have := cell_at (i := 0) q2 (by omega); rw [this]; rfl
 have rn : ∀ q : RQ,smallQ q -> spR3Norm [.agg ⟨q.cells⟩] = some (.agg ⟨rE q.v⟩) := fun q hq => if_pos ⟨by have := hq.1; omega,by have := hq.2; omega⟩
 have rn1 := rn _ fe.2.1
 have E1 := nmE_cells (eqAt l i)
 have E2 : (Value.slice none 0 0 :: (nmE (eqAt l i)).tl).length = 5 := rfl
 have E3 : setR [.slice none 0 0,.bool false,.string ⟨⟨[]⟩⟩,.string ⟨⟨[]⟩⟩,.int .i64 0] 0 (Value.slice none 0 0 :: (nmE (eqAt l i)).tl) = Value.slice none 0 0 :: (nmE (eqAt l i)).tl := rfl
 have E4 : (Value.slice none 0 0 :: (nmE (eqAt l i)).tl).all okCell = true := rfl
 have T1 : (nmE (eqAt l i)).tl.length = 4 := rfl
 have T2 : (nmE (eqAt l i)).tl.all okCell = true := rfl
 have T3 : (nmE (eqAt l i)).tl.take 4 = (nmE (eqAt l i)).tl := rfl
 have T4 : ∀ v,setR [v,.bool false,.string ⟨⟨[]⟩⟩,.string ⟨⟨[]⟩⟩,.int .i64 0] 1 (nmE (eqAt l i)).tl = v :: (nmE (eqAt l i)).tl := fun _ => rfl
 have T5 : (eqAt (nmL l) i).tl = (nmE (eqAt l i)).tl := by rw [nmL_at c1]
 have rl : (eqAt l i).rhs.cells.length = 3 := rfl
 generalize (eqAt l i).rhs.cells = RH at *
 generalize eT : (nmE (eqAt l i)).tl = TL at *
 simp only [↓R0,R1,simprocAttr,-Int.reduceAbs,flat,t0,t1,t7,t6,c1,c1',hbb,q1,q3,Mk,e51,k4,rn1,setR_length,rE_l3',rE_o3',E1,E2,E3,E4]
 have hC := fe.2.2
 have hD : (nmE (eqAt l i)).coef = (eqAt l i).coef.map fun q => RQ.of q.v := rfl
 have hDl : (nmE (eqAt l i)).coef.length = n' := by rw [hD,List.length_map]; omega
 refine lp_parts (fun d tm hp2 nx => ∃ (j M2 : Nat) (co : Value),d + j = n' /\ tmget tm 0 = .int .i64 n' /\ tmget tm 1 = .slice (some ⟨k,off,none⟩) l.length cc /\ tmget tm 6 = o /\ tmget tm 7 = .int .i64 i /\ tmget tm 8 = .pointer (some ⟨M + 0,0,none⟩) /\ tmget tm 9 = .int .i64 j /\
   hget hp2 (M + 0) = some ⟨40,5,true,co :: TL⟩ /\ CoS hp2 (M + 1) M2 (nmE (eqAt l i)).coef j co /\ (∀ q,q < M -> hget hp2 q = hget hp q) /\ M + 1 <= M2 /\ nx = M2 + 0) ?_ n'
  ⟨0,M + 1,.slice none 0 0,by omega,?_,?_,?_,?_,?_,?_,?_,.inl ⟨rfl,rfl⟩,?_,Nat.le_refl _,rfl⟩
 rotate_left
 all_goals first | (simp only [↓R0,R1,simprocAttr,-Int.reduceAbs,t0,t1,t6,t7]; done) | (simp only [↓R0,R1,simprocAttr,-Int.reduceAbs,t0,t1,t6,t7]; rfl) | skip
 ·intro q hq
  have nb : ∀ d,(M + d = q) = False := fun d => eq_false (by omega)
  simp only [↓R0,R1,simprocAttr,-Int.reduceAbs,nb]
 clear t0 t1 t6 t7
 rintro d tm hp2 nx ⟨j,M2,co,hd,t0,t1,t6,t7,t8,t9,bx,hco,hh2,hM2,hnx⟩
 rw [hnx]
 clear hnx nx
 have wj : IntKind.i64.wrap ((j : Int) + 1) = ((j + 1 : Nat) : Int) := by rw [i64_in _ (by omega)]; omega
 have hbb2 : hget hp2 k = some blk := by rw [hh2 k (by omega)]; exact hbb
 have Mk2 : ∀ d,(M2 + d = k) = False := fun d => eq_false (by omega)
 have Mx : ∀ d,(M2 + d = M + 0) = False := fun d => eq_false (by omega)
 have My : ∀ d,(M + 0 = M2 + d) = False := fun d => eq_false (by omega)
 have Mk3 : (M + 0 = k) = False := eq_false (by omega)
 by_cases cj : j < n'
 case pos =>
  have cj' : ((j : Int) < (n' : Int)) = True := eq_true (by omega)
  obtain ⟨kk,f2,B2,ea2,b2,p3,p4⟩ := rq_at hl' cj
  have nk2 := hN _ _ b2
  have b2' : hget hp2 kk = some B2 := by rw [hh2 kk (by omega),hh kk nk2]; exact b2
  have Nk1 : ∀ d,(M2 + d = kk) = False := fun d => eq_false (by omega)
  have Nk2 : (M + 0 = kk) = False := eq_false (by omega)
  rw [ea2] at k0
  have qm : rqAt (eqAt l i).coef j ∈ (eqAt l i).coef := by unfold rqAt; rw [List.getElem?_eq_getElem (by omega)]; exact List.getElem_mem (by omega)
  have rn2 := rn _ (hC _ qm)
  have Dj : (nmE (eqAt l i)).coef[j]? = some (RQ.of (rqAt (eqAt l i).coef j).v) := by
   rw [hD,List.getElem?_map]
   unfold rqAt
   rw [List.getElem?_eq_getElem (by omega)]; rfl
  have Ds : rqs ((nmE (eqAt l i)).coef.take (j + 1)) = rqs ((nmE (eqAt l i)).coef.take j) ++ rE (rqAt (eqAt l i).coef j).v := by
   rw [List.take_add_one,Dj]
   exact (rqs_app _ _).symm
  have Dl : (rqs ((nmE (eqAt l i)).coef.take j)).length = j * 3 := by rw [rqs_len,List.length_take,hDl,Nat.min_eq_left (by omega)]
  have s3 : setR [.bool false,.string ⟨⟨[]⟩⟩,.string ⟨⟨[]⟩⟩] 0 (rE (rqAt (eqAt l i).coef j).v) = rE (rqAt (eqAt l i).coef j).v := rfl
  have u3 : (rE (rqAt (eqAt l i).coef j).v).take 3 = rE (rqAt (eqAt l i).coef j).v := rfl
  have ql : (rqAt (eqAt l i).coef j).cells.length = 3 := rfl
  have r3 := rE_l3' (rqAt (eqAt l i).coef j).v
  have r4 := rE_o3' (rqAt (eqAt l i).coef j).v
  generalize (rqAt (eqAt l i).coef j).cells = QC at *
  generalize eRE : rE (rqAt (eqAt l i).coef j).v = RE at *
  rcases hco with ⟨z,rfl⟩ | ⟨z,kc,y,rfl,g1,g2,g3⟩
  ·have D0 : rqs ((nmE (eqAt l i)).coef.take j) = [] := List.eq_nil_of_length_eq_zero (by rw [Dl,z])
   rw [D0,List.nil_append] at Ds
   simp only [↓R0,R1,simprocAttr,-Int.reduceAbs,flat,t0,t1,t6,t7,t8,t9,c1,c1',cj,cj',hbb2,bx,k0,b2',p3,p4,Mk2,Mk3,Mx,My,Nk1,Nk2,rn2,s3,u3,r3,r4,ql,T1,T2,wj,setR_length]
   refine ⟨d - 1,by omega,j + 1,M2 + 2,.slice (some ⟨M2 + 1,0,none⟩) 1 1,by omega,rfl,rfl,.inr ⟨by omega,M2 + 1,false,by rw [z],?_,by omega,by omega⟩,fun q hq => ?_,by omega,rfl⟩
   ·rw [Ds]
    simp only [↓R0,R1,simprocAttr,-Int.reduceAbs,Mx,My]
   ·have nb : ∀ d,(M2 + d = q) = False := fun d => eq_false (by omega)
    have nc : (M + 0 = q) = False := eq_false (by omega)
    simp only [↓R0,R1,simprocAttr,-Int.reduceAbs,nb,nc]
    exact hh2 q hq
  ·have v1 : ∀ d,(M2 + d = kc) = False := fun d => eq_false (by omega)
   have v2 : ∀ d,(kc = M2 + d) = False := fun d => eq_false (by omega)
   have v3 : (M + 0 = kc) = False := eq_false (by omega)
   have v4 : (kc = M + 0) = False := eq_false (by omega)
   have nler : (j + 1 <= j) = False := eq_false (by omega)
   have ovr : ((j + 1) * 40 <= 140737488355328) = True := eq_true (by omega)
   generalize eDT : rqs ((nmE (eqAt l i)).coef.take j) = DT at *
   simp only [↓R0,R1,simprocAttr,-Int.reduceAbs,flat,t0,t1,t6,t7,t8,t9,c1,c1',cj,cj',hbb2,bx,k0,b2',p3,p4,Mk2,Mk3,Mx,My,Nk1,Nk2,rn2,s3,u3,r3,r4,ql,T1,T2,wj,setR_length,g1,Dl,nler,ovr,v1,v2,v3,v4]
   refine ⟨d - 1,by omega,j + 1,M2 + 2,.slice (some ⟨M2 + 1,0,none⟩) (j + 1) (j + 1),by omega,rfl,rfl,.inr ⟨by omega,M2 + 1,false,rfl,?_,by omega,by omega⟩,fun q hq => ?_,by omega,rfl⟩
   ·rw [Ds]
    simp only [↓R0,R1,simprocAttr,-Int.reduceAbs,Mx,My,v1,v2,v3,v4]
   ·have nb : ∀ d,(M2 + d = q) = False := fun d => eq_false (by omega)
    have nc : (M + 0 = q) = False := eq_false (by omega)
    have nq : (kc = q) = False := eq_false (by omega)
    simp only [↓R0,R1,simprocAttr,-Int.reduceAbs,nb,nc,nq]
    exact hh2 q hq
 have ej : j = n' := by omega
 subst ej
 have cj' : ((j : Int) < (j : Int)) = False := eq_false (by omega)
 have cok : okCell co = true := by rcases hco with ⟨_,rfl⟩ | ⟨_,kc,y,rfl,_⟩ <;> rfl
 have nlr : (i + 1 <= i) = False := eq_false (by omega)
 have ov2 : ((i + 1) * 72 <= 140737488355328) = True := eq_true (by omega)
 rcases hS with ⟨z,rfl⟩ | ⟨z,kL,x,ρ,rfl,a1,a2,a3,a4⟩
 ·simp only [↓R0,R1,simprocAttr,-Int.reduceAbs,t0,t1,t6,t7,t8,t9,cj',bx,Mx,My,T1,T2,T3,T4,cok,wi,setR_length]
  refine ⟨q - 1,by omega,i + 1,M2 + 2,.slice (some ⟨M2 + 1,0,none⟩) 1 1,by omega,rfl,rfl,?_,?_,by omega,rfl⟩
  ·have P := NmS.push (hp := hp) (hp' := (M2 + 1,some ⟨40,5,false,co :: TL⟩) :: (M2 + 0,some ⟨40,5,true,co :: TL⟩) :: hp2) (N := N) (M := M) (M0 := M + 1) (M' := M2 + 2) (n := j) (i := i) (kN := M2 + 1) (l := nmL l) (x := false) (sl := .slice none 0 0) (co := co) (.inl ⟨z,rfl⟩) ?_ (by omega) ?_ ?_ ?_ (by omega) (by omega) ?_ hM (by omega)
   ·rw [show Value.slice (some ⟨M2 + 1,0,none⟩) 1 1 = .slice (some ⟨M2 + 1,0,none⟩) (i + 1) (i + 1) by rw [z]]
    exact P
   ·intro q hq _
    have nb : ∀ d,(M2 + d = q) = False := fun d => eq_false (by omega)
    simp only [↓R0,R1,simprocAttr,-Int.reduceAbs,nb]
    exact hh2 q hq
   ·rw [nmL_at c1]
    rcases hco with ⟨z,rfl⟩ | ⟨z,kc,y,rfl,g1,g2,g3⟩
    ·exact .inl ⟨z,rfl⟩
    ·have nb : ∀ d,(M2 + d = kc) = False := fun d => eq_false (by omega)
     exact .inr ⟨z,kc,y,rfl,by simp only [↓R0,R1,simprocAttr,-Int.reduceAbs,nb]; exact g1,g2,by omega⟩
   ·rw [nmL_at c1]; exact hDl
   ·rw [T5]
    simp only [↓R0,R1,simprocAttr,-Int.reduceAbs]
   ·intro kc e
    rcases hco with ⟨z,rfl⟩ | ⟨z,kc',y,rfl,g1,g2,g3⟩
    ·cases e
    ·cases e; omega
  ·intro q hq
   have nb : ∀ d,(M2 + d = q) = False := fun d => eq_false (by omega)
   simp only [↓R0,R1,simprocAttr,-Int.reduceAbs,nb]
   rw [hh2 q (by omega)]; exact hh q hq
 ·have a1' : hget hp2 kL = some ⟨40,5,x,blkC (nmF j ρ (nmL l)) i⟩ := by rw [hh2 kL (by omega)]; exact a1
  have v1 : ∀ d,(M2 + d = kL) = False := fun d => eq_false (by omega)
  have v2 : ∀ d,(kL = M2 + d) = False := fun d => eq_false (by omega)
  have v3 : (M + 0 = kL) = False := eq_false (by omega)
  have bl5 : (blkC (nmF j ρ (nmL l)) i).length = i * 5 := blkC_len fun _ _ => rfl
  have Sx : NmS hp N M j (nmL l) i (.slice (some ⟨kL,0,none⟩) i i) := .inr ⟨z,kL,x,ρ,rfl,a1,a2,a3,a4⟩
  generalize eBK : blkC (nmF j ρ (nmL l)) i = BK at *
  simp only [↓R0,R1,simprocAttr,-Int.reduceAbs,t0,t1,t6,t7,t8,t9,cj',bx,Mx,My,T1,T2,T3,T4,cok,wi,setR_length,a1',bl5,nlr,ov2,v1,v2,v3]
  refine ⟨q - 1,by omega,i + 1,M2 + 2,.slice (some ⟨M2 + 1,0,none⟩) (i + 1) (i + 1),by omega,rfl,rfl,?_,?_,by omega,rfl⟩
  ·refine NmS.push (hp := hp) (M0 := M + 1) (x := false) (co := co) Sx ?_ (by omega) ?_ ?_ ?_ (by omega) (by omega) ?_ hM (by omega)
   ·intro q hq hne
    have nb : ∀ d,(M2 + d = q) = False := fun d => eq_false (by omega)
    have nq : (kL = q) = False := eq_false (fun e => hne e.symm)
    simp only [↓R0,R1,simprocAttr,-Int.reduceAbs,nb,nq]
    exact hh2 q hq
   ·rw [nmL_at c1]
    rcases hco with ⟨z,rfl⟩ | ⟨z,kc,y,rfl,g1,g2,g3⟩
    ·exact .inl ⟨z,rfl⟩
    ·have nb : ∀ d,(M2 + d = kc) = False := fun d => eq_false (by omega)
     have nq : (kL = kc) = False := eq_false (by omega)
     exact .inr ⟨z,kc,y,rfl,by simp only [↓R0,R1,simprocAttr,-Int.reduceAbs,nb,nq]; exact g1,g2,by omega⟩
   ·rw [nmL_at c1]; exact hDl
   ·rw [T5]
    simp only [a1]
    simp only [↓R0,R1,simprocAttr,-Int.reduceAbs,v1,v2]
   ·intro kc e
    rcases hco with ⟨z,rfl⟩ | ⟨z,kc',y,rfl,g1,g2,g3⟩
    ·cases e
    ·cases e; omega
  ·intro q hq
   have nb : ∀ d,(M2 + d = q) = False := fun d => eq_false (by omega)
   have nq : (kL = q) = False := eq_false (by omega)
   simp only [↓R0,R1,simprocAttr,-Int.reduceAbs,nb,nq]
   rw [hh2 q (by omega)]; exact hh q hq
end Go.Eng
end
section
namespace Go.Eng
theorem null_comb {N m : Nat} {M : Mat} {X Y : Nat -> Rat} (c : Rat) (hX : nullM N m M X) (hY : nullM N m M Y) : nullM N m M (fun j => X j + c * Y j) := fun i hi => by
 rw [lin_addv,hX i hi,hY i hi]; grind
theorem null_zero {n m : Nat} {M : Mat} {X : Nat -> Rat} (h : ∀ j,j < n + 1 -> X j = 0) : nullM (n + 1) m M X := fun i _ => by
 unfold lin
 exact sm_zero fun j hj => by rw [h j hj,Rat.mul_zero]
theorem sub_eq {n m m' : Nat} {M M' : Mat} (sub : ∀ X,nullM (n + 1) m' M' X -> nullM (n + 1) m M X) (con : ConP n (nullM (n + 1) m' M'))
  (hd : ∀ k,k < n -> HeadP n (nullM (n + 1) m' M') k -> HeadP n (nullM (n + 1) m M) k) : ∀ X,nullM (n + 1) m M X -> nullM (n + 1) m' M' X := by
 have key : ∀ (t : Nat),t <= n -> ∀ X,nullM (n + 1) m M X -> X n = 0 -> (∀ j,t <= j -> j < n -> X j = 0) -> nullM (n + 1) m' M' X := by
  intro t
  induction t with
  | zero =>
   intro _ X hX hn hz
   exact null_zero fun j hj => by
    by_cases e : j = n
    ·rw [e]; exact hn
    ·exact hz j (Nat.zero_le _) (by omega)
  | succ t ih =>
   intro ht X hX hn hz
   by_cases x : X t = 0
   ·exact ih (by omega) X hX hn fun j h1 h2 => by
     by_cases e : j = t
     ·rw [e]; exact x
     ·exact hz j (by omega) h2
   ·have nh : ¬ HeadP n (nullM (n + 1) m M) t := fun h => x (h X hX hn fun j h1 h2 => hz j (by omega) h2)
    have nh' : ¬ HeadP n (nullM (n + 1) m' M') t := fun h => nh (hd t (by omega) h)
    unfold HeadP at nh'
    obtain ⟨V,hV⟩ := Classical.not_forall.1 nh'
    obtain ⟨hV,h'⟩ := Classical.not_imp.1 hV
    obtain ⟨hVn,h'⟩ := Classical.not_imp.1 h'
    obtain ⟨hVz,hVt⟩ := Classical.not_imp.1 h'
    have g := ih (by omega) (fun j => X j + (- (X t / V t)) * V j) (null_comb _ hX (sub V hV)) (by show X n + (- (X t / V t)) * V n = 0; rw [hn,hVn]; grind) fun j h1 h2 => by
     show X j + (- (X t / V t)) * V j = 0
     by_cases e : j = t
     ·subst e; grind
     ·rw [hz j (by omega) h2,hVz j (by omega) h2]; grind
    have g2 := null_comb (X t / V t) g hV
    have e : (fun j => (X j + (- (X t / V t)) * V j) + X t / V t * V j) = X := by funext j; grind
    rw [e] at g2
    exact g2
 intro X hX
 obtain ⟨W,hW,hWn⟩ := con
 have g := key n (Nat.le_refl _) (fun j => X j + X n * W j) (null_comb _ hX (sub W hW)) (by show X n + X n * W n = 0; rw [hWn]; grind) (fun j h1 h2 => absurd h2 (by omega))
 have g2 := null_comb (- X n) g hW
 have e : (fun j => (X j + X n * W j) + - X n * W j) = X := by funext j; grind
 rw [e] at g2
 exact g2
theorem rank_lt {n r r' : Nat} {Z Z' : (Nat -> Rat) -> Prop} {R R' : Mat} {h h' : Nat -> Nat} {cl cl' : Prop} (S : SysS n Z r R h cl) (S' : SysS n Z' r' R' h' cl') (H : ∀ k,k < n -> HeadP n Z k -> HeadP n Z' k)
  {k : Nat} (hk : k < n) (h1 : HeadP n Z' k) (h2 : ¬ HeadP n Z k) : r + 1 <= r' := by
 have ch : ∀ p,p < r -> ∃ q,q < r' /\ h' q = h p := fun p hp => (S'.head (S.lt p hp)).2 (H _ (S.lt p hp) ((S.head (S.lt p hp)).1 ⟨p,hp,rfl⟩))
 obtain ⟨k0,hk0,ek0⟩ := (S'.head hk).2 h1
 have ne : ∀ p,p < r -> h p ≠ k := fun p hp e => h2 ((S.head hk).1 ⟨p,hp,e⟩)
 refine inj_le (r + 1) r' (fun p => if p = r then k0 else (hIdx h' r' (h p)).getD 0) (fun p hp => ?_) (fun p q hp hq x => ?_)
 ·show (if p = r then k0 else (hIdx h' r' (h p)).getD 0) < r'
  split
  ·exact hk0
  ·obtain ⟨p',hp',e⟩ := ch p (by omega)
   rw [<- e,S'.idx hp']; exact hp'
 ·change (if p = r then k0 else (hIdx h' r' (h p)).getD 0) = (if q = r then k0 else (hIdx h' r' (h q)).getD 0) at x
  by_cases ep : p = r
  ·by_cases eq : q = r
   ·omega
   ·rw [if_pos ep,if_neg eq] at x
    obtain ⟨q',hq',e'⟩ := ch q (by omega)
    rw [<- e',S'.idx hq'] at x
    change k0 = q' at x
    exact absurd (by rw [<- e',<- x,ek0]) (ne q (by omega))
  ·by_cases eq : q = r
   ·rw [if_neg ep,if_pos eq] at x
    obtain ⟨p',hp',e⟩ := ch p (by omega)
    rw [<- e,S'.idx hp'] at x
    change p' = k0 at x
    exact absurd (by rw [<- e,x,ek0]) (ne p (by omega))
   ·rw [if_neg ep,if_neg eq] at x
    obtain ⟨p',hp',e⟩ := ch p (by omega)
    obtain ⟨q',hq',e'⟩ := ch q (by omega)
    rw [<- e,<- e',S'.idx hp',S'.idx hq'] at x
    change p' = q' at x
    exact S.inj p q (by omega) (by omega) (by rw [<- e,<- e',x])
theorem rank_up {n m m' : Nat} {M M' : Mat} (sub : ∀ X,nullM (n + 1) m' M' X -> nullM (n + 1) m M X) (con : ConP n (nullM (n + 1) m' M')) {X0 : Nat -> Rat} (h1 : nullM (n + 1) m M X0) (h2 : ¬ nullM (n + 1) m' M' X0) :
  (redK m M n).hs.length + 1 <= (redK m' M' n).hs.length := by
 have S := red_sys n m M
 have S' := red_sys n m' M'
 have H : ∀ k,k < n -> HeadP n (nullM (n + 1) m M) k -> HeadP n (nullM (n + 1) m' M') k := fun k hk h X hX h3 h4 => h X (sub X hX) h3 h4
 have ex : ∃ k,k < n /\ HeadP n (nullM (n + 1) m' M') k /\ ¬ HeadP n (nullM (n + 1) m M) k := Classical.byContradiction fun c => h2 (sub_eq sub con (fun k hk hh => Classical.byContradiction fun y => c ⟨k,hk,hh,y⟩) X0 h1)
 obtain ⟨k,hk,a,b⟩ := ex
 exact rank_lt S S' H hk a b
end Go.Eng
end
section
set_option maxRecDepth 20000
namespace Go.Eng
open Go Go.Proofs Go.IntWalk
def Sat (n : Nat) (e : EqR) (X : Row) : Prop := lin n (qsV e.coef) X = e.rhs.v
def Cns (n : Nat) (l : List EqR) : Prop := ∃ X : Row,∀ e ∈ l,Sat n e X
theorem ZL_sat {n : Nat} {l : List EqR} (c : chkL n l = 0) {X : Row} (hX : X n = -1) : ZL n l X ↔ ∀ e ∈ l,Sat n e X := by
 rw [ZL_iff (chk0_nat c) X]
 refine forall_congr' fun e => forall_congr' fun _ => ?_
 unfold Sat
 rw [hX]
 constructor <;> intro h <;> grind
def hom (n : Nat) (X : Row) : Row := fun j => if j = n then -1 else X j
theorem hom_n (n : Nat) (X : Row) : hom n X n = -1 := if_pos rfl
theorem sat_hom {n : Nat} {e : EqR} {X : Row} : Sat n e (hom n X) ↔ Sat n e X := by
 unfold Sat
 rw [lin_congr (r' := qsV e.coef) (x' := X) (x := hom n X) (fun _ _ => rfl) (fun j hj => if_neg (by omega))]
theorem tog_sat {n : Nat} {l : List EqR} (c : chkL n l = 0) : togL n l = true ↔ Cns n l := by
 rw [tog_con c]
 constructor
 ·rintro ⟨X,h1,h2⟩
  exact ⟨X,(ZL_sat c h2).1 h1⟩
 ·rintro ⟨X,h⟩
  exact ⟨hom n X,(ZL_sat c (hom_n n X)).2 fun e he => sat_hom.2 (h e he),hom_n n X⟩
theorem tog_not {n : Nat} {l : List EqR} (c : chkL n l = 0) : togL n l = false ↔ ¬ Cns n l := by
 rw [<- tog_sat c]; simp
theorem Cns.sub {n : Nat} {l l' : List EqR} (h : Cns n l) (hs : ∀ e ∈ l',e ∈ l) : Cns n l' := by
 obtain ⟨X,hX⟩ := h
 exact ⟨X,fun e he => hX e (hs e he)⟩
theorem chk_sub {n : Nat} {l l' : List EqR} (c : chkL n l = 0) (hl : l'.length <= 100) (hs : ∀ e ∈ l',e ∈ l) : chkL n l' = 0 :=
 chk0_of (by have := (chk0 c).2.1; omega) hl fun e he => chk0_nat c e (hs e he)
theorem EqsOK.chk {n : Nat} {l : List EqR} (H : EqsOK n l) : chkL n l = 0 :=
 chk0_of (by have := H.n8; omega) (by have := H.len; omega) fun e he => (H.co e he).1
theorem eqAt_take {l : List EqR} {i j : Nat} (h : j < i) : eqAt (l.take i) j = eqAt l j := by
 unfold eqAt
 rw [List.getElem?_take_of_lt h]
theorem indep_le {n : Nat} {l : List EqR} (c : chkL n l = 0) (con : Cns n l) (h : ∀ i,i < l.length -> ∃ X,(∀ e ∈ l.take i,Sat n e X) /\ ¬ Sat n (eqAt l i) X) : l.length <= n := by
 have cl := (chk0 c).2.2.1
 have key : ∀ i,i <= l.length -> i <= (redK (l.take i).length (eqM n (l.take i)) n).hs.length := by
  intro i
  induction i with
  | zero => exact fun _ => Nat.zero_le _
  | succ i ih =>
   intro hi
   have g := ih (by omega)
   obtain ⟨X,h1,h2⟩ := h i (by omega)
   have c1 : chkL n (l.take i) = 0 := chk_sub c (by rw [List.length_take]; omega) fun e he => List.mem_of_mem_take he
   have c2 : chkL n (l.take (i + 1)) = 0 := chk_sub c (by rw [List.length_take]; omega) fun e he => List.mem_of_mem_take he
   have hm : eqAt l i ∈ l.take (i + 1) := by
    have := eqAt_mem (l := l.take (i + 1)) (i := i) (by rw [List.length_take]; omega)
    rwa [eqAt_take (by omega)] at this
   have := rank_up (n := n) (m := (l.take i).length) (m' := (l.take (i + 1)).length) (M := eqM n (l.take i)) (M' := eqM n (l.take (i + 1))) (X0 := hom n X) (fun Y hY => ?_) ?_ ?_ ?_
   ·omega
   ·have h0 := (ZL_iff (chk0_nat c2) Y).1 hY
    refine (ZL_iff (chk0_nat c1) Y).2 fun e he => h0 e ?_
    rw [List.take_add_one]
    exact List.mem_append_left _ he
   ·exact (tog_con c2).1 ((tog_sat c2).2 (con.sub fun e he => List.mem_of_mem_take he))
   ·exact (ZL_sat c1 (hom_n n X)).2 fun e he => sat_hom.2 (h1 e he)
   ·intro x
    exact h2 (sat_hom.1 ((ZL_sat c2 (hom_n n X)).1 x _ hm))
 have g := key l.length (Nat.le_refl _)
 have f := (red_sys n (l.take l.length).length (eqM n (l.take l.length))).full.1
 omega
theorem minS_sorted (n : Int) (l : List EqR) : ∀ i,(minS n l i).1.Pairwise (· < ·)
 | 0 => by
  unfold minS
  rw [List.pairwise_map]
  exact List.Pairwise.imp (fun h => by omega) List.pairwise_lt_range
 | i + 1 => by
  unfold minS
  split
  ·exact minS_sorted n l i
  ·exact (minS_sorted n l i).filter _
theorem delL_mem {x p : Int} {L : List Int} : p ∈ delL x L ↔ p ∈ L /\ p ≠ x := by
 unfold delL
 rw [List.mem_filter]
 constructor
 ·rintro ⟨a,b⟩
  exact ⟨a,fun e => by rw [e] at b; simp at b⟩
 ·rintro ⟨a,b⟩
  exact ⟨a,by simp; exact fun e => b e.symm⟩
theorem selL_sub {l : List EqR} {ps qs : List Int} (h : ∀ p ∈ ps,p ∈ qs) : ∀ e ∈ selL l ps,e ∈ selL l qs := by
 intro e he
 unfold selL at he ⊢
 obtain ⟨p,hp,rfl⟩ := List.mem_map.1 he
 exact List.mem_map.2 ⟨p,h p hp,rfl⟩
theorem selL_chk {n : Nat} {l : List EqR} (c : chkL n l = 0) {ps : List Int} (hp : ∀ p ∈ ps,0 <= p /\ p.toNat < l.length) (hl : ps.length <= 100) : chkL n (selL l ps) = 0 :=
 chk_sub c (by unfold selL; rw [List.length_map]; exact hl) (selL_mem hp)
theorem minS_min {n : Nat} {l : List EqR} (c : chkL n l = 0) : ∀ i,∀ x ∈ (minS n l i).1,x < (i : Int) -> togL n (selL l (delL x (minS n l i).1)) = true
 | 0,x,hx,hi => by
  have := (minS_mem n l 0 x hx).1
  omega
 | i + 1,x,hx,hi => by
  have cl := (chk0 c).2.2.1
  have ml := minS_len n l i
  have mm := minS_mem n l i
  have ck : ∀ y z : Int,chkL n (selL l (delL y (delL z (minS n l i).1))) = 0 := fun y z => selL_chk c (fun p hp => mm p (delL_mem.1 (delL_mem.1 hp).1).1) (by
   have h1 := delL_len y (delL z (minS n l i).1)
   have h2 := delL_len z (minS n l i).1
   omega)
  have ck1 : ∀ z : Int,chkL n (selL l (delL z (minS n l i).1)) = 0 := fun z => selL_chk c (fun p hp => mm p (delL_mem.1 hp).1) (by
   have h2 := delL_len z (minS n l i).1
   omega)
  have e : minS n l (i + 1) = if togL n (selL l (delL i (minS n l i).1)) = true then minS n l i else (delL i (minS n l i).1,(minS n l i).1.length - (delL i (minS n l i).1).length) := rfl
  rw [e] at hx ⊢
  by_cases t : togL n (selL l (delL i (minS n l i).1)) = true
  ·rw [if_pos t] at hx ⊢
   by_cases xi : x = (i : Int)
   ·rw [xi]; exact t
   ·exact minS_min c i x hx (by omega)
  ·rw [if_neg t] at hx ⊢
   have hx2 := delL_mem.1 hx
   have h0 := minS_min c i x hx2.1 (by have := hx2.2; omega)
   rw [tog_sat (ck x i)]
   exact ((tog_sat (ck1 x)).1 h0).sub (selL_sub fun p hp => by
    have h1 := delL_mem.1 hp
    have h2 := delL_mem.1 h1.1
    exact delL_mem.2 ⟨h2.1,h1.2⟩)
def minF (n : Int) (l : List EqR) : List Int := (minS n l l.length).1
structure MinR (n : Nat) (l : List EqR) (L : List Int) : Prop where
 mem : ∀ p ∈ L,0 <= p /\ p.toNat < l.length
 len : L.length <= l.length
 sort : L.Pairwise (· < ·)
 bad : togL n (selL l L) = false
 min : ∀ x ∈ L,togL n (selL l (delL x L)) = true
theorem minF_R {n : Nat} {l : List EqR} (c : chkL n l = 0) (t : togL n l = false) : MinR n l (minF n l) :=
 ⟨minS_mem n l _,minS_len n l _,minS_sorted n l _,minS_clash t _,fun x hx => minS_min c _ x hx (by have := minS_mem n l _ x hx; omega)⟩
theorem MinR.pos {n : Nat} {l : List EqR} {L : List Int} (R : MinR n l L) (hn : n <= 8) : 0 < L.length := by
 cases L with
 | nil => have := R.bad; rw [show selL l [] = [] from rfl,tog_nil hn] at this; cases this
 | cons x L => simp
theorem MinR.le {n : Nat} {l : List EqR} {L : List Int} (R : MinR n l L) (c : chkL n l = 0) (hn : n <= 8) : L.length <= n + 1 := by
 have cl := (chk0 c).2.2.1
 have pos := R.pos hn
 have len := R.len
 obtain ⟨l2,hl2⟩ : ∃ x,x = selL l L.dropLast := ⟨_,rfl⟩
 have ll2 : l2.length = L.length - 1 := by rw [hl2]; unfold selL; rw [List.length_map,List.length_dropLast]
 have c2 : chkL n l2 = 0 := by rw [hl2]; exact selL_chk c (fun p hp => R.mem p (List.dropLast_subset _ hp)) (by rw [List.length_dropLast]; omega)
 have cA : chkL n (selL l L) = 0 := selL_chk c R.mem (by omega)
 have cD : ∀ x : Int,chkL n (selL l (delL x L)) = 0 := fun x => selL_chk c (fun p hp => R.mem p (delL_mem.1 hp).1) (by have := delL_len x L; omega)
 have nd : L.Nodup := R.sort.imp (fun h => by omega)
 have at2 : ∀ i,i < l2.length -> ∃ p,L[i]? = some p /\ eqAt l2 i = eqAt l p.toNat := fun i hi => by
  obtain ⟨p,hp⟩ : ∃ p,L[i]? = some p := ⟨_,List.getElem?_eq_getElem (by omega)⟩
  refine ⟨p,hp,?_⟩
  have hd : L.dropLast[i]? = some p := by rw [List.getElem?_dropLast,if_pos (by omega)]; exact hp
  rw [hl2]
  unfold eqAt selL
  rw [List.getElem?_map,hd]; rfl
 have con2 : Cns n l2 := by
  have hx : L.getLast (List.ne_nil_of_length_pos pos) ∈ L := List.getLast_mem _
  refine ((tog_sat (cD _)).1 (R.min _ hx)).sub ?_
  rw [hl2]
  refine selL_sub fun p hp => delL_mem.2 ⟨List.dropLast_subset _ hp,fun e => ?_⟩
  have h1 := List.dropLast_concat_getLast (List.ne_nil_of_length_pos pos)
  rw [<- h1,List.nodup_append] at nd
  exact nd.2.2 p hp _ (List.mem_singleton.2 rfl) e
 have : l2.length <= n := indep_le c2 con2 fun i hi => Classical.byContradiction fun no => by
  obtain ⟨p,hp,he⟩ := at2 i hi
  have hpL := List.mem_of_getElem? hp
  obtain ⟨X,hX⟩ := (tog_sat (cD p)).1 (R.min p hpL)
  have imp : Sat n (eqAt l2 i) X := Classical.byContradiction fun ns => no ⟨X,fun e he' => ?_,ns⟩
  ·refine ((tog_not cA).1 R.bad) ⟨X,fun e he' => ?_⟩
   unfold selL at he'
   obtain ⟨q,hq,rfl⟩ := List.mem_map.1 he'
   by_cases e : q = p
   ·rw [e,<- he]; exact imp
   ·refine hX _ ?_
    unfold selL
    exact List.mem_map.2 ⟨q,delL_mem.2 ⟨hq,e⟩,rfl⟩
  ·refine hX e ?_
   obtain ⟨j,hj⟩ := List.getElem?_of_mem he'
   have hj1 := (List.getElem?_eq_some_iff.1 hj).1
   rw [List.length_take] at hj1
   rw [List.getElem?_take_of_lt (by omega)] at hj
   obtain ⟨pj,hpj,hej⟩ := at2 j (by omega)
   have ee : e = eqAt l pj.toNat := by
    rw [<- hej]
    unfold eqAt
    rw [hj]; rfl
   rw [ee]
   unfold selL
   refine List.mem_map.2 ⟨pj,delL_mem.2 ⟨List.mem_of_getElem? hpj,fun e => ?_⟩,rfl⟩
   rw [e] at hpj
   have := (List.getElem?_inj (by omega) nd).1 (hpj.trans hp.symm)
   omega
 omega
theorem blkC_all {f : Nat -> List Value} {p : Value -> Bool} : ∀ {m : Nat},(∀ i,i < m -> (f i).all p = true) -> (blkC f m).all p = true
 | 0,_ => rfl
 | m + 1,h => by rw [blkC,List.all_append,blkC_all (m := m) fun i hi => h i (by omega),h m (by omega)]; rfl
theorem nmE_ok {n : Int} {e : EqR} (h : fitE n e) : ((nmE e).coef.length : Int) = n /\ (∀ q ∈ (nmE e).coef,q.ok 100) /\ (nmE e).rhs.ok 100 := by
 have g : ∀ q : RQ,smallQ q -> (RQ.of q.v).ok 100 := fun q hq => (RQ.of_ok (RQ.ok.rb (k := 4) ⟨hq.1,hq.2⟩)).le (by omega)
 refine ⟨by unfold nmE; rw [List.length_map]; exact h.1,fun q hq => ?_,g _ h.2.1⟩
 obtain ⟨y,hy,rfl⟩ := List.mem_map.1 hq
 exact g y (h.2.2 y hy)
theorem fit_eqs {n : Nat} {l : List EqR} (h : fitS n l) : EqsOK n (nmL l) where
 n8 := by have := h.2.1; omega
 len := by rw [nmL_len]; have := h.2.2.1; omega
 co := fun e he => by
  obtain ⟨y,hy,rfl⟩ := List.mem_map.1 he
  obtain ⟨a,b,c⟩ := nmE_ok (h.2.2.2 y hy)
  exact ⟨by omega,b,c⟩
theorem rows_nil (h : Heap) : RowsS h (.slice none 0 0) [] [] := ⟨rfl,rfl,rfl⟩
theorem normed_no {h : Heap} {n : Int} {b : Nat} {l : List EqR} {sl : Value} (hx : decRows h sl = some l) (hm : l.length <= 9223372036854775807) (nf : ¬ fitS n l) : nwL spNormed [.int .i64 n,sl] h b = some (.tuple ⟨[.slice none 0 0,.bool false]⟩,[],0) := by
 unfold nwL spNormed
 simp only [hx]
 rw [if_pos hm,if_neg nf]
 rfl
theorem normed_call {h : Heap} {n b : Nat} {l : List EqR} {sl : Value} (hx : decRows h sl = some l) (hm : l.length <= 9223372036854775807) (ft : fitS n l) (hb : ∀ k blk,hget h k = some blk -> k < b) :
  ∃ a D mm cs,nwL spNormed [.int .i64 n,sl] h b = some (.tuple ⟨[.slice a l.length l.length,.bool true]⟩,D,mm) /\ (∀ q,q < b -> hget (D ++ h) q = hget h q) /\ RowsS (D ++ h) (.slice a l.length l.length) (nmL l) cs /\ ∀ k blk,hget (D ++ h) k = some blk -> k < b + mm := by
 have e : nwL spNormed [.int .i64 n,sl] h b = some ((nmNL n (nmL l)).val (b + ·),newH (nmNL n (nmL l)) (b + ·) (nmNL n (nmL l)).m,(nmNL n (nmL l)).m) := by
  unfold nwL spNormed
  simp only [hx]
  rw [if_pos hm,if_pos ft,Int.toNat_natCast]
  rfl
 have hl := nmL_len l
 have old := fun q (hq : q < b) => newH_old (r := nmNL n (nmL l)) (σ := (b + ·)) (h := h) (k := q) (nmNL n (nmL l)).m (fun i _ => by show b + i ≠ q; omega)
 have get := newH_get (r := nmNL n (nmL l)) (σ := (b + ·)) (h := h) (nmNL n (nmL l)).m (fun i j _ _ e => by change b + i = b + j at e; omega)
 have bnd : ∀ k blk,hget (newH (nmNL n (nmL l)) (b + ·) (nmNL n (nmL l)).m ++ h) k = some blk -> k < b + (nmNL n (nmL l)).m := fun k blk hk => by
  by_cases c : ∃ i,i < (nmNL n (nmL l)).m /\ b + i = k
  ·obtain ⟨i,h1,h2⟩ := c; omega
  ·rw [newH_old _ (fun i hi e => c ⟨i,hi,e⟩)] at hk
   have := hb k blk hk
   omega
 rw [e]
 obtain ⟨r,hr⟩ : ∃ r,r = nmNL n (nmL l) := ⟨_,rfl⟩
 rw [<- hr] at old get bnd ⊢
 unfold nmNL at hr
 by_cases z : nmL l = []
 ·rw [if_pos z] at hr
  have hz : l.length = 0 := by rw [z] at hl; exact hl.symm
  refine ⟨none,newH r (b + ·) r.m,r.m,[],?_,old,?_,bnd⟩
  ·rw [hr,hz]
  ·rw [hz,z]
   exact rows_nil _
 ·rw [if_neg z] at hr
  have pm : 0 < r.m := by rw [hr]; show 0 < if n = 0 then 1 else (nmL l).length + 1; split <;> omega
  have g0 := get 0 pm
  have g0 : hget (newH r (b + ·) r.m ++ h) (b + 0) = some ⟨40,5,false,blkC (nmF n (fun j => b + (j + 1)) (nmL l)) l.length⟩ := by
   rw [g0,hr,<- hl]; rfl
  have l5 : (blkC (nmF n (fun j => b + (j + 1)) (nmL l)) l.length).length = l.length * 5 := blkC_len fun _ _ => rfl
  have lp : 0 < l.length := by rw [<- hl]; exact List.length_pos_iff.2 z
  have gj : n ≠ 0 -> ∀ j,j < l.length -> hget (newH r (b + ·) r.m ++ h) (b + (j + 1)) = some ⟨38,3,false,rqs (eqAt (nmL l) j).coef⟩ := fun hn j hj => by
   have := get (j + 1) (by rw [hr]; show j + 1 < if n = 0 then 1 else (nmL l).length + 1; rw [if_neg hn,hl]; omega)
   rw [this,hr]
   rfl
  have H := fit_eqs ft
  refine ⟨some ⟨b + 0,0,none⟩,newH r (b + ·) r.m,r.m,blkC (nmF n (fun j => b + (j + 1)) (nmL l)) l.length,?_,old,⟨?_,?_,?_⟩,bnd⟩
  ·rw [hr,<- hl]
  ·unfold Go.Eng.lay
   obtain ⟨d,hd⟩ : ∃ d,l.length = d + 1 := ⟨l.length - 1,by omega⟩
   rw [hd] at g0 l5 ⊢
   simp only [g0]
   rw [if_pos ⟨Nat.le_refl _,by omega⟩,List.drop_zero,List.take_of_length_le (by omega)]
  ·refine rows_blk (f := nmF n (fun j => b + (j + 1)) (nmL l)) g0 hl fun i hi => ⟨_,rfl,?_⟩
   have hc := (H.co _ (eqAt_mem (l := nmL l) (i := i) (by omega))).1
   unfold nmCo
   by_cases hn : n = 0
   ·rw [if_pos hn]
    have : (eqAt (nmL l) i).coef = [] := List.eq_nil_of_length_eq_zero (by omega)
    rw [this]; rfl
   ·rw [if_neg hn]
    exact rqs_list (gj hn i hi) hc (by omega)
  ·refine blkC_all fun i hi => ?_
   show (selfOK _ (nmCo n (fun j => b + (j + 1)) i) && (eqAt (nmL l) i).tl.all (selfOK _)) = true
   rw [Bool.and_eq_true]
   refine ⟨?_,rfl⟩
   unfold nmCo
   by_cases hn : n = 0
   ·rw [if_pos hn]; rfl
   ·rw [if_neg hn]
    simp [selfOK,slOK,gj hn i hi]
theorem min_yes {h : Heap} {n b : Nat} {l : List EqR} {sl : Value} {cs : List Value} (R : RowsS h sl l cs) (H : EqsOK n l) (t : togL n l = true) : nwL spMin [.int .i64 n,sl] h b = some (.slice none 0 0,[],0) := by
 unfold nwL
 rw [min_of R H.min]
 unfold minNL
 rw [if_pos t]; rfl
theorem min_no {h : Heap} {n b : Nat} {l : List EqR} {sl : Value} {cs : List Value} (R : RowsS h sl l cs) (H : EqsOK n l) (t : togL n l = false) :
  nwL spMin [.int .i64 n,sl] h b = some (.slice (some ⟨b,0,none⟩) (minF n l).length ((minF n l).length + (minS n l l.length).2),[(b,some ⟨3,1,false,intZ (minF n l ++ List.replicate (minS n l l.length).2 0)⟩)],1) := by
 unfold nwL
 rw [min_of R H.min]
 unfold minNL
 rw [if_neg (by rw [t]; simp)]
 rfl
theorem EqsOK.app {n : Nat} {l l' : List EqR} (H : EqsOK n l) (H' : EqsOK n l') (hl : l.length + l'.length <= 50) : EqsOK n (l ++ l') where
 n8 := H.n8
 len := by rw [List.length_append]; exact hl
 co := fun e he => by
  rcases List.mem_append.1 he with h | h
  ·exact H.co e h
  ·exact H'.co e h
theorem RowsS.app {h h1 h2 : Heap} {sl sl' : Value} {l l' : List EqR} {cs cs' : List Value} (r : RowsS h1 sl l cs) (r' : RowsS h2 sl' l' cs') (e1 : hle h1 h) (e2 : hle h2 h) {k e s c : Nat} {x : Bool} (hc : l.length + l'.length <= c) (hk : hget h k = some ⟨e,s,x,cs ++ cs'⟩) :
  RowsS h (.slice (some ⟨k,0,none⟩) (l.length + l'.length) c) (l ++ l') (cs ++ cs') := by
 have hlen := r.len.1
 have hlen' := r'.len.1
 have la : Go.Eng.lay 5 h (.slice (some ⟨k,0,none⟩) (l.length + l'.length) c) = some (cs ++ cs') := by
  unfold Go.Eng.lay
  cases e : l.length + l'.length with
  | zero =>
   simp only [hk]
   rw [if_pos ⟨by omega,by rw [List.length_append]; omega⟩,List.drop_zero,List.take_of_length_le (by rw [List.length_append]; omega)]
  | succ n =>
   simp only [hk]
   rw [if_pos ⟨by omega,by rw [List.length_append]; omega⟩,List.drop_zero,List.take_of_length_le (by rw [List.length_append]; omega)]
 refine ⟨la,?_,by rw [List.all_append,Bool.and_eq_true]; exact ⟨selfsOK_mono e1 r.self,selfsOK_mono e2 r'.self⟩⟩
 unfold decRows listAt
 rw [la,Option.bind_some]
 have g := r.rows
 have g' := r'.rows
 unfold decRows listAt at g g'
 rw [r.lay,Option.bind_some] at g
 rw [r'.lay,Option.bind_some] at g'
 refine many_some (by rw [List.length_append]; rfl) fun i x hx => ?_
 by_cases hi : i < l.length
 ·rw [List.getElem?_append_left hi] at hx
  have hm : i * 5 + 5 <= cs.length := by omega
  rw [List.drop_append_of_le_length (by omega),List.take_append_of_le_length (by rw [List.length_drop]; omega)]
  exact decEq_mono e1 ((many_get g).2 i x hx)
 ·rw [List.getElem?_append_right (by omega)] at hx
  rw [List.drop_append,List.drop_of_length_le (by omega),List.nil_append,show i * 5 - cs.length = (i - l.length) * 5 by rw [hlen,<- Nat.sub_mul]]
  exact decEq_mono e2 ((many_get g').2 _ x hx)
theorem normed_any {h : Heap} {n : Int} {b : Nat} {l : List EqR} {sl : Value} (hx : decRows h sl = some l) (hm : l.length <= 9223372036854775807) (hb : ∀ k blk,hget h k = some blk -> k < b) :
  ∃ a m ok D mm,nwL spNormed [.int .i64 n,sl] h b = some (.tuple ⟨[.slice a m m,.bool ok]⟩,D,mm) /\ (∀ q,q < b -> hget (D ++ h) q = hget h q) /\ (∀ k blk,hget (D ++ h) k = some blk -> k < b + mm) /\
   ((ok = false /\ ¬ fitS n l) \/ (ok = true /\ fitS n l /\ m = l.length /\ ∃ cs,RowsS (D ++ h) (.slice a m m) (nmL l) cs)) := by
 by_cases ft : fitS n l
 ·obtain ⟨nn,rfl⟩ := Int.eq_ofNat_of_zero_le ft.1
  obtain ⟨a,D,mm,cs,e1,e2,e3,e4⟩ := normed_call hx hm ft hb
  exact ⟨a,l.length,true,D,mm,e1,e2,e4,.inr ⟨rfl,ft,rfl,cs,e3⟩⟩
 ·exact ⟨none,0,false,[],0,normed_no hx hm ft,fun _ _ => rfl,fun k blk hk => by have := hb k blk hk; omega,.inl ⟨rfl,ft⟩⟩
def clE (e : EqR) (k : Nat) : Prop := ∀ j,j < e.coef.length -> j ≠ k -> qsV e.coef j = 0
instance {e : EqR} {k : Nat} : Decidable (clE e k) := by unfold clE; infer_instance
def HdOK (l : List EqR) : Prop := l.length <= 1000 /\ ∀ e ∈ l,e.coef.length <= 1000 /\ eqOk e 8589934592
instance {l : List EqR} : Decidable (HdOK l) := by unfold HdOK; infer_instance
def SysR (n : Int) (l : List EqR) : Prop := chkL n l = 0 -> RedOK n.toNat l
instance {n : Int} {l : List EqR} : Decidable (SysR n l) := by unfold SysR; infer_instance
def Imp (n : Nat) (l : List EqR) (e : EqR) : Prop := ∀ X,(∀ d ∈ l,Sat n d X) -> Sat n e X
theorem sat_bump {n : Nat} {e : EqR} {X : Row} : Sat n (bump e) X ↔ lin n (qsV e.coef) X = e.rhs.v + 1 := by
 unfold Sat bump
 rw [RQ.of_v]
theorem chk_push {n : Nat} {l : List EqR} {e : EqR} (c : chkL n l = 0) (hl : l.length + 1 <= 100) (he : e.coef.length = n) : chkL n (l ++ [e]) = 0 :=
 chk0_of (by have := (chk0 c).2.1; omega) (by rw [List.length_append,List.length_singleton]; exact hl) fun d hd => by
  rcases List.mem_append.1 hd with h | h
  ·exact chk0_nat c d h
  ·rw [List.mem_singleton] at h; rw [h]; exact he
theorem fol_iff {n : Nat} {l : List EqR} {e : EqR} (c : chkL n l = 0) (hl : l.length + 1 <= 100) (he : e.coef.length = n) (con : Cns n l) : folL n l e = true ↔ Imp n l e := by
 have c1 := chk_push c hl he
 have c2 : chkL n (l ++ [bump e]) = 0 := chk_push c hl he
 unfold folL
 rw [Bool.and_eq_true,Bool.not_eq_true',tog_sat c1,tog_not c2]
 constructor
 ·rintro ⟨⟨Y,hY⟩,h2⟩ X hX
  refine Classical.byContradiction fun ns => h2 ?_
  have y0 : Sat n e Y := hY e (List.mem_append_right _ (List.mem_singleton.2 rfl))
  have dn : lin n (qsV e.coef) X - e.rhs.v ≠ 0 := fun h => ns (by unfold Sat; grind)
  have lw : ∀ a : Row,lin n a (fun j => (Y j + (1 / (lin n (qsV e.coef) X - e.rhs.v)) * X j) + (-(1 / (lin n (qsV e.coef) X - e.rhs.v))) * Y j) = lin n a Y + (1 / (lin n (qsV e.coef) X - e.rhs.v)) * (lin n a X - lin n a Y) := fun a => by
   rw [lin_addv,lin_addv]; grind
  refine ⟨fun j => (Y j + (1 / (lin n (qsV e.coef) X - e.rhs.v)) * X j) + (-(1 / (lin n (qsV e.coef) X - e.rhs.v))) * Y j,fun d hd => ?_⟩
  rcases List.mem_append.1 hd with h | h
  ·have x1 := hX d h
   have y1 := hY d (List.mem_append_left _ h)
   unfold Sat at x1 y1 ⊢
   rw [lw,x1,y1]; grind
  ·rw [List.mem_singleton] at h
   subst h
   rw [sat_bump,lw]
   unfold Sat at y0
   rw [y0]; grind
 ·intro h
  obtain ⟨X,hX⟩ := con
  refine ⟨⟨X,fun d hd => ?_⟩,?_⟩
  ·rcases List.mem_append.1 hd with g | g
   ·exact hX d g
   ·rw [List.mem_singleton] at g; rw [g]; exact h X hX
  ·rintro ⟨Y,hY⟩
   have y1 := h Y fun d hd => hY d (List.mem_append_left _ hd)
   have y2 := sat_bump.1 (hY (bump e) (List.mem_append_right _ (List.mem_singleton.2 rfl)))
   unfold Sat at y1
   rw [y1] at y2
   grind
theorem take_chk {n : Nat} {l : List EqR} (c : chkL n l = 0) (i : Nat) : chkL n (l.take i) = 0 :=
 chk_sub c (by have := (chk0 c).2.2.1; rw [List.length_take]; omega) fun e he => List.mem_of_mem_take he
theorem small_ok {q : RQ} (h : smallQ q) : (RQ.of q.v).ok 4 := by
 refine RQ.of_ok ?_
 obtain ⟨s,n,d⟩ := q
 refine divInt_RB (N := sv s n) (D := dv d) (by have := dv_pos d; omega) ?_ ?_
 ·rw [sv_natAbs]
  exact Nat.le_trans (bl_length_nl n) h.1
 ·unfold dv
  split
  ·exact Nat.le_trans (bl_length_le (k := 1).2 (by decide)) (by omega)
  ·exact Nat.le_trans (bl_length_nl d) h.2
structure EqsR (n : Nat) (l : List EqR) : Prop where
 n8 : n <= 8
 len : l.length <= 40
 co : ∀ e ∈ l,e.coef.length = n /\ eqOk e 4
theorem fit_R {n : Nat} {l : List EqR} (h : fitS n l) : EqsR n (nmL l) where
 n8 := by have := h.2.1; omega
 len := by rw [nmL_len]; have := h.2.2.1; omega
 co := fun e he => by
  obtain ⟨y,hy,rfl⟩ := List.mem_map.1 he
  have f := h.2.2.2 y hy
  refine ⟨by unfold nmE; rw [List.length_map]; have := f.1; omega,fun q hq => ?_,small_ok f.2.1⟩
  obtain ⟨z,hz,rfl⟩ := List.mem_map.1 hq
  exact small_ok (f.2.2 z hz)
theorem intNL_call {F : List Value -> Heap -> Option NewL} {args : List Value} {h : Heap} {b : Nat} {L : List Nat} (e : F args h = some (intNL L)) (z : L ≠ []) :
  nwL F args h b = some (.slice (some ⟨b,0,none⟩) L.length L.length,[(b,some ⟨3,1,false,intC L⟩)],1) := by
 unfold nwL
 rw [e]
 unfold intNL
 rw [if_neg z]
 rfl
theorem intNL_nil {F : List Value -> Heap -> Option NewL} {args : List Value} {h : Heap} {b : Nat} {L : List Nat} (e : F args h = some (intNL L)) (z : L = []) :
  nwL F args h b = some (.slice none 0 0,[],0) := by
 unfold nwL
 rw [e]
 unfold intNL
 rw [if_pos z]
 rfl
theorem intC_listO {h : Heap} {k e s o m c : Nat} {x : Bool} {L : List Nat} (hb : hget h k = some ⟨e,s,x,intC L⟩) (hm : o + m <= L.length) (hc : m <= c) :
  listAt 1 decN h (.slice (some ⟨k,o,none⟩) m c) = some (((L.drop o).take m).map fun i => ((i : Nat) : Int)) := by
 have ll : (intC L).length = L.length := by unfold intC; rw [List.length_map]
 have la : lay 1 h (.slice (some ⟨k,o,none⟩) m c) = some (((intC L).drop o).take m) := by
  unfold lay
  cases m with
  | zero =>
   simp only [hb]
   rw [if_pos ⟨by omega,by omega⟩,Nat.mul_one]
  | succ n =>
   simp only [hb]
   rw [if_pos ⟨by omega,by omega⟩,Nat.mul_one]
 unfold listAt
 rw [la,Option.bind_some]
 refine many_some (by show _ = m; rw [List.length_map,List.length_take,List.length_drop]; omega) fun i z hz => ?_
 rw [List.getElem?_map,Option.map_eq_some_iff] at hz
 obtain ⟨y,hy,rfl⟩ := hz
 have hi := (List.getElem?_eq_some_iff.1 hy).1
 rw [List.length_take,List.length_drop] at hi
 rw [List.getElem?_take_of_lt (by omega),List.getElem?_drop] at hy
 have g : (intC L)[o + i]? = some (.int .i64 ((y : Nat) : Int)) := by unfold intC; rw [List.getElem?_map,hy]; rfl
 rw [Nat.mul_one,List.drop_take,List.take_take,Nat.min_eq_left (by omega),List.drop_drop]
 obtain ⟨hlt,ge⟩ := List.getElem?_eq_some_iff.1 g
 rw [List.drop_eq_getElem_cons hlt,ge]
 rfl
def scE5 (b : Rat) (e : EqR) : EqR := ⟨e.coef.map fun q => RQ.of (q.v * b),RQ.of (e.rhs.v * b),e.line⟩
def scL5 (b : Nat -> Rat) (l : List EqR) : List EqR := l.mapIdx fun i e => scE5 (b i) e
theorem scL5_len (b : Nat -> Rat) (l : List EqR) : (scL5 b l).length = l.length := by unfold scL5; rw [List.length_mapIdx]
theorem scL5_at {b : Nat -> Rat} {l : List EqR} {i : Nat} (h : i < l.length) : eqAt (scL5 b l) i = scE5 (b i) (eqAt l i) := by
 unfold eqAt scL5
 rw [List.getElem?_mapIdx,List.getElem?_eq_getElem h]; rfl
theorem mem_at {l : List EqR} {e : EqR} (h : e ∈ l) : ∃ i,i < l.length /\ e = eqAt l i := by
 obtain ⟨i,hi,ge⟩ := List.mem_iff_getElem.1 h
 refine ⟨i,hi,?_⟩
 unfold eqAt
 rw [List.getElem?_eq_getElem hi,ge]; rfl
theorem qsV_sc {l : List RQ} {b : Rat} {j : Nat} (h : j < l.length) : qsV (l.map fun q => RQ.of (q.v * b)) j = qsV l j * b := by
 unfold qsV rqAt
 rw [List.getElem?_map,List.getElem?_eq_getElem h]
 exact RQ.of_v _
theorem sat_sc {n : Nat} {b : Rat} {e : EqR} {X : Row} (hb : b ≠ 0) (hl : e.coef.length = n) : Sat n (scE5 b e) X ↔ Sat n e X := by
 have h : lin n (qsV (scE5 b e).coef) X = lin n (qsV e.coef) X * b := by
  rw [<- lin_mul]
  exact lin_congr (fun j hj => qsV_sc (by omega)) fun _ _ => rfl
 have h2 : (scE5 b e).rhs.v = e.rhs.v * b := RQ.of_v _
 unfold Sat
 rw [h,h2]
 constructor
 ·intro x; grind
 ·intro x; rw [x]
structure ScL (n : Nat) (b : Nat -> Rat) (l : List EqR) : Prop where
 nz : ∀ i,b i ≠ 0
 len : ∀ e ∈ l,e.coef.length = n
 cl : chkL n l = 0
 cm : chkL n (scL5 b l) = 0
theorem ScL.sat {n : Nat} {b : Nat -> Rat} {l : List EqR} (S : ScL n b l) {i : Nat} (h : i < l.length) {X : Row} : Sat n (eqAt (scL5 b l) i) X ↔ Sat n (eqAt l i) X := by
 rw [scL5_at h]
 exact sat_sc (S.nz i) (S.len _ (eqAt_mem h))
theorem ScL.sel {n : Nat} {b : Nat -> Rat} {l : List EqR} (S : ScL n b l) {ps : List Int} (h : ∀ p ∈ ps,0 <= p /\ p.toNat < l.length) (hl : ps.length <= 100) : togL n (selL (scL5 b l) ps) = togL n (selL l ps) := by
 have c1 := selL_chk S.cl h hl
 have c2 : chkL n (selL (scL5 b l) ps) = 0 := selL_chk S.cm (fun p hp => by rw [scL5_len]; exact h p hp) hl
 rw [Bool.eq_iff_iff,tog_sat c1,tog_sat c2]
 have key : ∀ X,(∀ e ∈ selL (scL5 b l) ps,Sat n e X) ↔ ∀ e ∈ selL l ps,Sat n e X := fun X => by
  unfold selL
  constructor
  ·intro H e he
   obtain ⟨p,hp,rfl⟩ := List.mem_map.1 he
   exact (S.sat (h p hp).2).1 (H _ (List.mem_map.2 ⟨p,hp,rfl⟩))
  ·intro H e he
   obtain ⟨p,hp,rfl⟩ := List.mem_map.1 he
   exact (S.sat (h p hp).2).2 (H _ (List.mem_map.2 ⟨p,hp,rfl⟩))
 exact exists_congr key
theorem ScL.take {n : Nat} {b : Nat -> Rat} {l : List EqR} (S : ScL n b l) (i : Nat) (X : Row) : (∀ e ∈ (scL5 b l).take i,Sat n e X) ↔ ∀ e ∈ l.take i,Sat n e X := by
 constructor
 ·intro H e he
  obtain ⟨j,hj,rfl⟩ := mem_at he
  rw [List.length_take] at hj
  rw [eqAt_take (by omega)]
  refine (S.sat (by omega)).1 (H _ ?_)
  rw [<- eqAt_take (l := scL5 b l) (i := i) (by omega)]
  exact eqAt_mem (by rw [List.length_take,scL5_len]; omega)
 ·intro H e he
  obtain ⟨j,hj,rfl⟩ := mem_at he
  rw [List.length_take,scL5_len] at hj
  rw [eqAt_take (by omega)]
  refine (S.sat (by omega)).2 (H _ ?_)
  rw [<- eqAt_take (l := l) (i := i) (by omega)]
  exact eqAt_mem (by rw [List.length_take]; omega)
theorem ScL.tog {n : Nat} {b : Nat -> Rat} {l : List EqR} (S : ScL n b l) (i : Nat) : togL n ((scL5 b l).take i) = togL n (l.take i) := by
 rw [Bool.eq_iff_iff,tog_sat (take_chk S.cm i),tog_sat (take_chk S.cl i)]
 exact exists_congr (S.take i)
theorem ScL.all {n : Nat} {b : Nat -> Rat} {l : List EqR} (S : ScL n b l) : togL n (scL5 b l) = togL n l := by
 have := S.tog l.length
 rw [List.take_of_length_le (by rw [scL5_len]; exact Nat.le_refl _),List.take_of_length_le (Nat.le_refl _)] at this
 exact this
theorem ScL.fol {n : Nat} {b : Nat -> Rat} {l : List EqR} (S : ScL n b l) {i : Nat} (hi : i < l.length) (h : l.length < 100) (con : Cns n (l.take i)) : folL n ((scL5 b l).take i) (eqAt (scL5 b l) i) = folL n (l.take i) (eqAt l i) := by
 have con2 : Cns n ((scL5 b l).take i) := by
  obtain ⟨X,hX⟩ := con
  exact ⟨X,(S.take i X).2 hX⟩
 have hi2 : i < (scL5 b l).length := by rw [scL5_len]; exact hi
 rw [Bool.eq_iff_iff,fol_iff (take_chk S.cm i) (by rw [List.length_take,scL5_len]; omega) (chk0_nat S.cm _ (eqAt_mem hi2)) con2,fol_iff (take_chk S.cl i) (by rw [List.length_take]; omega) (S.len _ (eqAt_mem hi)) con]
 unfold Imp
 exact forall_congr' fun X => by rw [S.take i X,S.sat hi]
theorem ScL.minS {n : Nat} {b : Nat -> Rat} {l : List EqR} (S : ScL n b l) : ∀ i,minS n (scL5 b l) i = minS n l i
 | 0 => by unfold Go.Eng.minS; rw [scL5_len]
 | i + 1 => by
  have ml := minS_len n l i
  have mm := minS_mem n l i
  have cl := (chk0 S.cl).2.2.1
  have dl := delL_len i (Go.Eng.minS n l i).1
  have := S.sel (ps := delL i (Go.Eng.minS n l i).1) (fun p hp => mm p (delL_mem.1 hp).1) (by omega)
  show (if togL n (selL (scL5 b l) (delL i (Go.Eng.minS n (scL5 b l) i).1)) = true then _ else _) = if togL n (selL l (delL i (Go.Eng.minS n l i).1)) = true then _ else _
  rw [S.minS i,this]
theorem ScL.minF {n : Nat} {b : Nat -> Rat} {l : List EqR} (S : ScL n b l) : minF n (scL5 b l) = minF n l /\ (Go.Eng.minS n (scL5 b l) (scL5 b l).length).2 = (Go.Eng.minS n l l.length).2 := by
 unfold Go.Eng.minF
 rw [scL5_len,S.minS]
 exact ⟨rfl,rfl⟩
theorem ScL.redS {n : Nat} {b : Nat -> Rat} {l : List EqR} (S : ScL n b l) (h : l.length < 100) : ∀ i,i <= l.length -> redS n (scL5 b l) i = redS n l i
 | 0,_ => rfl
 | i + 1,hi => by
  have ih := S.redS h i (by omega)
  show (if (Go.Eng.redS n (scL5 b l) i).2 = true then _ else _) = if (Go.Eng.redS n l i).2 = true then _ else _
  rw [ih,S.tog i]
  by_cases t : togL n (l.take i) = false
  ·rw [if_pos t,if_pos t]
  ·rw [if_neg t,if_neg t,S.fol (by omega) h ((tog_sat (take_chk S.cl i)).1 (by simpa using t))]
theorem ScL.redL {n : Nat} {b : Nat -> Rat} {l : List EqR} (S : ScL n b l) (h : l.length < 100) : redL n (scL5 b l) = redL n l := by
 unfold Go.Eng.redL
 rw [scL5_len,S.redS h _ (Nat.le_refl _)]
theorem sc_eqs {n : Nat} {b : Nat -> Rat} {l : List EqR} (R : EqsR n l) (hb : ∀ i,i < l.length -> RB (b i) 4) : EqsOK n (scL5 b l) where
 n8 := R.n8
 len := by rw [scL5_len]; have := R.len; omega
 co := fun e he => by
  obtain ⟨i,hi,rfl⟩ := mem_at he
  rw [scL5_len] at hi
  rw [scL5_at hi]
  obtain ⟨a,b1,c⟩ := R.co _ (eqAt_mem hi)
  refine ⟨by show (List.map _ _).length = _; rw [List.length_map]; exact a,fun q hq => ?_,(RQ.of_ok (c.rb.mul (hb i hi) (k := 50) (by omega))).le (by omega)⟩
  obtain ⟨y,hy,rfl⟩ := List.mem_map.1 hq
  exact (RQ.of_ok ((b1 y hy).rb.mul (hb i hi) (k := 50) (by omega))).le (by omega)
theorem NmS.rowsS {hp : Heap} {N M n m : Nat} {l : List EqR} {sl : Value} (S : NmS hp N M n l m sl) (hm : l.length = m) (hl : ∀ e ∈ l,e.coef.length = n) : ∃ a cs,sl = .slice a m m /\ RowsS hp sl l cs := by
 subst hm
 rcases S with ⟨z,rfl⟩ | ⟨z,kL,x,ρ,rfl,a1,a2,a3,a4⟩
 ·have : l = [] := List.eq_nil_of_length_eq_zero z
  subst this
  exact ⟨none,[],rfl,rows_nil _⟩
 ·have l5 : (blkC (nmF n ρ l) l.length).length = l.length * 5 := blkC_len fun _ _ => rfl
  refine ⟨some ⟨kL,0,none⟩,blkC (nmF n ρ l) l.length,rfl,⟨?_,?_,?_⟩⟩
  ·unfold Go.Eng.lay
   obtain ⟨d,hd⟩ : ∃ d,l.length = d + 1 := ⟨l.length - 1,by omega⟩
   rw [hd] at a1 l5 ⊢
   simp only [a1]
   rw [if_pos ⟨Nat.le_refl _,by omega⟩,List.drop_zero,List.take_of_length_le (by omega)]
  ·refine rows_blk (f := nmF n ρ l) a1 rfl fun i hi => ⟨_,rfl,?_⟩
   have hc := hl _ (eqAt_mem hi)
   unfold nmCo
   by_cases hn : n = 0
   ·rw [if_pos hn]
    have : (eqAt l i).coef = [] := List.eq_nil_of_length_eq_zero (by omega)
    rw [this]; rfl
   ·rw [if_neg hn]
    obtain ⟨⟨y,g⟩,_⟩ := (a4 hn).1 i hi
    exact rqs_list g hc (by omega)
  ·refine blkC_all fun i hi => ?_
   show (selfOK _ (nmCo n ρ i) && (eqAt l i).tl.all (selfOK _)) = true
   rw [Bool.and_eq_true]
   refine ⟨?_,rfl⟩
   unfold nmCo
   by_cases hn : n = 0
   ·rw [if_pos hn]; rfl
   ·rw [if_neg hn]
    obtain ⟨⟨y,g⟩,_⟩ := (a4 hn).1 i hi
    simp [selfOK,slOK,g]
theorem scE5_cells (b : Rat) (e : EqR) : setR (setR [.slice none 0 0,.bool false,.string ⟨⟨[]⟩⟩,.string ⟨⟨[]⟩⟩,.int .i64 0] 1 (rE (e.rhs.v * b))) 4 [.int .i64 e.line] = .slice none 0 0 :: (scE5 b e).tl := rfl
end Go.Eng
end
section
namespace Go.Eng.K
open Go.Eng
inductive Ki where
 | b | i (k : IntKind) | s
def kiFs (ty : TypeId -> Option (List Ki)) (P : Program) : List Field -> Nat -> Option (List Ki)
 | [],_ => some []
 | f :: r,off =>
  if f.name ≠ "_" /\ f.offset = off then
   match ty f.type,szOf P f.type with
   | some ks,some n => if ks.length = n then (kiFs ty P r (off + n)).map (ks ++ ·) else none
   | _,_ => none
  else none
def kiTy (P : Program) : Nat -> TypeId -> Option (List Ki)
 | 0,_ => none
 | d + 1,t =>
  match P.underlying t with
  | some .bool => some [.b]
  | some (.int k) => some [.i k]
  | some .string => some [.s]
  | some (.struct fs) => if P.stoodInHeld t then none else kiFs (kiTy P d) P fs.toList 0
  | some (.array len e) => match kiTy P d e,szOf P e with
   | some ks,some n => if ks.length = n then some (List.replicate len ks).flatten else none
   | _,_ => none
  | _ => none
def kmatch : List Ki -> List Value -> Prop
 | [],[] => True
 | .b :: ks,.bool _ :: r => kmatch ks r
 | .i k :: ks,.int k' n :: r => (k' = k /\ (Lit.int k n).wf = true) /\ kmatch ks r
 | .s :: ks,.string s :: r => s.size <= maxLen /\ kmatch ks r
 | _,_ => False
theorem kmatch_append : ∀ {ks ks' : List Ki} {cs cs' : List Value},kmatch ks cs -> kmatch ks' cs' -> kmatch (ks ++ ks') (cs ++ cs')
 | [],_,[],_,_,h => h
 | [],_,_ :: _,_,h,_ => h.elim
 | .b :: ks,ks',cs,cs',h,h' => by
  match cs,h with
  | .bool _ :: r,h => exact kmatch_append (ks := ks) h h'
 | .i k :: ks,ks',cs,cs',h,h' => by
  match cs,h with
  | .int _ _ :: r,h => exact ⟨h.1,kmatch_append (ks := ks) h.2 h'⟩
 | .s :: ks,ks',cs,cs',h,h' => by
  match cs,h with
  | .string _ :: r,h => exact ⟨h.1,kmatch_append (ks := ks) h.2 h'⟩
section
variable {H : Type} {enc : TypeId × Value -> H} {P : Program}
theorem cellsOf_sz {t : TypeId} {n : Nat} (h : szOf P t = some n) : P.cellsOf t = n := by
 unfold Program.cellsOf; unfold szOf at h; rw [h]; rfl
def Plain (P : Program) (enc : TypeId × Value -> H) (fuel : Nat) (t : TypeId) (ks : List Ki) : Prop :=
 ∀ (w : World) (base : Nat) (spare : Nat -> Bool) (held : Bool) (cs : List Value) (x : DataW H × List MemPlace),DataW.trod enc P w base spare held fuel t cs = some x ->
  kmatch ks cs /\ x.2 = [] /\ ∀ w' base' spare' held',DataW.trod enc P w' base' spare' held' fuel t cs = some x
theorem plain_fields {fuel : Nat} {ty : TypeId -> Option (List Ki)} (hty : ∀ t ks n,ty t = some ks -> szOf P t = some n -> ks.length = n -> Plain P enc fuel t ks) :
  ∀ (fs : List Field) (off : Nat) (ks : List Ki),kiFs ty P fs off = some ks -> ∀ (w : World) (base : Nat) (spare : Nat -> Bool) (held : Bool) (cs : List Value) (xs : List (DataW H × List MemPlace)),
   (fs.mapM fun f => DataW.trod enc P w base spare held fuel f.type ((cs.drop f.offset).take (P.cellsOf f.type))) = some xs -> cs.length = off + ks.length ->
   kmatch ks (cs.drop off) /\ xs.flatMap (·.2) = [] /\ ∀ w' base' spare' held',(fs.mapM fun f => DataW.trod enc P w' base' spare' held' fuel f.type ((cs.drop f.offset).take (P.cellsOf f.type))) = some xs
 | [],off,ks,h,w,base,spare,held,cs,xs,hm,hl => by
  simp only [kiFs,Option.some.injEq] at h
  subst h
  simp only [List.mapM_nil,Option.pure_def,Option.some.injEq] at hm
  subst hm
  simp only [List.length_nil,Nat.add_zero] at hl
  rw [List.drop_eq_nil_of_le (by omega)]
  exact ⟨trivial,rfl,fun _ _ _ _ => rfl⟩
 | f :: r,off,ks,h,w,base,spare,held,cs,xs,hm,hl => by
  simp only [kiFs] at h
  split at h
  case isFalse => cases h
  rename_i hc
  obtain ⟨_,hoff⟩ := hc
  split at h
  case h_2 => cases h
  rename_i ks0 n hk hn
  split at h
  case isFalse => cases h
  rename_i hlen
  rw [Option.map_eq_some_iff] at h
  obtain ⟨ks1,h1,rfl⟩ := h
  have hsz := cellsOf_sz hn
  simp only [List.mapM_cons,Option.bind_eq_bind,Option.bind_eq_some_iff,Option.pure_def,Option.some.injEq] at hm
  obtain ⟨y,hy,ys,hys,rfl⟩ := hm
  have hp := hty f.type ks0 n hk hn hlen w base spare held _ y hy
  obtain ⟨p1,p2,p3⟩ := hp
  simp only [List.length_append] at hl
  obtain ⟨q1,q2,q3⟩ := plain_fields hty r (off + n) ks1 h1 w base spare held cs ys hys (by omega)
  rw [hoff,hsz] at p1
  refine ⟨?_,?_,?_⟩
  ·have e : cs.drop off = (cs.drop off).take n ++ cs.drop (off + n) := by
    rw [<- List.drop_drop,List.take_append_drop]
   rw [e]
   exact kmatch_append p1 q1
  ·simp only [List.flatMap_cons,p2,q2,List.nil_append]
  ·intro w' base' spare' held'
   simp only [List.mapM_cons,Option.bind_eq_bind,Option.bind_eq_some_iff,Option.pure_def,Option.some.injEq]
   exact ⟨y,p3 w' base' spare' held',ys,q3 w' base' spare' held',rfl⟩
theorem plain_elems {fuel : Nat} {e : TypeId} {ks : List Ki} {n : Nat} (hn : szOf P e = some n) (hl : ks.length = n) (he : Plain P enc fuel e ks) :
  ∀ (m i0 : Nat) (w : World) (base : Nat) (spare : Nat -> Bool) (held : Bool) (cs : List Value) (xs : List (DataW H × List MemPlace)),
   ((List.range' i0 m).mapM fun i => DataW.trod enc P w base spare held fuel e ((cs.drop (i * P.cellsOf e)).take (P.cellsOf e))) = some xs -> cs.length = (i0 + m) * n ->
   kmatch (List.replicate m ks).flatten (cs.drop (i0 * n)) /\ xs.flatMap (·.2) = [] /\ ∀ w' base' spare' held',((List.range' i0 m).mapM fun i => DataW.trod enc P w' base' spare' held' fuel e ((cs.drop (i * P.cellsOf e)).take (P.cellsOf e))) = some xs
 | 0,i0,w,base,spare,held,cs,xs,hm,hlen => by
  simp only [List.range'_zero,List.mapM_nil,Option.pure_def,Option.some.injEq] at hm
  subst hm
  simp only [Nat.add_zero] at hlen
  rw [List.drop_eq_nil_of_le (by omega)]
  exact ⟨trivial,rfl,fun _ _ _ _ => by simp⟩
 | m + 1,i0,w,base,spare,held,cs,xs,hm,hlen => by
  have hsz := cellsOf_sz hn
  simp only [List.range'_succ,List.mapM_cons,Option.bind_eq_bind,Option.bind_eq_some_iff,Option.pure_def,Option.some.injEq] at hm
  obtain ⟨y,hy,ys,hys,rfl⟩ := hm
  obtain ⟨p1,p2,p3⟩ := he w base spare held _ y hy
  obtain ⟨q1,q2,q3⟩ := plain_elems hn hl he m (i0 + 1) w base spare held cs ys hys (by rw [hlen]; congr 1; omega)
  rw [hsz] at p1
  refine ⟨?_,?_,?_⟩
  ·rw [List.replicate_succ,List.flatten_cons]
   have e : cs.drop (i0 * n) = (cs.drop (i0 * n)).take n ++ cs.drop ((i0 + 1) * n) := by
    rw [Nat.succ_mul,<- List.drop_drop,List.take_append_drop]
   rw [e]
   exact kmatch_append p1 q1
  ·simp only [List.flatMap_cons,p2,q2,List.nil_append]
  ·intro w' base' spare' held'
   simp only [List.range'_succ,List.mapM_cons,Option.bind_eq_bind,Option.bind_eq_some_iff,Option.pure_def,Option.some.injEq]
   exact ⟨y,p3 w' base' spare' held',ys,q3 w' base' spare' held',rfl⟩
theorem plain_ty : ∀ (fuel d : Nat) (t : TypeId) (ks : List Ki) (n : Nat),kiTy P d t = some ks -> szOf P t = some n -> ks.length = n -> Plain P enc fuel t ks
 | 0,d,t,ks,n,h,hn,hl => by intro w base spare held cs x hx; simp [DataW.trod] at hx
 | fuel + 1,0,t,ks,n,h,hn,hl => by simp [kiTy] at h
 | fuel + 1,d + 1,t,ks,n,h,hn,hl => by
  intro w base spare held cs x hx
  unfold kiTy at h
  unfold DataW.trod at hx ⊢
  split at h
  ·rename_i hu
   cases h
   rw [hu] at hx ⊢
   match cs,hx with
   | [.bool b],hx => simp only [Option.some.injEq] at hx; subst hx; exact ⟨trivial,rfl,fun _ _ _ _ => rfl⟩
  ·rename_i k hu
   cases h
   rw [hu] at hx ⊢
   match cs,hx with
   | [.int k' m],hx =>
    simp only at hx
    split at hx
    ·rename_i hc
     simp only [Option.some.injEq] at hx; subst hx
     exact ⟨⟨hc,trivial⟩,rfl,fun _ _ _ _ => by simp only; rw [if_pos hc]⟩
    ·cases hx
  ·rename_i hu
   cases h
   rw [hu] at hx ⊢
   match cs,hx with
   | [.string s],hx =>
    simp only at hx
    split at hx
    ·rename_i hc
     simp only [Option.some.injEq] at hx; subst hx
     exact ⟨⟨hc,trivial⟩,rfl,fun _ _ _ _ => by simp only; rw [if_pos hc]⟩
    ·cases hx
  ·rename_i fs hu
   split at h
   ·cases h
   rw [hu] at hx ⊢
   simp only at hx ⊢
   split at hx
   case isFalse => cases hx
   rename_i hlen
   rw [Option.map_eq_some_iff] at hx
   obtain ⟨xs,hxs,rfl⟩ := hx
   rw [cellsOf_sz hn,<- hl] at hlen
   obtain ⟨p1,p2,p3⟩ := plain_fields (fuel := fuel) (fun t ks n h1 h2 h3 => plain_ty fuel d t ks n h1 h2 h3) fs.toList 0 ks h w base spare held cs xs hxs (by omega)
   refine ⟨by simpa using p1,p2,fun w' base' spare' held' => ?_⟩
   rw [if_pos (by rw [cellsOf_sz hn,<- hl,hlen]),p3]; rfl
  ·rename_i len e hu
   split at h
   case h_2 => cases h
   rename_i ks0 m hk hm
   split at h
   case isFalse => cases h
   rename_i hlm
   simp only [Option.some.injEq] at h
   subst h
   rw [hu] at hx ⊢
   simp only at hx ⊢
   split at hx
   case isFalse => cases hx
   rename_i hlen
   rw [Option.map_eq_some_iff] at hx
   obtain ⟨xs,hxs,rfl⟩ := hx
   rw [cellsOf_sz hn,<- hl] at hlen
   rw [List.range_eq_range'] at hxs
   have hfl : ((List.replicate len ks0).flatten).length = len * m := by rw [List.length_flatten]; simp [hlm]
   obtain ⟨p1,p2,p3⟩ := plain_elems hm hlm (plain_ty fuel d e ks0 m hk hm hlm) len 0 w base spare held cs xs hxs (by rw [hlen,hfl,Nat.zero_add])
   refine ⟨by simpa using p1,p2,fun w' base' spare' held' => ?_⟩
   rw [if_pos (by rw [cellsOf_sz hn,<- hl,hlen]),List.range_eq_range',p3]; rfl
  ·cases h
end
theorem wf_i64 {n : Int} (h : (Lit.int .i64 n).wf = true) : -9223372036854775808 <= n /\ n <= 9223372036854775807 := by simpa [Lit.wf,IntKind.min,IntKind.max,IntKind.signed,IntKind.bits] using h
end Go.Eng.K
end
section
namespace Go.Eng.K
open Go.Eng
theorem vr_ex (β : Emb) : ∀ v : Value,∃ a,VR β a v := by
 have key : ∀ (n : Nat) (v : Value),SizeOf.sizeOf v < n -> ∃ a,VR β a v := by
  intro n
  induction n with
  | zero => intro v h; omega
  | succ n ih =>
   intro v h
   have list : ∀ l : List Value,(∀ x ∈ l,SizeOf.sizeOf x < n) -> ∃ bs,VRs β bs l := by
    intro l
    induction l with
    | nil => intro _; exact ⟨[],.nil⟩
    | cons x r ihl =>
     intro hx
     obtain ⟨a,ha⟩ := ih x (hx x (List.mem_cons_self ..))
     obtain ⟨bs,hs⟩ := ihl (fun y hy => hx y (List.mem_cons_of_mem _ hy))
     exact ⟨a :: bs,.cons _ _ _ _ ha hs⟩
   by_cases ho : okCell v = true
   ·exact ⟨.chan none,.junk none v ho⟩
   ·match v,ho,h with
    | .agg ⟨l⟩,_,h =>
     obtain ⟨bs,hs⟩ := list l (fun x hx => by
      have := List.sizeOf_lt_of_mem hx
      simp only [Value.agg.sizeOf_spec,Array.mk.sizeOf_spec] at h
      omega)
     exact ⟨.agg ⟨bs⟩,.agg _ _ hs⟩
    | .tuple ⟨l⟩,_,h =>
     obtain ⟨bs,hs⟩ := list l (fun x hx => by
      have := List.sizeOf_lt_of_mem hx
      simp only [Value.tuple.sizeOf_spec,Array.mk.sizeOf_spec] at h
      omega)
     exact ⟨.tuple ⟨bs⟩,.tup _ _ hs⟩
 exact fun v => key (SizeOf.sizeOf v + 1) v (Nat.lt_succ_self _)
def mirE (W : World) : Emb := fun k => if k < W.heap.size then some ⟨k,0,[]⟩ else none
open Classical in
noncomputable def absV (W : World) (v : Value) : Value :=
 match v with
 | .slice (some a) len cap =>
  if len = 0 then .slice (some ⟨0,0,some 1⟩) 0 0
  else if a.spot = none /\ a.block < W.heap.size then .slice (some a) len cap
  else Classical.choose (vr_ex (mirE W) (.slice (some a) len cap))
 | v => if isBase v = true then v else Classical.choose (vr_ex (mirE W) v)
theorem absV_vr (W : World) (v : Value) : VR (mirE W) (absV W v) v := by
 unfold absV
 split
 ·rename_i a len cap
  split
  ·rename_i h; subst h; exact .sle _ _
  ·split
   ·rename_i h
    obtain ⟨b,off,s⟩ := a
    obtain ⟨h1,h2⟩ := h
    simp only at h1 h2
    subst h1
    exact VR.sl b off len cap ⟨b,0,[]⟩ (by unfold mirE; rw [if_pos h2])
   ·exact Classical.choose_spec (vr_ex (mirE W) _)
 ·split
  ·rename_i h; exact .base _ h
  ·exact Classical.choose_spec (vr_ex (mirE W) _)
theorem absV_base {W : World} {v : Value} (h : isBase v = true) : absV W v = v := by
 unfold absV
 split
 ·simp [isBase] at h
 ·rw [if_pos h]
theorem absV_map (W : World) : ∀ l : List Value,VRs (mirE W) (l.map (absV W)) l
 | [] => .nil
 | v :: r => .cons _ _ _ _ (absV_vr W v) (absV_map W r)
theorem absV_bases {W : World} : ∀ {l : List Value},l.all isBase = true -> l.map (absV W) = l
 | [],_ => rfl
 | v :: r,h => by
  simp only [List.all_cons,Bool.and_eq_true] at h
  rw [List.map_cons,absV_base h.1,absV_bases h.2]
noncomputable def mirB (W : World) (b : Nat) : Option Blk :=
 match W.heap[b]? with
 | some (.cells c elem _) => some ⟨elem,0,true,c.toList.map (absV W)⟩
 | _ => none
noncomputable def mirror (W : World) : Heap := (List.range W.heap.size).map fun b => (b,mirB W b)
theorem hget_map {f : Nat -> Option Blk} {k : Nat} : ∀ (l : List Nat),hget (l.map fun b => (b,f b)) k = if k ∈ l then f k else none
 | [] => rfl
 | b :: r => by
  simp only [List.map_cons,hget]
  by_cases e : b = k
  ·subst e; simp
  ·rw [if_neg e,hget_map r]
   simp [Ne.symm e]
theorem mir_get (W : World) (k : Nat) : hget (mirror W) k = mirB W k := by
 unfold mirror
 rw [hget_map]
 by_cases h : k < W.heap.size
 ·rw [if_pos (List.mem_range.2 h)]
 ·rw [if_neg (by simpa using h)]
  unfold mirB
  rw [Array.getElem?_eq_none (by omega)]
theorem mir_blk {W : World} {k : Nat} {blk : Blk} (h : hget (mirror W) k = some blk) : k < W.heap.size /\ ∃ C fr,W.heap[k]? = some (.cells ⟨C⟩ blk.elem fr) /\ blk.sz = 0 /\ blk.cells = C.map (absV W) := by
 rw [mir_get] at h
 unfold mirB at h
 split at h
 ·rename_i c elem fr hk
  cases h
  refine ⟨?_,c.toList,fr,hk,rfl,rfl⟩
  rcases Nat.lt_or_ge k W.heap.size with h | h
  ·exact h
  ·rw [Array.getElem?_eq_none h] at hk; cases hk
 ·cases h
theorem mir_wr {W : World} {k : Nat} : ¬ wr (mirror W) k := fun ⟨blk,h1,h2⟩ => by
 obtain ⟨_,C,fr,_,h3,_⟩ := mir_blk h1
 exact h2 h3
theorem mir_rel (W : World) : Rel (mirE W) (mirror W) W := by
 refine ⟨fun k blk hk => ?_,fun k k' L L' _ b => absurd b mir_wr,fun k L h => ?_⟩
 ·obtain ⟨h1,C,fr,h2,h3,h4⟩ := mir_blk hk
  refine ⟨⟨k,0,[]⟩,C,fr,by unfold mirE; rw [if_pos h1],by simpa using h2,fun h => absurd h3 h,by rw [h4]; exact absV_map W C,by simp,fun _ => rfl⟩
 ·unfold mirE at h
  split at h
  ·rename_i hk; cases h; exact hk
  ·cases h
theorem mir_calls {P : Program} {f : Nat} {S : List Value -> Heap -> Nat -> Option Out} (hS : SpecOK P f S) {W : World} {aargs args : List Value} {v : Value} (h : S aargs (mirror W) W.heap.size = some (v,[],0))
  (ha : VRs (mirE W) aargs args) (hv : isBase v = true) :
  Calls P f ⟨args⟩ W fun e W' => e = .returned v /\ W'.os = W.os /\ W'.output = W.output /\ ∀ b,b < W.heap.size -> W'.heap[b]? = W.heap[b]? := by
 have h := hS.ok aargs (mirror W) W.heap.size (v,[],0) h (mirE W) W args ha (mir_rel W) (fun k h1 h2 => by simp only at h2; omega)
  ⟨W.heap.size,fun k hk => by
   rcases Nat.lt_or_ge k W.heap.size with h | h
   ·exact h
   ·exact absurd (by unfold mirE; rw [if_neg (by omega)]) hk⟩
 refine h.mono ?_
 rintro e W' ⟨β',v',he,hvr,hrel,hfr,_⟩
 exact ⟨by rw [he,hvr.base_left hv],hfr.os,hfr.out,fun b hb => hfr.keep b hb (fun k L hk => absurd hk mir_wr)⟩
theorem kept_of {W W' : World} (h1 : W'.os = W.os) (h2 : W'.output = W.output) (h3 : ∀ b,b < W.heap.size -> W'.heap[b]? = W.heap[b]?) : W.keptBut W' (fun _ => False) := by
 refine ⟨h1,h2,fun i hi => ?_⟩
 rw [h3 i hi]
 cases W.heap[i]? with
 | none => rfl
 | some o =>
  cases o with
  | cells c t fr => exact ⟨rfl,rfl,rfl,fun _ _ => rfl⟩
  | map es cl => exact .inr ⟨rfl,rfl⟩
  | _ => rfl
section
variable {H : Type} {enc : TypeId × Value -> H} {P : Program}
theorem trodAll_old {W W' : World} (hs : ∀ b,b < W.heap.size -> W'.heap[b]? = W.heap[b]?) {base : Nat} {sp : Nat -> Bool} {held : Bool} :
  ∀ {ts : List TypeId} {vs : List Value} {ds : List (DataW H)} {ps : List MemPlace},DataW.TrodAll enc P W base sp held ts vs ds ps -> DataW.TrodAll enc P W' base sp held ts vs ds ps
 | [],[],[],_,h => h
 | t :: ts,v :: vs,d :: ds,ps,⟨p,q,⟨n,h1⟩,h2,e⟩ => by
  have lt := DataW.trod_lt n _ _ _ h1
  refine ⟨p,q,⟨n,DataW.trod_carry n _ _ _ h1 (fun x hx => ?_)⟩,trodAll_old hs h2,e⟩
  have hb := lt x hx
  cases x with
  | cell b off => simp only [MemPlace.block] at hb; simp only [World.sameAt,World.cell?,hs b hb]
  | map b => simp only [MemPlace.block] at hb; simp only [World.sameAt,hs b hb]
 | [],[],_ :: _,_,h => h.elim
 | [],_ :: _,_,_,h => by cases h
 | _ :: _,[],_,_,h => by cases h
 | _ :: _,_ :: _,[],_,h => by cases h
theorem args_again {W W' : World} (hl : laidOutB P = true) (hm : mapsRowed P = true) (hz : ((List.range P.types.size).all fun t => match P.underlying t with | some (.slice e) => decide (0 < P.cellsOf e) | _ => true) = true)
  (hs : ∀ b,b < W.heap.size -> W'.heap[b]? = W.heap[b]?) {ts : List TypeId} (ht : ts.all (fun t => decide (t < P.types.size)) = true) {vs : List Value} {ds : List (DataW H)} {ps : List MemPlace} (h : DataW.TrodAll enc P W 0 (fun _ => true) true ts vs ds ps) :
  DataW.TrodAll enc P W' 0 (fun b => decide (b < W.heap.size)) true ts vs ds ps := by
 refine DataW.TrodAll.respare (kids_rows hl hm) (slices_full_of P hz) (fun t h => of_decide_eq_true (List.all_eq_true.1 ht t h)) (trodAll_old hs h) (fun p hp => ?_)
 exact decide_eq_true (DataW.TrodAll.lt h p hp)
theorem mir_at {W : World} {a : Addr} {n : Nat} {cs : List Value} (hn : 0 < n) (h : W.cells? 0 a n = some cs) :
  a.spot = none /\ a.block < W.heap.size /\ ∃ blk,hget (mirror W) a.block = some blk /\ a.off + n <= blk.cells.length /\ (blk.cells.drop a.off).take n = cs.map (absV W) := by
 obtain ⟨_,hlen,hc⟩ := World.cells?_some h
 have h0 := hc 0 hn
 rw [List.getElem?_eq_getElem (by omega)] at h0
 have e0 : a.add 0 = a := rfl
 rw [e0] at h0
 unfold World.cell? at h0
 split at h0
 case h_2 => cases h0
 rename_i c elem fr hk
 split at h0
 case isTrue => cases h0
 rename_i hsp
 have hspot : a.spot = none := by cases h : a.spot with | none => rfl | some s => rw [h] at hsp; simp at hsp
 have hlt : a.block < W.heap.size := by
  rcases Nat.lt_or_ge a.block W.heap.size with h | h
  ·exact h
  ·rw [Array.getElem?_eq_none h] at hk; cases hk
 have cell : ∀ i,i < n -> c.toList[a.off + i]? = cs[i]? := fun i hi => by
  have := hc i hi
  rw [<- this]
  have ea : a.add i = ⟨a.block,a.off + i,none⟩ := by
   unfold Addr.add
   split
   ·rename_i h0; subst h0; cases a; simp_all
   ·rfl
  rw [ea]
  simp only [World.cell?,hk]
  simp
 have hle : a.off + n <= c.toList.length := by
  have := cell (n - 1) (by omega)
  rw [List.getElem?_eq_getElem (by omega : n - 1 < cs.length)] at this
  have := (List.getElem?_eq_some_iff.1 this).1
  omega
 refine ⟨hspot,hlt,⟨elem,0,true,c.toList.map (absV W)⟩,?_,by simpa using hle,?_⟩
 ·rw [mir_get]; unfold mirB; rw [hk]
 ·refine List.ext_getElem? fun i => ?_
  rw [List.getElem?_take]
  by_cases hi : i < n
  ·rw [if_pos hi,List.getElem?_drop,List.getElem?_map,List.getElem?_map,cell i hi]
  ·rw [if_neg hi,List.getElem?_eq_none (by simp; omega)]
theorem many_ex {α : Type} {sz : Nat} {dec : List Value -> Option α} : ∀ (l : Nat) (cs : List Value),(∀ i,i < l -> ∃ x,dec ((cs.drop (i * sz)).take sz) = some x) -> ∃ xs,many sz dec l cs = some xs
 | 0,cs,_ => ⟨[],rfl⟩
 | l + 1,cs,h => by
  obtain ⟨x,hx⟩ := h 0 (by omega)
  simp only [Nat.zero_mul,List.drop_zero] at hx
  obtain ⟨xs,hxs⟩ := many_ex l (cs.drop sz) (fun i hi => by
   obtain ⟨y,hy⟩ := h (i + 1) (by omega)
   refine ⟨y,?_⟩
   rw [List.drop_drop,<- hy,Nat.succ_mul,Nat.add_comm (i * sz) sz])
  refine ⟨x :: xs,?_⟩
  unfold many
  simp only [hx,hxs]
theorem mir_list {W : World} {α : Type} {dec : List Value -> Option α} {t e : TypeId} {n fuel : Nat} {held : Bool} {sv : Value} {x : DataW H × List MemPlace} (ht : P.underlying t = some (.slice e)) (hsz : P.cellsOf e = n) (hn : 0 < n)
  (h : DataW.trod enc P W 0 (fun _ => true) held fuel t [sv] = some x)
  (hdec : ∀ (m : Nat) (cs : List Value) (y : DataW H × List MemPlace),DataW.trod enc P W 0 (fun _ => true) held m e cs = some y -> ∃ z,dec (cs.map (absV W)) = some z) :
  ∃ xs,listAt n dec (mirror W) (absV W sv) = some xs /\ xs.length <= maxLen := by
 rcases Go.Deep.open_slice ht h with ⟨h1,_⟩ | ⟨a,len,cap,m,k,D,Pl,h1,_,hl,hm,hmm,_,hx⟩
 ·simp only [List.cons.injEq,and_true] at h1
  subst h1
  exact ⟨[],by rw [absV_base rfl]; rfl,by simp⟩
 ·simp only [List.cons.injEq,and_true] at h1
  subst h1
  simp only [if_true] at hmm
  subst hmm
  rw [hsz] at hx
  by_cases h0 : len = 0
  ·subst h0
   exact ⟨[],by unfold absV; simp only [if_true]; rfl,by simp⟩
  ·obtain ⟨c0,hc0,_⟩ := hx 0 (by omega)
   rw [Nat.zero_mul] at hc0
   obtain ⟨s1,s2,blk,s3,_,_⟩ := mir_at hn hc0
   have ev : absV W (.slice (some a) len m) = .slice (some a) len m := by unfold absV; simp only; rw [if_neg h0,if_pos ⟨s1,s2⟩]
   obtain ⟨b,off,sp⟩ := a
   replace s1 : sp = none := s1
   replace s3 : hget (mirror W) b = some blk := s3
   subst s1
   have cell : ∀ i,i < len -> ∃ cs,off + i * n + n <= blk.cells.length /\ (blk.cells.drop (off + i * n)).take n = cs.map (absV W) /\ ∃ y,DataW.trod enc P W 0 (fun _ => true) held k e cs = some y := fun i hi => by
    obtain ⟨cs,hc,hy⟩ := hx i (by omega)
    obtain ⟨q1,q2,blk',q3,q4,q5⟩ := mir_at hn hc
    have ea : (⟨b,off,none⟩ : Addr).add (i * n) = ⟨b,off + i * n,none⟩ := add_none _ _ _
    rw [ea] at q3 q4 q5
    replace q3 : hget (mirror W) b = some blk' := q3
    replace q4 : off + i * n + n <= blk'.cells.length := q4
    replace q5 : (blk'.cells.drop (off + i * n)).take n = cs.map (absV W) := q5
    rw [s3] at q3; cases q3
    exact ⟨cs,q4,q5,_,hy⟩
   have hle : off + len * n <= blk.cells.length := by
    obtain ⟨_,q,_⟩ := cell (len - 1) (by omega)
    obtain ⟨l',rfl⟩ : ∃ l',len = l' + 1 := ⟨len - 1,by omega⟩
    simp only [Nat.add_sub_cancel] at q
    rw [Nat.succ_mul]; omega
   have la : lay n (mirror W) (.slice (some ⟨b,off,none⟩) len m) = some ((blk.cells.drop off).take (len * n)) := by
    obtain ⟨l',rfl⟩ : ∃ l',len = l' + 1 := ⟨len - 1,by omega⟩
    unfold lay
    simp only [s3]
    rw [if_pos ⟨hl,hle⟩]
   obtain ⟨xs,hxs⟩ := many_ex (sz := n) (dec := dec) len ((blk.cells.drop off).take (len * n)) (fun i hi => by
    obtain ⟨cs,q1,q2,y,q3⟩ := cell i hi
    obtain ⟨z,hz⟩ := hdec k cs y q3
    refine ⟨z,?_⟩
    rw [List.drop_take,List.take_take,List.drop_drop]
    have : n <= len * n - i * n := by rw [<- Nat.sub_mul]; exact Nat.le_mul_of_pos_left _ (by omega)
    rw [Nat.min_eq_left this,q2]
    exact hz)
   refine ⟨xs,?_,?_⟩
   ·rw [ev]
    unfold listAt
    rw [la]
    exact hxs
   ·rw [(many_get hxs).1]; omega
theorem kmatch_base : ∀ {ks : List Ki} {cs : List Value},kmatch ks cs -> cs.all isBase = true
 | [],[],_ => rfl
 | .b :: ks,cs,h => by
  match cs,h with
  | .bool _ :: r,h => simp only [List.all_cons,isBase,Bool.true_and]; exact kmatch_base (ks := ks) h
 | .i k :: ks,cs,h => by
  match cs,h with
  | .int _ _ :: r,h => simp only [List.all_cons,isBase,Bool.true_and]; exact kmatch_base (ks := ks) h.2
 | .s :: ks,cs,h => by
  match cs,h with
  | .string _ :: r,h => simp only [List.all_cons,isBase,Bool.true_and]; exact kmatch_base (ks := ks) h.2
end
end Go.Eng.K
end
section
namespace Go.Eng
structure Pt where
 (s1 : Bool) (l1 : List UInt8) (s2 : Bool) (l2 : List UInt8) (s3 : Bool) (l3 : List UInt8) (s4 : Bool) (l4 : List UInt8)
deriving DecidableEq
namespace Pt
def cells (p : Pt) : List Value := [.bool p.s1,.string ⟨⟨p.l1⟩⟩,.bool p.s2,.string ⟨⟨p.l2⟩⟩,.bool p.s3,.string ⟨⟨p.l3⟩⟩,.bool p.s4,.string ⟨⟨p.l4⟩⟩]
def x (p : Pt) : Int := sv p.s1 p.l1
def y (p : Pt) : Int := sv p.s2 p.l2
def z (p : Pt) : Int := sv p.s3 p.l3
def w (p : Pt) : Int := sv p.s4 p.l4
def cmp (p q : Pt) : Int := cmp4 p.x p.y p.z p.w q.x q.y q.z q.w
def on (p q r : Pt) : Prop := flt p.x p.y p.z p.w q.x q.y q.z q.w r.x r.y r.z r.w
instance {p q r : Pt} : Decidable (on p q r) := by unfold on; infer_instance
def ok (p : Pt) : Prop := (p.l1.length <= 65536 /\ p.l2.length <= 65536 /\ p.l3.length <= 65536 /\ p.l4.length <= 65536) /\ 0 < p.w
instance {p : Pt} : Decidable p.ok := by unfold ok; infer_instance
def hi (p q : Pt) : Pt := if 0 < cmp p q then p else q
end Pt
end Go.Eng
end
section
namespace Go.Eng
namespace Pt
def dflt : Pt := ⟨false,[],false,[],false,[],false,[]⟩
def sz (k : Nat) (p : Pt) : Prop := p.l1.length <= k /\ p.l2.length <= k /\ p.l3.length <= k /\ p.l4.length <= k
instance {k : Nat} {p : Pt} : Decidable (p.sz k) := by unfold sz; infer_instance
def c1 (p : Pt) : List Value := [.bool p.s1,.string ⟨⟨p.l1⟩⟩]
def c2 (p : Pt) : List Value := [.bool p.s2,.string ⟨⟨p.l2⟩⟩]
def c3 (p : Pt) : List Value := [.bool p.s3,.string ⟨⟨p.l3⟩⟩]
theorem g1 (p : Pt) : p.cells.take 2 = p.c1 := rfl
theorem g2 (p : Pt) : (p.cells.drop 2).take 2 = p.c2 := rfl
theorem g3 (p : Pt) : (p.cells.drop 4).take 2 = p.c3 := rfl
end Pt
def ptAt (l : List Pt) (i : Nat) : Pt := (l[i]?).getD Pt.dflt
def awx (a b : Pt) : Int := b.x * a.w - a.x * b.w
def awy (a b : Pt) : Int := b.y * a.w - a.y * b.w
def awz (a b : Pt) : Int := b.z * a.w - a.z * b.w
def lftZ (P a b x : Pt) : Int :=
 0 + P.x * (awy a b * awz a x - awz a b * awy a x) + P.y * (awz a b * awx a x - awx a b * awz a x) + P.z * (awx a b * awy a x - awy a b * awx a x)
def turnsP (P : Pt) (l : List Pt) : Prop := ∀ i,i < l.length -> ∀ j,j < l.length -> j ≠ i -> j ≠ (i + 1) % l.length -> 0 < lftZ P (ptAt l i) (ptAt l ((i + 1) % l.length)) (ptAt l j)
instance {P : Pt} {l : List Pt} : Decidable (turnsP P l) := by unfold turnsP; infer_instance
end Go.Eng
end
section
namespace Go.Eng.K
open Go.Eng
section
variable {H : Type} {enc : TypeId × Value -> H} {P : Program}
theorem trod_struct {w : World} {base : Nat} {spare : Nat -> Bool} {held : Bool} {fuel : Nat} {t : TypeId} {cs : List Value} {x : DataW H × List MemPlace} {fs : Array Field} (hu : P.underlying t = some (.struct fs))
  (h : DataW.trod enc P w base spare held fuel t cs = some x) :
  cs.length = P.cellsOf t /\ ∃ fuel' xs,fs.toList.mapM (fun f => DataW.trod enc P w base spare held fuel' f.type ((cs.drop f.offset).take (P.cellsOf f.type))) = some xs /\ x = (.agg (xs.map (·.1)),xs.flatMap (·.2)) := by
 cases fuel with
 | zero => simp [DataW.trod] at h
 | succ fuel =>
  unfold DataW.trod at h
  rw [hu] at h
  simp only at h
  split at h
  case isFalse => cases h
  rename_i hl
  rw [Option.map_eq_some_iff] at h
  obtain ⟨xs,hx,rfl⟩ := h
  exact ⟨hl,fuel,xs,hx,rfl⟩
def sumL : List Nat -> Nat
 | [] => 0
 | x :: r => x + sumL r
variable (bulk : DataW H -> Nat) (b1 : ∀ b : List UInt8,b.length <= bulk (.lit (.string b))) (b2 : ∀ ps : List (DataW H),sumL (ps.map bulk) <= bulk (.agg ps))
include b1 b2 in
include b1 b2 in
end
end Go.Eng.K
end
section
namespace Go.Eng.K
open Go.Eng Go.WideShapes
section
variable {H : Type} {enc : TypeId × Value -> H} {P : Program}
theorem km_q {cs : List Value} (h : kmatch [.b,.s,.s] cs) : ∃ q : RQ,cs = q.cells := by
 match cs,h with
 | [.bool s,.string ⟨⟨n⟩⟩,.string ⟨⟨d⟩⟩],_ => exact ⟨⟨s,n,d⟩,rfl⟩
theorem km_i {k : IntKind} {cs : List Value} (h : kmatch [.i k] cs) : ∃ n,cs = [.int k n] := by
 match cs,h with
 | [.int k' n],h => obtain ⟨⟨rfl,_⟩,_⟩ := h; exact ⟨n,rfl⟩
theorem rats_trod {W : World} {fuel : Nat} {tv tq : TypeId} {sv : Value} {x : DataW H × List MemPlace} (hv : P.underlying tv = some (.slice tq)) (hq : kiTy P 20 tq = some [.b,.s,.s]) (hs : szOf P tq = some 3)
  (h : DataW.trod enc P W 0 (fun _ => true) true fuel tv [sv] = some x) : ∃ l,listAt 3 dec1 (mirror W) (absV W sv) = some l /\ l.length <= maxLen :=
 mir_list (dec := dec1) (n := 3) hv (cellsOf_sz hs) (by omega) h (fun m cs y hy => by
  obtain ⟨km,_,_⟩ := plain_ty m 20 tq _ 3 hq hs rfl W 0 _ true _ y hy
  obtain ⟨q,eq⟩ := km_q km
  rw [absV_bases (kmatch_base km),eq]
  exact ⟨q,rfl⟩)
theorem five {l : List Value} (h : l.length = 5) : ∃ a b c d e,l = [a,b,c,d,e] := by
 match l,h with
 | [a,b,c,d,e],_ => exact ⟨a,b,c,d,e,rfl⟩
theorem open_eqs {W : World} {base : Nat} {t te tc tq ti : TypeId} {n1 n2 n3 g1 g2 g3 q1 q2 q3 : String} {b1 b2 b3 c1 c2 c3 : _} {v : Value} {d : DataW H} {ps : List MemPlace} (ht : P.underlying t = some (.slice te))
  (hu : P.underlying te = some (.struct #[⟨n1,tc,0,b1,g1,q1,c1⟩,⟨n2,tq,1,b2,g2,q2,c2⟩,⟨n3,ti,4,b3,g3,q3,c3⟩])) (hce : P.cellsOf te = 5) (hv : P.underlying tc = some (.slice tq)) (hcc : P.cellsOf tc = 1)
  (hq : kiTy P 20 tq = some [.b,.s,.s]) (hs : szOf P tq = some 3) (hi : kiTy P 20 ti = some [.i .i64]) (hsi : szOf P ti = some 1)
  (hval : Value.okWide P W .any base t v) (h : DataW.Trod enc P W 0 (fun _ => true) true t v d ps) : ∃ l,decRows (mirror W) (absV W v) = some l /\ l.length <= maxLen := by
 obtain ⟨a,len,cap,rfl⟩ := okWide_slice ht hval
 obtain ⟨fuel,h⟩ := h
 unfold decRows
 refine mir_list (dec := decEq (mirror W)) (n := 5) ht hce (by omega) h (fun m cs y hy => ?_)
 obtain ⟨hl,fuel',xs,hx,_⟩ := trod_struct hu hy
 rw [hce] at hl
 simp only [List.mapM_cons,List.mapM_nil,Option.bind_eq_bind,Option.bind_eq_some_iff,Option.pure_def,Option.some.injEq] at hx
 obtain ⟨y1,hy1,ys,⟨y2,hy2,zs,⟨y3,hy3,_⟩,_⟩,_⟩ := hx
 have e3 : P.cellsOf tq = 3 := cellsOf_sz hs
 have e1 : P.cellsOf ti = 1 := cellsOf_sz hsi
 rw [hcc] at hy1
 rw [e3] at hy2
 rw [e1] at hy3
 obtain ⟨k0,k1,k2,k3,k4,rfl⟩ := five hl
 have hy1 : DataW.trod enc P W 0 (fun _ => true) true fuel' tc [k0] = some y1 := hy1
 have hy2 : DataW.trod enc P W 0 (fun _ => true) true fuel' tq [k1,k2,k3] = some y2 := hy2
 have hy3 : DataW.trod enc P W 0 (fun _ => true) true fuel' ti [k4] = some y3 := hy3
 obtain ⟨l,hl1,_⟩ := rats_trod hv hq hs hy1
 obtain ⟨km,_,_⟩ := plain_ty fuel' 20 tq _ 3 hq hs rfl W 0 _ true _ y2 hy2
 obtain ⟨q,eq⟩ := km_q km
 obtain ⟨ki,_,_⟩ := plain_ty fuel' 20 ti _ 1 hi hsi rfl W 0 _ true _ y3 hy3
 obtain ⟨n,en⟩ := km_i ki
 simp only [RQ.cells,List.cons.injEq,and_true] at eq en
 obtain ⟨rfl,rfl,rfl⟩ := eq
 subst en
 refine ⟨⟨l,q,n⟩,?_⟩
 simp only [List.map_cons,List.map_nil]
 rw [absV_base (v := .bool q.s) rfl,absV_base (v := .string ⟨⟨q.n⟩⟩) rfl,absV_base (v := .string ⟨⟨q.d⟩⟩) rfl,absV_base (v := .int .i64 n) rfl]
 exact decEq_of (e := ⟨l,q,n⟩) hl1
end
end Go.Eng.K
end
section
namespace Go.Eng
open Go
def decI8 : List Value -> Option Int
 | [.int .i8 z] => if -128 <= z /\ z <= 127 then some z else none
 | _ => none
theorem decI8_eq {cs : List Value} {z : Int} (e : decI8 cs = some z) : cs = [.int .i8 z] /\ -128 <= z /\ z <= 127 := by
 unfold decI8 at e
 split at e
 ·split at e
  ·cases e; exact ⟨rfl,‹_›⟩
  ·cases e
 ·cases e
end Go.Eng
namespace Go.Eng.K
open Go.Eng Go.WideShapes
theorem wf_i8 {n : Int} (h : (Lit.int .i8 n).wf = true) : -128 <= n /\ n <= 127 := by simpa [Lit.wf,IntKind.min,IntKind.max,IntKind.signed,IntKind.bits] using h
section
variable {H : Type} {enc : TypeId × Value -> H} {P : Program}
theorem open_i8s {W : World} {base : Nat} {t tq : TypeId} {v : Value} {d : DataW H} {ps : List MemPlace} (hv : P.underlying t = some (.slice tq)) (hq : kiTy P 20 tq = some [.i .i8]) (hs : szOf P tq = some 1)
  (hval : Value.okWide P W .any base t v) (h : DataW.Trod enc P W 0 (fun _ => true) true t v d ps) : ∃ l,listAt 1 decI8 (mirror W) (absV W v) = some l /\ l.length <= maxLen := by
 obtain ⟨a,len,cap,rfl⟩ := okWide_slice hv hval
 obtain ⟨fuel,h⟩ := h
 exact mir_list (dec := decI8) (n := 1) hv (cellsOf_sz hs) (by omega) h (fun m cs y hy => by
  obtain ⟨km,_,_⟩ := plain_ty m 20 tq _ 1 hq hs rfl W 0 _ true _ y hy
  rw [absV_bases (kmatch_base km)]
  match cs,km with
  | [.int k' n],km =>
   obtain ⟨⟨rfl,hw⟩,_⟩ := km
   exact ⟨n,if_pos (wf_i8 hw)⟩)
end
end Go.Eng.K
end
section
set_option maxRecDepth 20000
namespace Go.Eng
open Go Go.Proofs Go.IntWalk
def bz5 (ks : List Int) (i : Nat) : Int := match ks[i]? with | some z => if z = 0 then 1 + (i : Int) else z | none => 1 + (i : Int)
theorem bz5_nz (ks : List Int) (i : Nat) : ((bz5 ks i : Int) : Rat) ≠ 0 := by
 have : bz5 ks i ≠ 0 := by
  unfold bz5
  split
  ·split
   ·omega
   ·assumption
  ·omega
 intro e
 exact this (by exact_mod_cast e)
theorem bz5_a {ks : List Int} {i : Nat} (h : ¬ i < ks.length) : bz5 ks i = 1 + (i : Int) := by
 unfold bz5
 rw [List.getElem?_eq_none (by omega)]
theorem bz5_b {ks : List Int} {i : Nat} (h : ks[i]? = some 0) : bz5 ks i = 1 + (i : Int) := by
 unfold bz5
 rw [h]; exact if_pos rfl
theorem bz5_c {ks : List Int} {i : Nat} {z : Int} (h : ks[i]? = some z) (hz : z ≠ 0) : bz5 ks i = z := by
 unfold bz5
 rw [h]; exact if_neg hz
theorem NmS.ext {hp hp' : Heap} {N M n i : Nat} {l : List EqR} {sl : Value} (S : NmS hp N M n l i sl) (he : ExtL M hp hp') : NmS hp' N M n l i sl := by
 rcases S with x | ⟨z,kL,x,ρ,e,a1,a2,a3,a4⟩
 ·exact .inl x
 ·refine .inr ⟨z,kL,x,ρ,e,by rw [he _ a3]; exact a1,a2,a3,fun hn => ⟨fun j hj => ?_,(a4 hn).2⟩⟩
  obtain ⟨⟨y,g⟩,r⟩ := (a4 hn).1 j hj
  exact ⟨⟨y,by rw [he _ r.2.1]; exact g⟩,r⟩
def spL25sca : List Value -> Heap -> Option Value
 | [.int .i64 n,a,kv],h => match decRows h a,listAt 1 decI8 h kv with
  | some la,some ks => if (-9223372036854775808 <= n /\ n <= 9223372036854775807) /\ la.length <= 9223372036854775807 /\ ks.length <= 9223372036854775807 then some (.bool true) else none
  | _,_ => none
 | _,_ => none
def c7 : ICode :=
 (.seq (.reg [qq 6 (.mv (.c (.bool false)))]) (.seq (.seq (.reg [qq 14 (.call 9 []),qq 15 (.un .not (.t 14))]) (.cond (.t 15) (.seq (.reg [qq 6 (.mv (.c (.bool false)))]) .ret) .skip)) (.seq (.reg [qq 17 (.mv (.t 0)),qq 18 (.mv (.t 1)),qq 19 (.call 10 [(.t 17),(.t 18)]),qq 16 (.mv (.t 19)),qq 20 (.ext (.t 16) 0),qq 21 (.ext (.t 16) 1),qq 7 (.mv (.t 20)),qq 8 (.mv (.t 21))]) (.seq (.seq (.reg [qq 22 (.mv (.t 8)),qq 23 (.un .not (.t 22))]) (.cond (.t 23) (.seq (.reg [qq 6 (.mv (.c (.bool true)))]) .ret) .skip)) (.seq (.reg [qq 9 (.mv (.c (.slice none 0 0)))]) (.seq (.seq (.reg [qq 10 (.mv (ci 0))]) (.block 0 (.loop (.seq (.seq (.reg [qq 24 (.mv (.t 10)),qq 25 (.mv (.t 7)),qq 26 (.lensl (.t 25)),qq 27 (.bin .lss (.t 24) (.t 26))]) (.cond (.t 27) .skip (.exit 0))) (.seq (.block 1 (.seq (.reg [qq 30 (.mv (.t 10)),qq 31 (.bin .add (ci 1) (.t 30)),qq 32 (.call 21 [(.t 31)]),qq 11 (.alloc 38 3 [(.bool false),e0,e0]),qn (.store 3 (.t 11) (.t 32))]) (.seq (.seq (.reg [qq 33 (.mv (.t 10)),qq 34 (.mv (.t 2)),qq 35 (.lensl (.t 34)),qq 36 (.bin .lss (.t 33) (.t 35)),qq 37 (.mv (.t 36)),⟨(some 38),(some (37,true)),(.mv (.t 2))⟩,⟨(some 39),(some (37,true)),(.mv (.t 10))⟩,⟨(some 40),(some (37,true)),(.ixsl 1 (.t 38) (.t 39))⟩,⟨(some 41),(some (37,true)),(.load false 1 (.t 40))⟩,⟨(some 42),(some (37,true)),(.bin .neq (.t 41) (.c (.int .i8 0)))⟩,qq 43 (.pick (.t 37) (.t 42) (.c (.bool false)))]) (.cond (.t 43) (.reg [qq 44 (.mv (.t 2)),qq 45 (.mv (.t 10)),qq 46 (.ixsl 1 (.t 44) (.t 45)),qq 47 (.load false 1 (.t 46)),qq 48 (.conv .i64 (.t 47)),qq 49 (.call 21 [(.t 48)]),qn (.store 3 (.t 11) (.t 49))]) .skip)) (.seq (.dreg [qu 50 (.mv (.t 7)),qu 51 (.mv (.t 10)),qu 52 (.ixsl 5 (.t 50) (.t 51)),qu 53 (.faddr 1 (.t 52)),qu 54 (.load true 3 (.t 53)),qu 55 (.load true 3 (.t 11)),qu 56 (.call 22 [(.t 54),(.t 55)]),qu 57 (.mv (.t 7)),qu 58 (.mv (.t 10)),qu 59 (.ixsl 5 (.t 57) (.t 58)),qu 60 (.faddr 4 (.t 59)),qv 61 [6] (.load false 1 (.t 60)),qu 62 (.build [(.slice none 0 0),(.bool false),e0,e0,(.int .i64 0)] [(1,3,(.t 56)),(4,1,(.t 61))]),qu 12 (.alloc 40 5 [(.slice none 0 0),(.bool false),e0,e0,(.int .i64 0)]),qm (.store 5 (.t 12) (.t 62))]) (.seq (.seq (.reg [qq 13 (.mv (ci 0))]) (.block 2 (.loop (.seq (.seq (.reg [qq 63 (.mv (.t 13)),qq 64 (.mv (.t 7)),qq 65 (.mv (.t 10)),qq 66 (.ixsl 5 (.t 64) (.t 65)),qq 67 (.faddr 0 (.t 66)),qq 68 (.load false 1 (.t 67)),qq 69 (.lensl (.t 68)),qq 70 (.bin .lss (.t 63) (.t 69))]) (.cond (.t 70) .skip (.exit 2))) (.seq (.block 3 (.dreg [qu 73 (.faddr 0 (.t 12)),qu 74 (.load false 1 (.t 73)),qu 75 (.mv (.t 7)),qu 76 (.mv (.t 10)),qu 77 (.ixsl 5 (.t 75) (.t 76)),qu 78 (.faddr 0 (.t 77)),qu 79 (.load false 1 (.t 78)),qu 80 (.mv (.t 13)),qu 81 (.ixsl 3 (.t 79) (.t 80)),qu 82 (.load true 3 (.t 81)),qu 83 (.load true 3 (.t 11)),qu 84 (.call 22 [(.t 82),(.t 83)]),qu 85 (.bslice 38 3 1 [(.bool false),e0,e0] [(0,3,(.t 84))]),qu 86 (.app 38 3 40 (.t 74) (.t 85)),qu 87 (.faddr 0 (.t 12)),qm (.store 1 (.t 87) (.t 86))])) (.reg [qq 71 (.mv (.t 13)),qq 72 (.bin .add (.t 71) (ci 1)),qq 13 (.mv (.t 72))])))))) (.reg [qq 88 (.mv (.t 9)),qq 89 (.load true 5 (.t 12)),qq 90 (.bslice 40 5 1 [(.slice none 0 0),(.bool false),e0,e0,(.int .i64 0)] [(0,5,(.t 89))]),qq 91 (.app 40 5 72 (.t 88) (.t 90)),qq 9 (.mv (.t 91))])))))) (.reg [qq 28 (.mv (.t 10)),qq 29 (.bin .add (.t 28) (ci 1)),qq 10 (.mv (.t 29))])))))) (.seq (.reg [qq 92 (.mv (.t 0)),qq 93 (.mv (.t 7)),qq 94 (.call 12 [(.t 92),(.t 93)]),qq 95 (.mv (.t 0)),qq 96 (.mv (.t 9)),qq 97 (.call 12 [(.t 95),(.t 96)]),qq 98 (.call 11 [(.t 94),(.t 97)]),qq 99 (.mv (.t 98)),⟨(some 100),(some (99,true)),(.mv (.t 0))⟩,⟨(some 101),(some (99,true)),(.mv (.t 7))⟩,⟨(some 102),(some (99,true)),(.call 14 [(.t 100),(.t 101)])⟩,⟨(some 103),(some (99,true)),(.mv (.t 0))⟩,⟨(some 104),(some (99,true)),(.mv (.t 9))⟩,⟨(some 105),(some (99,true)),(.call 14 [(.t 103),(.t 104)])⟩,⟨(some 106),(some (99,true)),(.call 11 [(.t 102),(.t 105)])⟩,qq 107 (.pick (.t 99) (.t 106) (.c (.bool false))),qq 6 (.mv (.t 107))]) .ret)))))))
theorem tr7 : trFun Tryz.prog 7 = some ⟨108,[.t 6],c7⟩ := by kernel_rfl
set_option maxHeartbeats 64000000 in
theorem ok_L25sca : SpecOK Tryz.prog 7 (rdS spL25sca) := by
 refine rd_run (env_cons ok_alive5 (env_cons ok_normed (env_cons ok_r3From (env_cons ok_r3Mul (env_cons ok_red (env_cons ok_same5 (env_cons ok_min (env_nil _)))))))) mixed tr7 ?_ ?_
 ·intro args h h' v hle e
  unfold spL25sca at e ⊢
  split at e
  ·split at e
   ·rename_i la ks h1 h2
    simp only [decRows_mono hle h1,listAt_mono hle (fun _ _ e => e) h2]; exact e
   ·cases e
  ·cases e
 intro args v h N hG hN
 unfold spL25sca at hG
 split at hG
 case h_2 => cases hG
 rename_i n sa kv
 split at hG
 case h_2 => cases hG
 rename_i la ks hxa hxk
 split at hG
 case isFalse => cases hG
 rename_i hm
 obtain ⟨hn,hma,hmk⟩ := hm
 cases hG
 obtain ⟨ak,ck,rfl⟩ := listAt_sl hxk
 refine ⟨by rfl,by simp,?_⟩
 have al : spAlive5 [] = some (.bool true) := rfl
 obtain ⟨aA,mA,okA,DA,dA,kA,oA,bA,cA⟩ := normed_any (n := n) (b := N + 0) hxa hma (fun k b e => by have := hN k b e; omega)
 obtain ⟨MA,hMA⟩ : ∃ M,M = N + dA := ⟨_,rfl⟩
 have eMA : N + 0 + dA = MA + 0 := by omega
 rw [show N + 0 + dA = MA by omega] at bA
 generalize eHA : DA ++ h = HA at *
 have acA : ∀ (d : Nat) (tm : List (Nat × Value)) (V : Value) (K : St -> Prop),@aft (some d) (some (V,DA,dA)) ⟨(⟨tm,h,N + 0⟩,K)⟩ = K ⟨(d,V) :: tm,HA,MA + 0⟩ := fun _ _ _ _ => by rw [<- eMA,<- eHA]; exact propext Iff.rfl
 have xA : ExtL N h HA := fun q hq => oA q (by omega)
 rcases cA with ⟨rfl,_⟩ | ⟨rfl,fA,rfl,csA,RA⟩
 ·simp only [c7,G0,Nat.reduceAdd]
  simp only [↓R0,R1,simprocAttr,-Int.reduceAbs,flat,al,kA,acA,Bool.not_true,Bool.not_false,Fin,isEnd,resL,res1]
  exact ⟨_,rfl,rfl,xA⟩
 obtain ⟨nn,rfl⟩ := Int.eq_ofNat_of_zero_le fA.1
 have la14 := fA.2.2.1
 have EA := fit_eqs fA
 have FA := fit_R fA
 have n8 := FA.n8
 have lA := nmL_len la
 generalize nmL la = LL at *
 have nMA : N <= MA := by omega
 have hleA : hle h HA := fun k b e => by rw [xA k (hN _ _ e)]; exact e
 have hxA := listAt_mono hleA (fun _ _ e => e) hxk
 have kr : ∀ z ∈ ks,-128 <= z /\ z <= 127 := fun z hz => by
  obtain ⟨i,hi,ge⟩ := List.mem_iff_getElem.1 hz
  obtain ⟨_,_,_,_,_,_,_,hat⟩ := listAt_get hxk (by omega)
  exact (decI8_eq (hat i z (by rw [List.getElem?_eq_getElem hi,ge])).2).2
 obtain ⟨bs,hbs⟩ : ∃ b : Nat -> Rat,b = fun i => ((bz5 ks i : Int) : Rat) := ⟨_,rfl⟩
 have bzr : ∀ i,i < LL.length -> -1000 <= bz5 ks i /\ bz5 ks i <= 1000 := fun i hi => by
  unfold bz5
  split
  ·rename_i z e
   have := kr z (List.mem_of_getElem? e)
   split <;> omega
  ·omega
 have EM : EqsOK nn (scL5 bs LL) := sc_eqs FA fun i hi => by rw [hbs]; exact RB_small (bzr i hi)
 have SC : ScL nn bs LL := ⟨fun i => by rw [hbs]; exact bz5_nz ks i,fun e he => (FA.co e he).1,EA.chk,EM.chk⟩
 have lM := scL5_len bs LL
 simp only [c7,G0,Nat.reduceAdd]
 simp only [↓R0,R1,simprocAttr,-Int.reduceAbs,flat,al,kA,acA,Bool.not_true,Bool.not_false]
 refine lp_parts (fun q tm hp nx => ∃ (i M : Nat) (o : Value),q + i = la.length /\ tmget tm 0 = .int .i64 nn /\ tmget tm 2 = .slice ak ks.length ck /\ tmget tm 7 = .slice aA la.length la.length /\ tmget tm 10 = .int .i64 i /\ tmget tm 9 = o /\ NmS hp MA M nn (scL5 bs LL) i o /\ ExtL MA HA hp /\ MA <= M /\ nx = M + 0) ?_ la.length
  ⟨0,MA,.slice none 0 0,by omega,?_,?_,?_,?_,rfl,.inl ⟨rfl,rfl⟩,fun q _ => rfl,Nat.le_refl _,rfl⟩
 rotate_left
 all_goals first | (simp only [↓R0,R1,simprocAttr,-Int.reduceAbs]; done) | (simp only [↓R0,R1,simprocAttr,-Int.reduceAbs]; rfl) | skip
 rintro q tm hp nx ⟨i,M,o,hq,t0,t2,t7,t10,t9,hS,hh,hM,hnx⟩
 rw [hnx]
 clear hnx nx
 have wi : IntKind.i64.wrap ((i : Int) + 1) = ((i + 1 : Nat) : Int) := by rw [i64_in _ (by omega)]; omega
 by_cases c1 : i < la.length
 case neg =>
  have e : i = la.length := by omega
  subst e
  have c1' : ((la.length : Int) < (la.length : Int)) = False := eq_false (by omega)
  obtain ⟨aM,cs0,eo,_⟩ := hS.rowsS (by rw [lM,lA]) (fun e he => (EM.co e he).1)
  subst eo
  have rowsM : ∀ hp',ExtL M hp hp' -> ∃ cs,RowsS hp' (.slice aM la.length la.length) (scL5 bs LL) cs := fun hp' he => by
   obtain ⟨a',cs,e,R⟩ := (hS.ext he).rowsS (by rw [lM,lA]) (fun e he => (EM.co e he).1)
   injection e with e1
   subst e1
   exact ⟨cs,R⟩
  have rowsA : ∀ hp',ExtL M hp hp' -> RowsS hp' (.slice aA la.length la.length) LL csA := fun hp' he => RA.mono fun k b e => by have := bA k b e; rw [he k (by omega),hh k this]; exact e
  have xg := extL_ge (Nat.le_refl M)
  have xh : ExtL M hp hp = True := eq_true fun _ _ => rfl
  have kS0 : ∀ hp,spSame5 [.slice none 0 0,.slice none 0 0] hp = some (.bool true) := fun hp => by
   have d0 : listAt 1 decN hp (.slice none 0 0) = some [] := rfl
   unfold spSame5
   simp only [d0]
   rw [if_pos (by omega)]
   simp
  have fin : ∀ {hp'},ExtL M hp hp' -> ∀ q,q < N -> hget hp' q = hget h q := fun he q hq => by rw [he q (by omega),hh q (by omega)]; exact xA q hq
  have eRL := SC.redL (by omega)
  have tM := SC.all
  obtain ⟨eMF,eMS⟩ := SC.minF
  have rl0 : (redL nn LL).length <= 14 := by have := redS_len nn LL LL.length; unfold redL; omega
  have kRc : redL nn LL = [] \/ redL nn LL ≠ [] := by by_cases x : redL nn LL = []; exact .inl x; exact .inr x
  have kR1 := fun hp' k (he : ExtL M hp hp') => intNL_call (b := k) (red_of (rowsA hp' he) EA.red)
  have kR2 := fun hp' k (he : ExtL M hp hp') => intNL_call (b := k) (red_of (rowsM hp' he).choose_spec EM.red)
  have kN1 := fun hp' k (he : ExtL M hp hp') => intNL_nil (b := k) (red_of (rowsA hp' he) EA.red)
  have kN2 := fun hp' k (he : ExtL M hp hp') => intNL_nil (b := k) (red_of (rowsM hp' he).choose_spec EM.red)
  rw [eRL] at kR2 kN2
  have kSr : ∀ hp k1 k2,hget hp k1 = some ⟨3,1,false,intC (redL nn LL)⟩ -> hget hp k2 = some ⟨3,1,false,intC (redL nn LL)⟩ -> spSame5 [.slice (some ⟨k1,0,none⟩) (redL nn LL).length (redL nn LL).length,.slice (some ⟨k2,0,none⟩) (redL nn LL).length (redL nn LL).length] hp = some (.bool true) := fun hp k1 k2 g1 g2 => by
   have d1 := intC_listO g1 (o := 0) (m := (redL nn LL).length) (c := (redL nn LL).length) (by omega) (Nat.le_refl _)
   have d2 := intC_listO g2 (o := 0) (m := (redL nn LL).length) (c := (redL nn LL).length) (by omega) (Nat.le_refl _)
   unfold spSame5
   simp only [d1,d2]
   rw [if_pos (by omega)]
   simp
  cases tA : togL nn LL with
  | true =>
   have kM1 : ∀ hp' k,ExtL M hp hp' -> nwL spMin [.int .i64 nn,.slice aA la.length la.length] hp' k = some (.slice none 0 0,[],0) := fun hp' k he => min_yes (rowsA hp' he) EA tA
   have kM2 : ∀ hp' k,ExtL M hp hp' -> nwL spMin [.int .i64 nn,.slice aM la.length la.length] hp' k = some (.slice none 0 0,[],0) := fun hp' k he => min_yes (rowsM hp' he).choose_spec EM (by rw [tM]; exact tA)
   rcases kRc with z | z
   ·have kN1' := fun hp' k (he : ExtL M hp hp') => kN1 hp' k he z
    have kN2' := fun hp' k (he : ExtL M hp hp') => kN2 hp' k he z
    simp only [↓R0,R1,simprocAttr,-Int.reduceAbs,rdS,flat,t0,t2,t7,t10,t9,c1',kM1,kM2,kS0,kN1',kN2',kS0,xg,xh,Nat.zero_add,Bool.not_true,Bool.not_false,Fin,isEnd,resL,res1]
    refine ⟨_,rfl,rfl,fun q hq => ?_⟩
    have nb : ∀ d,(M + d = q) = False := fun d => eq_false (by omega)
    try simp only [↓R0,R1,simprocAttr,-Int.reduceAbs,nb]
    rw [hh q (by omega)]; exact xA q hq
   ·have kR1' := fun hp' k (he : ExtL M hp hp') => kR1 hp' k he z
    have kR2' := fun hp' k (he : ExtL M hp hp') => kR2 hp' k he z
    generalize eIC : intC (redL nn LL) = IC at *
    generalize (redL nn LL).length = RL at *
    have kSr' := kSr
    simp only [↓R0,R1,simprocAttr,-Int.reduceAbs,rdS,flat,t0,t2,t7,t10,t9,c1',kM1,kM2,kS0,kR1',kR2',kSr',xg,xh,Nat.zero_add,Bool.not_true,Bool.not_false,Fin,isEnd,resL,res1]
    refine ⟨_,rfl,rfl,fun q hq => ?_⟩
    have nb : ∀ d,(M + d = q) = False := fun d => eq_false (by omega)
    try simp only [↓R0,R1,simprocAttr,-Int.reduceAbs,nb]
    rw [hh q (by omega)]; exact xA q hq
  | false =>
   have mR := minF_R EA.chk tA
   have mLen := mR.len
   have kM1 : ∀ hp' k,ExtL M hp hp' -> nwL spMin [.int .i64 nn,.slice aA la.length la.length] hp' k = some (.slice (some ⟨k,0,none⟩) (minF nn LL).length ((minF nn LL).length + (minS nn LL LL.length).2),[(k,some ⟨3,1,false,intZ (minF nn LL ++ List.replicate (minS nn LL LL.length).2 0)⟩)],1) := fun hp' k he => min_no (rowsA hp' he) EA tA
   have kM2 : ∀ hp' k,ExtL M hp hp' -> nwL spMin [.int .i64 nn,.slice aM la.length la.length] hp' k = some (.slice (some ⟨k,0,none⟩) (minF nn LL).length ((minF nn LL).length + (minS nn LL LL.length).2),[(k,some ⟨3,1,false,intZ (minF nn LL ++ List.replicate (minS nn LL LL.length).2 0)⟩)],1) := fun hp' k he => by
    have := min_no (b := k) (rowsM hp' he).choose_spec EM (by rw [tM]; exact tA)
    rw [eMF,eMS] at this
    exact this
   generalize (minS nn LL LL.length).2 = Z at *
   generalize minF nn LL = L at *
   have kSm : ∀ hp k1 k2,hget hp k1 = some ⟨3,1,false,intZ (L ++ List.replicate Z 0)⟩ -> hget hp k2 = some ⟨3,1,false,intZ (L ++ List.replicate Z 0)⟩ -> spSame5 [.slice (some ⟨k1,0,none⟩) L.length (L.length + Z),.slice (some ⟨k2,0,none⟩) L.length (L.length + Z)] hp = some (.bool true) := fun hp k1 k2 g1 g2 => by
    have d1 := intZ_list (c := L.length + Z) g1 (by omega)
    have d2 := intZ_list (c := L.length + Z) g2 (by omega)
    unfold spSame5
    simp only [d1,d2]
    rw [if_pos (by omega)]
    simp
   generalize intZ (L ++ List.replicate Z 0) = CZ at *
   rcases kRc with z | z
   ·have kN1' := fun hp' k (he : ExtL M hp hp') => kN1 hp' k he z
    have kN2' := fun hp' k (he : ExtL M hp hp') => kN2 hp' k he z
    simp only [↓R0,R1,simprocAttr,-Int.reduceAbs,rdS,flat,t0,t2,t7,t10,t9,c1',kM1,kM2,kSm,kS0,kN1',kN2',kS0,xg,xh,Nat.zero_add,Bool.not_true,Bool.not_false,Fin,isEnd,resL,res1]
    refine ⟨_,rfl,rfl,fun q hq => ?_⟩
    have nb : ∀ d,(M + d = q) = False := fun d => eq_false (by omega)
    try simp only [↓R0,R1,simprocAttr,-Int.reduceAbs,nb]
    rw [hh q (by omega)]; exact xA q hq
   ·have kR1' := fun hp' k (he : ExtL M hp hp') => kR1 hp' k he z
    have kR2' := fun hp' k (he : ExtL M hp hp') => kR2 hp' k he z
    generalize eIC : intC (redL nn LL) = IC at *
    generalize (redL nn LL).length = RL at *
    have kSr' := kSr
    simp only [↓R0,R1,simprocAttr,-Int.reduceAbs,rdS,flat,t0,t2,t7,t10,t9,c1',kM1,kM2,kSm,kS0,kR1',kR2',kSr',xg,xh,Nat.zero_add,Bool.not_true,Bool.not_false,Fin,isEnd,resL,res1]
    refine ⟨_,rfl,rfl,fun q hq => ?_⟩
    have nb : ∀ d,(M + d = q) = False := fun d => eq_false (by omega)
    try simp only [↓R0,R1,simprocAttr,-Int.reduceAbs,nb]
    rw [hh q (by omega)]; exact xA q hq
 have c1' : ((i : Int) < (la.length : Int)) = True := eq_true (by omega)
 have hx := RA.rows
 rw [<- lA] at hx
 obtain ⟨k,off,blk,a',n',c',ea,hb,q1,q2,hn',hl'⟩ := eq_at hx (i := i) (by omega)
 subst ea
 have fe := FA.co _ (eqAt_mem (l := LL) (i := i) (by omega))
 have hnn : n' = nn := by have := fe.1; omega
 subst hnn
 have nk := bA _ _ hb
 have hbb : hget hp k = some blk := by rw [hh k nk]; exact hb
 have Mk : ∀ d,(M + d = k) = False := fun d => eq_false (by omega)
 have e51 : (blk.cells.drop (off + i * 5 + 1)).take 3 = (eqAt LL i).rhs.cells := by
  have := congrArg (fun y => (y.drop 1).take 3) q2
  simp only [List.drop_take,List.take_take,List.drop_drop] at this
  exact this
 have q3 : off + i * 5 + 1 + 3 <= blk.cells.length := by omega
 have k4 : blk.cells[off + i * 5 + 4]? = some (.int .i64 (eqAt LL i).line) := by have := cell_at (i := 4) q2 (by omega); rw [this]; rfl
 have k0 : blk.cells[off + i * 5 + 0]? = some (.slice a' n' c') := by have := cell_at (i := 0) q2 (by omega); rw [this]; rfl
 have bi := bzr i (by omega)
 have bsi : bs i = ((bz5 ks i : Int) : Rat) := by rw [hbs]
 have bok : (RQ.of (bs i)).ok 4 := by rw [bsi]; exact RQ.of_ok (RB_small bi)
 have mq : ∀ q : RQ,q.ok 4 -> spR3Mul [.agg ⟨q.cells⟩,.agg ⟨rE (bs i)⟩] = some (.agg ⟨rE (q.v * bs i)⟩) := fun q hq => by
  have h : spR3Mul [.agg ⟨q.cells⟩,.agg ⟨(RQ.of (bs i)).cells⟩] = some (.agg ⟨rE (q.v * (RQ.of (bs i)).v)⟩) := if_pos ⟨by have := hq.1; omega,by have := hq.2; omega,by have := bok.1; omega,by have := bok.2; omega⟩
  rw [RQ.of_v] at h
  exact h
 have mq1 := mq _ fe.2.2
 have LMi : eqAt (scL5 bs LL) i = scE5 (bs i) (eqAt LL i) := scL5_at (by omega)
 have E1 := scE5_cells (bs i) (eqAt LL i)
 have E2 : (Value.slice none 0 0 :: (scE5 (bs i) (eqAt LL i)).tl).length = 5 := rfl
 have E3 : setR [.slice none 0 0,.bool false,.string ⟨⟨[]⟩⟩,.string ⟨⟨[]⟩⟩,.int .i64 0] 0 (Value.slice none 0 0 :: (scE5 (bs i) (eqAt LL i)).tl) = Value.slice none 0 0 :: (scE5 (bs i) (eqAt LL i)).tl := rfl
 have E4 : (Value.slice none 0 0 :: (scE5 (bs i) (eqAt LL i)).tl).all okCell = true := rfl
 have T1 : (scE5 (bs i) (eqAt LL i)).tl.length = 4 := rfl
 have T2 : (scE5 (bs i) (eqAt LL i)).tl.all okCell = true := rfl
 have T3 : (scE5 (bs i) (eqAt LL i)).tl.take 4 = (scE5 (bs i) (eqAt LL i)).tl := rfl
 have T4 : ∀ v,setR [v,.bool false,.string ⟨⟨[]⟩⟩,.string ⟨⟨[]⟩⟩,.int .i64 0] 1 (scE5 (bs i) (eqAt LL i)).tl = v :: (scE5 (bs i) (eqAt LL i)).tl := fun _ => rfl
 have T5 : (eqAt (scL5 bs LL) i).tl = (scE5 (bs i) (eqAt LL i)).tl := by rw [LMi]
 have rl : (eqAt LL i).rhs.cells.length = 3 := rfl
 have hC := fe.2.1
 have hD : (scE5 (bs i) (eqAt LL i)).coef = (eqAt LL i).coef.map fun q => RQ.of (q.v * bs i) := rfl
 have hDl : (scE5 (bs i) (eqAt LL i)).coef.length = n' := by rw [hD,List.length_map]; omega
 have fromA : spR3From [.int .i64 (1 + (i : Int))] = some (.agg ⟨rE ((1 + (i : Int) : Int) : Rat)⟩) := r3From_of (by omega)
 have w1i : IntKind.i64.wrap (1 + (i : Int)) = 1 + (i : Int) := i64_in _ (by omega)
 have dn : ∀ a b : Int,decide (a ≠ b) = !decide (a = b) := fun a b => by by_cases h : a = b <;> simp [h]
 have b3 : ∀ x : Rat,(rE x).take 3 = rE x := fun _ => rfl
 have b4 : ∀ x : Rat,setR [.bool false,.string ⟨⟨[]⟩⟩,.string ⟨⟨[]⟩⟩] 0 (rE x) = rE x := fun _ => rfl
 have b5 : ∀ x y : Rat,setR (rE x) 0 (rE y) = rE y := fun _ _ => rfl
 generalize (eqAt LL i).rhs.cells = RH at *
 generalize eT : (scE5 (bs i) (eqAt LL i)).tl = TL at *
 by_cases ci : i < ks.length
 case neg =>
  have ci' : ((i : Int) < (ks.length : Int)) = False := eq_false (by omega)
  have eb : ((1 + (i : Int) : Int) : Rat) = bs i := by rw [bsi,bz5_a ci]
  rw [eb] at fromA
  simp only [↓R0,R1,simprocAttr,-Int.reduceAbs,flat,t0,t2,t7,t10,t9,c1,c1',hbb,q1,q3,Mk,e51,k4,mq1,fromA,w1i,dn,setR_length,rE_l3',rE_o3',b3,b4,b5,E1,E2,E3,E4,ci']
  refine lp_parts (fun d tm hp2 nx => ∃ (j M2 : Nat) (co : Value),d + j = n' /\ tmget tm 0 = .int .i64 n' /\ tmget tm 2 = .slice ak ks.length ck /\ tmget tm 7 = .slice (some ⟨k,off,none⟩) la.length la.length /\ tmget tm 9 = o /\ tmget tm 10 = .int .i64 i /\ tmget tm 11 = .pointer (some ⟨M + 0,0,none⟩) /\ tmget tm 12 = .pointer (some ⟨M + 1,0,none⟩) /\ tmget tm 13 = .int .i64 j /\
    hget hp2 (M + 0) = some ⟨38,3,true,rE (bs i)⟩ /\ hget hp2 (M + 1) = some ⟨40,5,true,co :: TL⟩ /\ CoS hp2 (M + 2) M2 (scE5 (bs i) (eqAt LL i)).coef j co /\ (∀ q,q < M -> hget hp2 q = hget hp q) /\ M + 2 <= M2 /\ nx = M2 + 0) ?_ n'
   ⟨0,M + 2,.slice none 0 0,by omega,?_,?_,?_,?_,?_,?_,?_,?_,?_,?_,.inl ⟨rfl,rfl⟩,?_,Nat.le_refl _,rfl⟩
  rotate_left
  all_goals first | (simp only [↓R0,R1,simprocAttr,-Int.reduceAbs,t0,t2,t7,t9,t10]; done) | (simp only [↓R0,R1,simprocAttr,-Int.reduceAbs,t0,t2,t7,t9,t10]; rfl) | skip
  ·intro q hq
   have nb : ∀ d,(M + d = q) = False := fun d => eq_false (by omega)
   simp only [↓R0,R1,simprocAttr,-Int.reduceAbs,nb]
  clear t0 t2 t7 t9 t10
  rintro d tm hp2 nx ⟨j,M2,co,hd,t0,t2,t7,t9,t10,t11,t12,t13,bb,bx,hco,hh2,hM2,hnx⟩
  rw [hnx]
  clear hnx nx
  have wj : IntKind.i64.wrap ((j : Int) + 1) = ((j + 1 : Nat) : Int) := by rw [i64_in _ (by omega)]; omega
  have hbb2 : hget hp2 k = some blk := by rw [hh2 k (by omega)]; exact hbb
  have Mk2 : ∀ d,(M2 + d = k) = False := fun d => eq_false (by omega)
  have Mx : ∀ d,(M2 + d = M + 1) = False := fun d => eq_false (by omega)
  have My : ∀ d,(M + 1 = M2 + d) = False := fun d => eq_false (by omega)
  have Mb : ∀ d,(M2 + d = M + 0) = False := fun d => eq_false (by omega)
  have Mc : (M + 1 = M + 0) = False := eq_false (by omega)
  have Mk3 : (M + 1 = k) = False := eq_false (by omega)
  by_cases cj : j < n'
  case pos =>
   have cj' : ((j : Int) < (n' : Int)) = True := eq_true (by omega)
   obtain ⟨kk,f2,B2,ea2,b2,p3,p4⟩ := rq_at hl' cj
   have nk2 := bA _ _ b2
   have b2' : hget hp2 kk = some B2 := by rw [hh2 kk (by omega),hh kk nk2]; exact b2
   have Nk1 : ∀ d,(M2 + d = kk) = False := fun d => eq_false (by omega)
   have Nk2 : (M + 1 = kk) = False := eq_false (by omega)
   rw [ea2] at k0
   have qm : rqAt (eqAt LL i).coef j ∈ (eqAt LL i).coef := by unfold rqAt; rw [List.getElem?_eq_getElem (by omega)]; exact List.getElem_mem (by omega)
   have mq2 := mq _ (hC _ qm)
   have Dj : (scE5 (bs i) (eqAt LL i)).coef[j]? = some (RQ.of ((rqAt (eqAt LL i).coef j).v * bs i)) := by
    rw [hD,List.getElem?_map]
    unfold rqAt
    rw [List.getElem?_eq_getElem (by omega)]; rfl
   have Ds : rqs ((scE5 (bs i) (eqAt LL i)).coef.take (j + 1)) = rqs ((scE5 (bs i) (eqAt LL i)).coef.take j) ++ rE ((rqAt (eqAt LL i).coef j).v * bs i) := by
    rw [List.take_add_one,Dj]
    exact (rqs_app _ _).symm
   have Dl : (rqs ((scE5 (bs i) (eqAt LL i)).coef.take j)).length = j * 3 := by rw [rqs_len,List.length_take,hDl,Nat.min_eq_left (by omega)]
   have ql : (rqAt (eqAt LL i).coef j).cells.length = 3 := rfl
   generalize (rqAt (eqAt LL i).coef j).cells = QC at *
   rcases hco with ⟨z,rfl⟩ | ⟨z,kc,y,rfl,g1,g2,g3⟩
   ·have D0 : rqs ((scE5 (bs i) (eqAt LL i)).coef.take j) = [] := List.eq_nil_of_length_eq_zero (by rw [Dl,z])
    rw [D0,List.nil_append] at Ds
    simp only [↓R0,R1,simprocAttr,-Int.reduceAbs,flat,t0,t2,t7,t9,t10,t11,t12,t13,c1,c1',cj,cj',hbb2,bb,bx,k0,b2',p3,p4,Mk2,Mk3,Mx,My,Mb,Mc,Nk1,Nk2,mq2,rE_l3',rE_o3',b3,b4,ql,T1,T2,wj,setR_length]
    refine ⟨d - 1,by omega,j + 1,M2 + 2,.slice (some ⟨M2 + 1,0,none⟩) 1 1,by omega,rfl,rfl,.inr ⟨by omega,M2 + 1,false,by rw [z],?_,by omega,by omega⟩,fun q hq => ?_,by omega,rfl⟩
    ·rw [Ds]
     simp only [↓R0,R1,simprocAttr,-Int.reduceAbs,Mx,My,Mb]
    ·have nb : ∀ d,(M2 + d = q) = False := fun d => eq_false (by omega)
     have nc : (M + 1 = q) = False := eq_false (by omega)
     simp only [↓R0,R1,simprocAttr,-Int.reduceAbs,nb,nc]
     exact hh2 q hq
   ·have v1 : ∀ d,(M2 + d = kc) = False := fun d => eq_false (by omega)
    have v2 : ∀ d,(kc = M2 + d) = False := fun d => eq_false (by omega)
    have v3 : (M + 1 = kc) = False := eq_false (by omega)
    have v4 : (kc = M + 1) = False := eq_false (by omega)
    have v5 : (kc = M + 0) = False := eq_false (by omega)
    have nler : (j + 1 <= j) = False := eq_false (by omega)
    have ovr : ((j + 1) * 40 <= 140737488355328) = True := eq_true (by omega)
    generalize eDT : rqs ((scE5 (bs i) (eqAt LL i)).coef.take j) = DT at *
    simp only [↓R0,R1,simprocAttr,-Int.reduceAbs,flat,t0,t2,t7,t9,t10,t11,t12,t13,c1,c1',cj,cj',hbb2,bb,bx,k0,b2',p3,p4,Mk2,Mk3,Mx,My,Mb,Mc,Nk1,Nk2,mq2,rE_l3',rE_o3',b3,b4,ql,T1,T2,wj,setR_length,g1,Dl,nler,ovr,v1,v2,v3,v4,v5]
    refine ⟨d - 1,by omega,j + 1,M2 + 2,.slice (some ⟨M2 + 1,0,none⟩) (j + 1) (j + 1),by omega,rfl,rfl,.inr ⟨by omega,M2 + 1,false,rfl,?_,by omega,by omega⟩,fun q hq => ?_,by omega,rfl⟩
    ·rw [Ds]
     simp only [↓R0,R1,simprocAttr,-Int.reduceAbs,Mx,My,Mb,v1,v2,v3,v4,v5]
    ·have nb : ∀ d,(M2 + d = q) = False := fun d => eq_false (by omega)
     have nc : (M + 1 = q) = False := eq_false (by omega)
     have nq : (kc = q) = False := eq_false (by omega)
     simp only [↓R0,R1,simprocAttr,-Int.reduceAbs,nb,nc,nq]
     exact hh2 q hq
  have ej : j = n' := by omega
  subst ej
  have cj' : ((j : Int) < (j : Int)) = False := eq_false (by omega)
  have cok : okCell co = true := by rcases hco with ⟨_,rfl⟩ | ⟨_,kc,y,rfl,_⟩ <;> rfl
  have nlr : (i + 1 <= i) = False := eq_false (by omega)
  have ov2 : ((i + 1) * 72 <= 140737488355328) = True := eq_true (by omega)
  rcases hS with ⟨z,rfl⟩ | ⟨z,kL,x,ρ,rfl,a1,a2,a3,a4⟩
  ·simp only [↓R0,R1,simprocAttr,-Int.reduceAbs,t0,t2,t7,t9,t10,t11,t12,t13,c1,c1',hbb2,k0,Mk2,Mk3,cj',bb,bx,Mx,My,Mb,Mc,T1,T2,T3,T4,cok,wi,setR_length]
   refine ⟨q - 1,by omega,i + 1,M2 + 2,.slice (some ⟨M2 + 1,0,none⟩) 1 1,by omega,rfl,rfl,?_,?_,by omega,rfl⟩
   ·have P := NmS.push (hp := hp) (hp' := (M2 + 1,some ⟨40,5,false,co :: TL⟩) :: (M2 + 0,some ⟨40,5,true,co :: TL⟩) :: hp2) (N := MA) (M := M) (M0 := M + 2) (M' := M2 + 2) (n := j) (i := i) (kN := M2 + 1) (l := scL5 bs LL) (x := false) (sl := .slice none 0 0) (co := co) (.inl ⟨z,rfl⟩) ?_ (by omega) ?_ ?_ ?_ (by omega) (by omega) ?_ hM (by omega)
    ·rw [show Value.slice (some ⟨M2 + 1,0,none⟩) 1 1 = .slice (some ⟨M2 + 1,0,none⟩) (i + 1) (i + 1) by rw [z]]
     exact P
    ·intro q hq _
     have nb : ∀ d,(M2 + d = q) = False := fun d => eq_false (by omega)
     simp only [↓R0,R1,simprocAttr,-Int.reduceAbs,nb]
     exact hh2 q hq
    ·rw [LMi]
     rcases hco with ⟨z,rfl⟩ | ⟨z,kc,y,rfl,g1,g2,g3⟩
     ·exact .inl ⟨z,rfl⟩
     ·have nb : ∀ d,(M2 + d = kc) = False := fun d => eq_false (by omega)
      exact .inr ⟨z,kc,y,rfl,by simp only [↓R0,R1,simprocAttr,-Int.reduceAbs,nb]; exact g1,g2,by omega⟩
    ·rw [LMi]; exact hDl
    ·rw [T5]
     simp only [↓R0,R1,simprocAttr,-Int.reduceAbs]
    ·intro kc e
     rcases hco with ⟨z,rfl⟩ | ⟨z,kc',y,rfl,g1,g2,g3⟩
     ·cases e
     ·cases e; omega
   ·intro q hq
    have nb : ∀ d,(M2 + d = q) = False := fun d => eq_false (by omega)
    simp only [↓R0,R1,simprocAttr,-Int.reduceAbs,nb]
    rw [hh2 q (by omega)]; exact hh q hq
  ·have a1' : hget hp2 kL = some ⟨40,5,x,blkC (nmF j ρ (scL5 bs LL)) i⟩ := by rw [hh2 kL (by omega)]; exact a1
   have v1 : ∀ d,(M2 + d = kL) = False := fun d => eq_false (by omega)
   have v2 : ∀ d,(kL = M2 + d) = False := fun d => eq_false (by omega)
   have v3 : (M + 1 = kL) = False := eq_false (by omega)
   have v4 : (kL = k) = False := eq_false (by omega)
   have bl5 : (blkC (nmF j ρ (scL5 bs LL)) i).length = i * 5 := blkC_len fun _ _ => rfl
   have Sx : NmS hp MA M j (scL5 bs LL) i (.slice (some ⟨kL,0,none⟩) i i) := .inr ⟨z,kL,x,ρ,rfl,a1,a2,a3,a4⟩
   generalize eBK : blkC (nmF j ρ (scL5 bs LL)) i = BK at *
   simp only [↓R0,R1,simprocAttr,-Int.reduceAbs,t0,t2,t7,t9,t10,t11,t12,t13,c1,c1',hbb2,k0,Mk2,Mk3,cj',bb,bx,Mx,My,Mb,Mc,T1,T2,T3,T4,cok,wi,setR_length,a1',bl5,nlr,ov2,v1,v2,v3,v4]
   refine ⟨q - 1,by omega,i + 1,M2 + 2,.slice (some ⟨M2 + 1,0,none⟩) (i + 1) (i + 1),by omega,rfl,rfl,?_,?_,by omega,rfl⟩
   ·refine NmS.push (hp := hp) (M0 := M + 2) (x := false) (co := co) Sx ?_ (by omega) ?_ ?_ ?_ (by omega) (by omega) ?_ hM (by omega)
    ·intro q hq hne
     have nb : ∀ d,(M2 + d = q) = False := fun d => eq_false (by omega)
     have nq : (kL = q) = False := eq_false (fun e => hne e.symm)
     simp only [↓R0,R1,simprocAttr,-Int.reduceAbs,nb,nq]
     exact hh2 q hq
    ·rw [LMi]
     rcases hco with ⟨z,rfl⟩ | ⟨z,kc,y,rfl,g1,g2,g3⟩
     ·exact .inl ⟨z,rfl⟩
     ·have nb : ∀ d,(M2 + d = kc) = False := fun d => eq_false (by omega)
      have nq : (kL = kc) = False := eq_false (by omega)
      exact .inr ⟨z,kc,y,rfl,by simp only [↓R0,R1,simprocAttr,-Int.reduceAbs,nb,nq]; exact g1,g2,by omega⟩
    ·rw [LMi]; exact hDl
    ·rw [T5]
     simp only [a1]
     simp only [↓R0,R1,simprocAttr,-Int.reduceAbs,v1,v2]
    ·intro kc e
     rcases hco with ⟨z,rfl⟩ | ⟨z,kc',y,rfl,g1,g2,g3⟩
     ·cases e
     ·cases e; omega
   ·intro q hq
    have nb : ∀ d,(M2 + d = q) = False := fun d => eq_false (by omega)
    have nq : (kL = q) = False := eq_false (by omega)
    simp only [↓R0,R1,simprocAttr,-Int.reduceAbs,nb,nq]
    rw [hh2 q (by omega)]; exact hh q hq
 have ci' : ((i : Int) < (ks.length : Int)) = True := eq_true (by omega)
 obtain ⟨z,pt⟩ : ∃ z,ks[i]? = some z := ⟨_,List.getElem?_eq_getElem ci⟩
 obtain ⟨k1,f1,B1,ek,hb1,_,_,hat1⟩ := listAt_get hxA (by omega)
 obtain ⟨r1,r2⟩ := hat1 i z pt
 have r2 := cell1_of (decI8_eq r2).1
 rw [Nat.mul_one] at r2
 have t2' : tmget tm 2 = .slice (some ⟨k1,f1,none⟩) ks.length ck := by rw [t2,ek]
 have nk1 := bA _ _ hb1
 have hb1' : hget hp k1 = some B1 := by rw [hh k1 nk1]; exact hb1
 have Mk1 : ∀ d,(M + d = k1) = False := fun d => eq_false (by omega)
 have zr := kr z (List.mem_of_getElem? pt)
 by_cases z0 : z = 0
 case pos =>
  subst z0
  have eb : ((1 + (i : Int) : Int) : Rat) = bs i := by rw [bsi,bz5_b pt]
  rw [eb] at fromA
  simp only [↓R0,R1,simprocAttr,-Int.reduceAbs,flat,t0,t7,t10,t9,c1,c1',hbb,q1,q3,Mk,e51,k4,mq1,fromA,w1i,dn,setR_length,rE_l3',rE_o3',b3,b4,b5,E1,E2,E3,E4,t2',ci,ci',hb1',Mk1,r1,r2,Bool.not_true,Bool.not_false]
  refine lp_parts (fun d tm hp2 nx => ∃ (j M2 : Nat) (co : Value),d + j = n' /\ tmget tm 0 = .int .i64 n' /\ tmget tm 2 = .slice ak ks.length ck /\ tmget tm 7 = .slice (some ⟨k,off,none⟩) la.length la.length /\ tmget tm 9 = o /\ tmget tm 10 = .int .i64 i /\ tmget tm 11 = .pointer (some ⟨M + 0,0,none⟩) /\ tmget tm 12 = .pointer (some ⟨M + 1,0,none⟩) /\ tmget tm 13 = .int .i64 j /\
    hget hp2 (M + 0) = some ⟨38,3,true,rE (bs i)⟩ /\ hget hp2 (M + 1) = some ⟨40,5,true,co :: TL⟩ /\ CoS hp2 (M + 2) M2 (scE5 (bs i) (eqAt LL i)).coef j co /\ (∀ q,q < M -> hget hp2 q = hget hp q) /\ M + 2 <= M2 /\ nx = M2 + 0) ?_ n'
   ⟨0,M + 2,.slice none 0 0,by omega,?_,?_,?_,?_,?_,?_,?_,?_,?_,?_,.inl ⟨rfl,rfl⟩,?_,Nat.le_refl _,rfl⟩
  rotate_left
  all_goals first | (simp only [↓R0,R1,simprocAttr,-Int.reduceAbs,t0,t2,t7,t9,t10]; done) | (simp only [↓R0,R1,simprocAttr,-Int.reduceAbs,t0,t2,t7,t9,t10]; rfl) | skip
  ·intro q hq
   have nb : ∀ d,(M + d = q) = False := fun d => eq_false (by omega)
   simp only [↓R0,R1,simprocAttr,-Int.reduceAbs,nb]
  clear t0 t2 t7 t9 t10
  rintro d tm hp2 nx ⟨j,M2,co,hd,t0,t2,t7,t9,t10,t11,t12,t13,bb,bx,hco,hh2,hM2,hnx⟩
  rw [hnx]
  clear hnx nx
  have wj : IntKind.i64.wrap ((j : Int) + 1) = ((j + 1 : Nat) : Int) := by rw [i64_in _ (by omega)]; omega
  have hbb2 : hget hp2 k = some blk := by rw [hh2 k (by omega)]; exact hbb
  have Mk2 : ∀ d,(M2 + d = k) = False := fun d => eq_false (by omega)
  have Mx : ∀ d,(M2 + d = M + 1) = False := fun d => eq_false (by omega)
  have My : ∀ d,(M + 1 = M2 + d) = False := fun d => eq_false (by omega)
  have Mb : ∀ d,(M2 + d = M + 0) = False := fun d => eq_false (by omega)
  have Mc : (M + 1 = M + 0) = False := eq_false (by omega)
  have Mk3 : (M + 1 = k) = False := eq_false (by omega)
  by_cases cj : j < n'
  case pos =>
   have cj' : ((j : Int) < (n' : Int)) = True := eq_true (by omega)
   obtain ⟨kk,f2,B2,ea2,b2,p3,p4⟩ := rq_at hl' cj
   have nk2 := bA _ _ b2
   have b2' : hget hp2 kk = some B2 := by rw [hh2 kk (by omega),hh kk nk2]; exact b2
   have Nk1 : ∀ d,(M2 + d = kk) = False := fun d => eq_false (by omega)
   have Nk2 : (M + 1 = kk) = False := eq_false (by omega)
   rw [ea2] at k0
   have qm : rqAt (eqAt LL i).coef j ∈ (eqAt LL i).coef := by unfold rqAt; rw [List.getElem?_eq_getElem (by omega)]; exact List.getElem_mem (by omega)
   have mq2 := mq _ (hC _ qm)
   have Dj : (scE5 (bs i) (eqAt LL i)).coef[j]? = some (RQ.of ((rqAt (eqAt LL i).coef j).v * bs i)) := by
    rw [hD,List.getElem?_map]
    unfold rqAt
    rw [List.getElem?_eq_getElem (by omega)]; rfl
   have Ds : rqs ((scE5 (bs i) (eqAt LL i)).coef.take (j + 1)) = rqs ((scE5 (bs i) (eqAt LL i)).coef.take j) ++ rE ((rqAt (eqAt LL i).coef j).v * bs i) := by
    rw [List.take_add_one,Dj]
    exact (rqs_app _ _).symm
   have Dl : (rqs ((scE5 (bs i) (eqAt LL i)).coef.take j)).length = j * 3 := by rw [rqs_len,List.length_take,hDl,Nat.min_eq_left (by omega)]
   have ql : (rqAt (eqAt LL i).coef j).cells.length = 3 := rfl
   generalize (rqAt (eqAt LL i).coef j).cells = QC at *
   rcases hco with ⟨z,rfl⟩ | ⟨z,kc,y,rfl,g1,g2,g3⟩
   ·have D0 : rqs ((scE5 (bs i) (eqAt LL i)).coef.take j) = [] := List.eq_nil_of_length_eq_zero (by rw [Dl,z])
    rw [D0,List.nil_append] at Ds
    simp only [↓R0,R1,simprocAttr,-Int.reduceAbs,flat,t0,t2,t7,t9,t10,t11,t12,t13,c1,c1',cj,cj',hbb2,bb,bx,k0,b2',p3,p4,Mk2,Mk3,Mx,My,Mb,Mc,Nk1,Nk2,mq2,rE_l3',rE_o3',b3,b4,ql,T1,T2,wj,setR_length]
    refine ⟨d - 1,by omega,j + 1,M2 + 2,.slice (some ⟨M2 + 1,0,none⟩) 1 1,by omega,rfl,rfl,.inr ⟨by omega,M2 + 1,false,by rw [z],?_,by omega,by omega⟩,fun q hq => ?_,by omega,rfl⟩
    ·rw [Ds]
     simp only [↓R0,R1,simprocAttr,-Int.reduceAbs,Mx,My,Mb]
    ·have nb : ∀ d,(M2 + d = q) = False := fun d => eq_false (by omega)
     have nc : (M + 1 = q) = False := eq_false (by omega)
     simp only [↓R0,R1,simprocAttr,-Int.reduceAbs,nb,nc]
     exact hh2 q hq
   ·have v1 : ∀ d,(M2 + d = kc) = False := fun d => eq_false (by omega)
    have v2 : ∀ d,(kc = M2 + d) = False := fun d => eq_false (by omega)
    have v3 : (M + 1 = kc) = False := eq_false (by omega)
    have v4 : (kc = M + 1) = False := eq_false (by omega)
    have v5 : (kc = M + 0) = False := eq_false (by omega)
    have nler : (j + 1 <= j) = False := eq_false (by omega)
    have ovr : ((j + 1) * 40 <= 140737488355328) = True := eq_true (by omega)
    generalize eDT : rqs ((scE5 (bs i) (eqAt LL i)).coef.take j) = DT at *
    simp only [↓R0,R1,simprocAttr,-Int.reduceAbs,flat,t0,t2,t7,t9,t10,t11,t12,t13,c1,c1',cj,cj',hbb2,bb,bx,k0,b2',p3,p4,Mk2,Mk3,Mx,My,Mb,Mc,Nk1,Nk2,mq2,rE_l3',rE_o3',b3,b4,ql,T1,T2,wj,setR_length,g1,Dl,nler,ovr,v1,v2,v3,v4,v5]
    refine ⟨d - 1,by omega,j + 1,M2 + 2,.slice (some ⟨M2 + 1,0,none⟩) (j + 1) (j + 1),by omega,rfl,rfl,.inr ⟨by omega,M2 + 1,false,rfl,?_,by omega,by omega⟩,fun q hq => ?_,by omega,rfl⟩
    ·rw [Ds]
     simp only [↓R0,R1,simprocAttr,-Int.reduceAbs,Mx,My,Mb,v1,v2,v3,v4,v5]
    ·have nb : ∀ d,(M2 + d = q) = False := fun d => eq_false (by omega)
     have nc : (M + 1 = q) = False := eq_false (by omega)
     have nq : (kc = q) = False := eq_false (by omega)
     simp only [↓R0,R1,simprocAttr,-Int.reduceAbs,nb,nc,nq]
     exact hh2 q hq
  have ej : j = n' := by omega
  subst ej
  have cj' : ((j : Int) < (j : Int)) = False := eq_false (by omega)
  have cok : okCell co = true := by rcases hco with ⟨_,rfl⟩ | ⟨_,kc,y,rfl,_⟩ <;> rfl
  have nlr : (i + 1 <= i) = False := eq_false (by omega)
  have ov2 : ((i + 1) * 72 <= 140737488355328) = True := eq_true (by omega)
  rcases hS with ⟨z,rfl⟩ | ⟨z,kL,x,ρ,rfl,a1,a2,a3,a4⟩
  ·simp only [↓R0,R1,simprocAttr,-Int.reduceAbs,t0,t2,t7,t9,t10,t11,t12,t13,c1,c1',hbb2,k0,Mk2,Mk3,cj',bb,bx,Mx,My,Mb,Mc,T1,T2,T3,T4,cok,wi,setR_length]
   refine ⟨q - 1,by omega,i + 1,M2 + 2,.slice (some ⟨M2 + 1,0,none⟩) 1 1,by omega,rfl,rfl,?_,?_,by omega,rfl⟩
   ·have P := NmS.push (hp := hp) (hp' := (M2 + 1,some ⟨40,5,false,co :: TL⟩) :: (M2 + 0,some ⟨40,5,true,co :: TL⟩) :: hp2) (N := MA) (M := M) (M0 := M + 2) (M' := M2 + 2) (n := j) (i := i) (kN := M2 + 1) (l := scL5 bs LL) (x := false) (sl := .slice none 0 0) (co := co) (.inl ⟨z,rfl⟩) ?_ (by omega) ?_ ?_ ?_ (by omega) (by omega) ?_ hM (by omega)
    ·rw [show Value.slice (some ⟨M2 + 1,0,none⟩) 1 1 = .slice (some ⟨M2 + 1,0,none⟩) (i + 1) (i + 1) by rw [z]]
     exact P
    ·intro q hq _
     have nb : ∀ d,(M2 + d = q) = False := fun d => eq_false (by omega)
     simp only [↓R0,R1,simprocAttr,-Int.reduceAbs,nb]
     exact hh2 q hq
    ·rw [LMi]
     rcases hco with ⟨z,rfl⟩ | ⟨z,kc,y,rfl,g1,g2,g3⟩
     ·exact .inl ⟨z,rfl⟩
     ·have nb : ∀ d,(M2 + d = kc) = False := fun d => eq_false (by omega)
      exact .inr ⟨z,kc,y,rfl,by simp only [↓R0,R1,simprocAttr,-Int.reduceAbs,nb]; exact g1,g2,by omega⟩
    ·rw [LMi]; exact hDl
    ·rw [T5]
     simp only [↓R0,R1,simprocAttr,-Int.reduceAbs]
    ·intro kc e
     rcases hco with ⟨z,rfl⟩ | ⟨z,kc',y,rfl,g1,g2,g3⟩
     ·cases e
     ·cases e; omega
   ·intro q hq
    have nb : ∀ d,(M2 + d = q) = False := fun d => eq_false (by omega)
    simp only [↓R0,R1,simprocAttr,-Int.reduceAbs,nb]
    rw [hh2 q (by omega)]; exact hh q hq
  ·have a1' : hget hp2 kL = some ⟨40,5,x,blkC (nmF j ρ (scL5 bs LL)) i⟩ := by rw [hh2 kL (by omega)]; exact a1
   have v1 : ∀ d,(M2 + d = kL) = False := fun d => eq_false (by omega)
   have v2 : ∀ d,(kL = M2 + d) = False := fun d => eq_false (by omega)
   have v3 : (M + 1 = kL) = False := eq_false (by omega)
   have v4 : (kL = k) = False := eq_false (by omega)
   have bl5 : (blkC (nmF j ρ (scL5 bs LL)) i).length = i * 5 := blkC_len fun _ _ => rfl
   have Sx : NmS hp MA M j (scL5 bs LL) i (.slice (some ⟨kL,0,none⟩) i i) := .inr ⟨z,kL,x,ρ,rfl,a1,a2,a3,a4⟩
   generalize eBK : blkC (nmF j ρ (scL5 bs LL)) i = BK at *
   simp only [↓R0,R1,simprocAttr,-Int.reduceAbs,t0,t2,t7,t9,t10,t11,t12,t13,c1,c1',hbb2,k0,Mk2,Mk3,cj',bb,bx,Mx,My,Mb,Mc,T1,T2,T3,T4,cok,wi,setR_length,a1',bl5,nlr,ov2,v1,v2,v3,v4]
   refine ⟨q - 1,by omega,i + 1,M2 + 2,.slice (some ⟨M2 + 1,0,none⟩) (i + 1) (i + 1),by omega,rfl,rfl,?_,?_,by omega,rfl⟩
   ·refine NmS.push (hp := hp) (M0 := M + 2) (x := false) (co := co) Sx ?_ (by omega) ?_ ?_ ?_ (by omega) (by omega) ?_ hM (by omega)
    ·intro q hq hne
     have nb : ∀ d,(M2 + d = q) = False := fun d => eq_false (by omega)
     have nq : (kL = q) = False := eq_false (fun e => hne e.symm)
     simp only [↓R0,R1,simprocAttr,-Int.reduceAbs,nb,nq]
     exact hh2 q hq
    ·rw [LMi]
     rcases hco with ⟨z,rfl⟩ | ⟨z,kc,y,rfl,g1,g2,g3⟩
     ·exact .inl ⟨z,rfl⟩
     ·have nb : ∀ d,(M2 + d = kc) = False := fun d => eq_false (by omega)
      have nq : (kL = kc) = False := eq_false (by omega)
      exact .inr ⟨z,kc,y,rfl,by simp only [↓R0,R1,simprocAttr,-Int.reduceAbs,nb,nq]; exact g1,g2,by omega⟩
    ·rw [LMi]; exact hDl
    ·rw [T5]
     simp only [a1]
     simp only [↓R0,R1,simprocAttr,-Int.reduceAbs,v1,v2]
    ·intro kc e
     rcases hco with ⟨z,rfl⟩ | ⟨z,kc',y,rfl,g1,g2,g3⟩
     ·cases e
     ·cases e; omega
   ·intro q hq
    have nb : ∀ d,(M2 + d = q) = False := fun d => eq_false (by omega)
    have nq : (kL = q) = False := eq_false (by omega)
    simp only [↓R0,R1,simprocAttr,-Int.reduceAbs,nb,nq]
    rw [hh2 q (by omega)]; exact hh q hq
 have z0' : (z = 0) = False := eq_false z0
 have wz : IntKind.i64.wrap z = z := i64_in _ (by omega)
 have eb : ((z : Int) : Rat) = bs i := by rw [bsi,bz5_c pt z0]
 have fromC : spR3From [.int .i64 z] = some (.agg ⟨rE ((z : Int) : Rat)⟩) := r3From_of (by omega)
 rw [eb] at fromC
 generalize ((1 + (i : Int) : Int) : Rat) = b1 at *
 simp only [↓R0,R1,simprocAttr,-Int.reduceAbs,flat,t0,t7,t10,t9,c1,c1',hbb,q1,q3,Mk,e51,k4,mq1,fromA,w1i,dn,setR_length,rE_l3',rE_o3',b3,b4,b5,E1,E2,E3,E4,t2',ci,ci',hb1',Mk1,r1,r2,z0',wz,fromC,Bool.not_true,Bool.not_false]
 refine lp_parts (fun d tm hp2 nx => ∃ (j M2 : Nat) (co : Value),d + j = n' /\ tmget tm 0 = .int .i64 n' /\ tmget tm 2 = .slice ak ks.length ck /\ tmget tm 7 = .slice (some ⟨k,off,none⟩) la.length la.length /\ tmget tm 9 = o /\ tmget tm 10 = .int .i64 i /\ tmget tm 11 = .pointer (some ⟨M + 0,0,none⟩) /\ tmget tm 12 = .pointer (some ⟨M + 1,0,none⟩) /\ tmget tm 13 = .int .i64 j /\
   hget hp2 (M + 0) = some ⟨38,3,true,rE (bs i)⟩ /\ hget hp2 (M + 1) = some ⟨40,5,true,co :: TL⟩ /\ CoS hp2 (M + 2) M2 (scE5 (bs i) (eqAt LL i)).coef j co /\ (∀ q,q < M -> hget hp2 q = hget hp q) /\ M + 2 <= M2 /\ nx = M2 + 0) ?_ n'
  ⟨0,M + 2,.slice none 0 0,by omega,?_,?_,?_,?_,?_,?_,?_,?_,?_,?_,.inl ⟨rfl,rfl⟩,?_,Nat.le_refl _,rfl⟩
 rotate_left
 all_goals first | (simp only [↓R0,R1,simprocAttr,-Int.reduceAbs,t0,t2,t7,t9,t10]; done) | (simp only [↓R0,R1,simprocAttr,-Int.reduceAbs,t0,t2,t7,t9,t10]; rfl) | skip
 ·intro q hq
  have nb : ∀ d,(M + d = q) = False := fun d => eq_false (by omega)
  simp only [↓R0,R1,simprocAttr,-Int.reduceAbs,nb]
 clear t0 t2 t7 t9 t10
 rintro d tm hp2 nx ⟨j,M2,co,hd,t0,t2,t7,t9,t10,t11,t12,t13,bb,bx,hco,hh2,hM2,hnx⟩
 rw [hnx]
 clear hnx nx
 have wj : IntKind.i64.wrap ((j : Int) + 1) = ((j + 1 : Nat) : Int) := by rw [i64_in _ (by omega)]; omega
 have hbb2 : hget hp2 k = some blk := by rw [hh2 k (by omega)]; exact hbb
 have Mk2 : ∀ d,(M2 + d = k) = False := fun d => eq_false (by omega)
 have Mx : ∀ d,(M2 + d = M + 1) = False := fun d => eq_false (by omega)
 have My : ∀ d,(M + 1 = M2 + d) = False := fun d => eq_false (by omega)
 have Mb : ∀ d,(M2 + d = M + 0) = False := fun d => eq_false (by omega)
 have Mc : (M + 1 = M + 0) = False := eq_false (by omega)
 have Mk3 : (M + 1 = k) = False := eq_false (by omega)
 by_cases cj : j < n'
 case pos =>
  have cj' : ((j : Int) < (n' : Int)) = True := eq_true (by omega)
  obtain ⟨kk,f2,B2,ea2,b2,p3,p4⟩ := rq_at hl' cj
  have nk2 := bA _ _ b2
  have b2' : hget hp2 kk = some B2 := by rw [hh2 kk (by omega),hh kk nk2]; exact b2
  have Nk1 : ∀ d,(M2 + d = kk) = False := fun d => eq_false (by omega)
  have Nk2 : (M + 1 = kk) = False := eq_false (by omega)
  rw [ea2] at k0
  have qm : rqAt (eqAt LL i).coef j ∈ (eqAt LL i).coef := by unfold rqAt; rw [List.getElem?_eq_getElem (by omega)]; exact List.getElem_mem (by omega)
  have mq2 := mq _ (hC _ qm)
  have Dj : (scE5 (bs i) (eqAt LL i)).coef[j]? = some (RQ.of ((rqAt (eqAt LL i).coef j).v * bs i)) := by
   rw [hD,List.getElem?_map]
   unfold rqAt
   rw [List.getElem?_eq_getElem (by omega)]; rfl
  have Ds : rqs ((scE5 (bs i) (eqAt LL i)).coef.take (j + 1)) = rqs ((scE5 (bs i) (eqAt LL i)).coef.take j) ++ rE ((rqAt (eqAt LL i).coef j).v * bs i) := by
   rw [List.take_add_one,Dj]
   exact (rqs_app _ _).symm
  have Dl : (rqs ((scE5 (bs i) (eqAt LL i)).coef.take j)).length = j * 3 := by rw [rqs_len,List.length_take,hDl,Nat.min_eq_left (by omega)]
  have ql : (rqAt (eqAt LL i).coef j).cells.length = 3 := rfl
  generalize (rqAt (eqAt LL i).coef j).cells = QC at *
  rcases hco with ⟨z,rfl⟩ | ⟨z,kc,y,rfl,g1,g2,g3⟩
  ·have D0 : rqs ((scE5 (bs i) (eqAt LL i)).coef.take j) = [] := List.eq_nil_of_length_eq_zero (by rw [Dl,z])
   rw [D0,List.nil_append] at Ds
   simp only [↓R0,R1,simprocAttr,-Int.reduceAbs,flat,t0,t2,t7,t9,t10,t11,t12,t13,c1,c1',cj,cj',hbb2,bb,bx,k0,b2',p3,p4,Mk2,Mk3,Mx,My,Mb,Mc,Nk1,Nk2,mq2,rE_l3',rE_o3',b3,b4,ql,T1,T2,wj,setR_length]
   refine ⟨d - 1,by omega,j + 1,M2 + 2,.slice (some ⟨M2 + 1,0,none⟩) 1 1,by omega,rfl,rfl,.inr ⟨by omega,M2 + 1,false,by rw [z],?_,by omega,by omega⟩,fun q hq => ?_,by omega,rfl⟩
   ·rw [Ds]
    simp only [↓R0,R1,simprocAttr,-Int.reduceAbs,Mx,My,Mb]
   ·have nb : ∀ d,(M2 + d = q) = False := fun d => eq_false (by omega)
    have nc : (M + 1 = q) = False := eq_false (by omega)
    simp only [↓R0,R1,simprocAttr,-Int.reduceAbs,nb,nc]
    exact hh2 q hq
  ·have v1 : ∀ d,(M2 + d = kc) = False := fun d => eq_false (by omega)
   have v2 : ∀ d,(kc = M2 + d) = False := fun d => eq_false (by omega)
   have v3 : (M + 1 = kc) = False := eq_false (by omega)
   have v4 : (kc = M + 1) = False := eq_false (by omega)
   have v5 : (kc = M + 0) = False := eq_false (by omega)
   have nler : (j + 1 <= j) = False := eq_false (by omega)
   have ovr : ((j + 1) * 40 <= 140737488355328) = True := eq_true (by omega)
   generalize eDT : rqs ((scE5 (bs i) (eqAt LL i)).coef.take j) = DT at *
   simp only [↓R0,R1,simprocAttr,-Int.reduceAbs,flat,t0,t2,t7,t9,t10,t11,t12,t13,c1,c1',cj,cj',hbb2,bb,bx,k0,b2',p3,p4,Mk2,Mk3,Mx,My,Mb,Mc,Nk1,Nk2,mq2,rE_l3',rE_o3',b3,b4,ql,T1,T2,wj,setR_length,g1,Dl,nler,ovr,v1,v2,v3,v4,v5]
   refine ⟨d - 1,by omega,j + 1,M2 + 2,.slice (some ⟨M2 + 1,0,none⟩) (j + 1) (j + 1),by omega,rfl,rfl,.inr ⟨by omega,M2 + 1,false,rfl,?_,by omega,by omega⟩,fun q hq => ?_,by omega,rfl⟩
   ·rw [Ds]
    simp only [↓R0,R1,simprocAttr,-Int.reduceAbs,Mx,My,Mb,v1,v2,v3,v4,v5]
   ·have nb : ∀ d,(M2 + d = q) = False := fun d => eq_false (by omega)
    have nc : (M + 1 = q) = False := eq_false (by omega)
    have nq : (kc = q) = False := eq_false (by omega)
    simp only [↓R0,R1,simprocAttr,-Int.reduceAbs,nb,nc,nq]
    exact hh2 q hq
 have ej : j = n' := by omega
 subst ej
 have cj' : ((j : Int) < (j : Int)) = False := eq_false (by omega)
 have cok : okCell co = true := by rcases hco with ⟨_,rfl⟩ | ⟨_,kc,y,rfl,_⟩ <;> rfl
 have nlr : (i + 1 <= i) = False := eq_false (by omega)
 have ov2 : ((i + 1) * 72 <= 140737488355328) = True := eq_true (by omega)
 rcases hS with ⟨z,rfl⟩ | ⟨z,kL,x,ρ,rfl,a1,a2,a3,a4⟩
 ·simp only [↓R0,R1,simprocAttr,-Int.reduceAbs,t0,t2,t7,t9,t10,t11,t12,t13,c1,c1',hbb2,k0,Mk2,Mk3,cj',bb,bx,Mx,My,Mb,Mc,T1,T2,T3,T4,cok,wi,setR_length]
  refine ⟨q - 1,by omega,i + 1,M2 + 2,.slice (some ⟨M2 + 1,0,none⟩) 1 1,by omega,rfl,rfl,?_,?_,by omega,rfl⟩
  ·have P := NmS.push (hp := hp) (hp' := (M2 + 1,some ⟨40,5,false,co :: TL⟩) :: (M2 + 0,some ⟨40,5,true,co :: TL⟩) :: hp2) (N := MA) (M := M) (M0 := M + 2) (M' := M2 + 2) (n := j) (i := i) (kN := M2 + 1) (l := scL5 bs LL) (x := false) (sl := .slice none 0 0) (co := co) (.inl ⟨z,rfl⟩) ?_ (by omega) ?_ ?_ ?_ (by omega) (by omega) ?_ hM (by omega)
   ·rw [show Value.slice (some ⟨M2 + 1,0,none⟩) 1 1 = .slice (some ⟨M2 + 1,0,none⟩) (i + 1) (i + 1) by rw [z]]
    exact P
   ·intro q hq _
    have nb : ∀ d,(M2 + d = q) = False := fun d => eq_false (by omega)
    simp only [↓R0,R1,simprocAttr,-Int.reduceAbs,nb]
    exact hh2 q hq
   ·rw [LMi]
    rcases hco with ⟨z,rfl⟩ | ⟨z,kc,y,rfl,g1,g2,g3⟩
    ·exact .inl ⟨z,rfl⟩
    ·have nb : ∀ d,(M2 + d = kc) = False := fun d => eq_false (by omega)
     exact .inr ⟨z,kc,y,rfl,by simp only [↓R0,R1,simprocAttr,-Int.reduceAbs,nb]; exact g1,g2,by omega⟩
   ·rw [LMi]; exact hDl
   ·rw [T5]
    simp only [↓R0,R1,simprocAttr,-Int.reduceAbs]
   ·intro kc e
    rcases hco with ⟨z,rfl⟩ | ⟨z,kc',y,rfl,g1,g2,g3⟩
    ·cases e
    ·cases e; omega
  ·intro q hq
   have nb : ∀ d,(M2 + d = q) = False := fun d => eq_false (by omega)
   simp only [↓R0,R1,simprocAttr,-Int.reduceAbs,nb]
   rw [hh2 q (by omega)]; exact hh q hq
 ·have a1' : hget hp2 kL = some ⟨40,5,x,blkC (nmF j ρ (scL5 bs LL)) i⟩ := by rw [hh2 kL (by omega)]; exact a1
  have v1 : ∀ d,(M2 + d = kL) = False := fun d => eq_false (by omega)
  have v2 : ∀ d,(kL = M2 + d) = False := fun d => eq_false (by omega)
  have v3 : (M + 1 = kL) = False := eq_false (by omega)
  have v4 : (kL = k) = False := eq_false (by omega)
  have bl5 : (blkC (nmF j ρ (scL5 bs LL)) i).length = i * 5 := blkC_len fun _ _ => rfl
  have Sx : NmS hp MA M j (scL5 bs LL) i (.slice (some ⟨kL,0,none⟩) i i) := .inr ⟨z,kL,x,ρ,rfl,a1,a2,a3,a4⟩
  generalize eBK : blkC (nmF j ρ (scL5 bs LL)) i = BK at *
  simp only [↓R0,R1,simprocAttr,-Int.reduceAbs,t0,t2,t7,t9,t10,t11,t12,t13,c1,c1',hbb2,k0,Mk2,Mk3,cj',bb,bx,Mx,My,Mb,Mc,T1,T2,T3,T4,cok,wi,setR_length,a1',bl5,nlr,ov2,v1,v2,v3,v4]
  refine ⟨q - 1,by omega,i + 1,M2 + 2,.slice (some ⟨M2 + 1,0,none⟩) (i + 1) (i + 1),by omega,rfl,rfl,?_,?_,by omega,rfl⟩
  ·refine NmS.push (hp := hp) (M0 := M + 2) (x := false) (co := co) Sx ?_ (by omega) ?_ ?_ ?_ (by omega) (by omega) ?_ hM (by omega)
   ·intro q hq hne
    have nb : ∀ d,(M2 + d = q) = False := fun d => eq_false (by omega)
    have nq : (kL = q) = False := eq_false (fun e => hne e.symm)
    simp only [↓R0,R1,simprocAttr,-Int.reduceAbs,nb,nq]
    exact hh2 q hq
   ·rw [LMi]
    rcases hco with ⟨z,rfl⟩ | ⟨z,kc,y,rfl,g1,g2,g3⟩
    ·exact .inl ⟨z,rfl⟩
    ·have nb : ∀ d,(M2 + d = kc) = False := fun d => eq_false (by omega)
     have nq : (kL = kc) = False := eq_false (by omega)
     exact .inr ⟨z,kc,y,rfl,by simp only [↓R0,R1,simprocAttr,-Int.reduceAbs,nb,nq]; exact g1,g2,by omega⟩
   ·rw [LMi]; exact hDl
   ·rw [T5]
    simp only [a1]
    simp only [↓R0,R1,simprocAttr,-Int.reduceAbs,v1,v2]
   ·intro kc e
    rcases hco with ⟨z,rfl⟩ | ⟨z,kc',y,rfl,g1,g2,g3⟩
    ·cases e
    ·cases e; omega
  ·intro q hq
   have nb : ∀ d,(M2 + d = q) = False := fun d => eq_false (by omega)
   have nq : (kL = q) = False := eq_false (by omega)
   simp only [↓R0,R1,simprocAttr,-Int.reduceAbs,nb,nq]
   rw [hh2 q (by omega)]; exact hh q hq
theorem fr_L25sca {h : Heap} {N : Nat} {n : Int} {a kv : Value} {la : List EqR} {ks : List Int} (zn : -9223372036854775808 <= n /\ n <= 9223372036854775807) (ea : decRows h a = some la) (ma : la.length <= maxLen) (ek : listAt 1 decI8 h kv = some ks) (mk : ks.length <= maxLen) : rdS spL25sca [.int .i64 n,a,kv] h N = some (.bool true,[],0) := by
 unfold rdS spL25sca
 simp only [ea,ek]
 rw [if_pos ⟨zn,Nat.le_trans ma (by decide),Nat.le_trans mk (by decide)⟩]; rfl
end Go.Eng
end
