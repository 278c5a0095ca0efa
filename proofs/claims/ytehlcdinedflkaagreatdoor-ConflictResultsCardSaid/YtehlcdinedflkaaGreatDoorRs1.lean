/-
  A part of the proof: the machine, the contracts of the functions and the plain laws, merged from smaller texts.
-/
import Derived.Orders
import Derived.Laws.Sem
import Derived.Laws.World
import Derived.Laws.StructEq
import Derived.Laws.Append
import Derived.Tactics
import Derived.TacticsIn
import Derived.OrdersIn
import Derived.LoopNIn
import Derived.LoopN
set_option linter.unusedVariables false
set_option linter.unusedSimpArgs false
set_option linter.unusedSectionVars false
section
namespace Go.Eng
structure Loc where
 b:Nat
 ex:Nat
 sp:List Value
abbrev Emb:=Nat -> Option Loc
structure Blk where
 elem:Nat
 sz:Nat
 x:Bool
 cells:List Value
abbrev Heap:=List (Nat × Option Blk)
def hget:Heap -> Nat -> Option Blk
 | [],_=>none
 | (k,b) :: r,k'=>if k=k' then b else hget r k'
def isBase:Value -> Bool
 | .bool _ | .int _ _ | .string _ | .nilFunc | .nilIface=>true
 | .pointer none=>true
 | .slice none _ _=>true
 | .map none=>true
 | _=>false
def okCell:Value -> Bool
 | .agg _ | .tuple _=>false
 | _=>true
mutual
inductive VR (β:Emb):Value -> Value -> Prop
 | base (v:Value) (h:isBase v=true):VR β v v
 | ptr (k off:Nat) (L:Loc) (h:β k=some L):VR β (.pointer (some ⟨k,off,none⟩)) (.pointer (some ⟨L.b,off,none⟩))
 | sl (k off len cap:Nat) (L:Loc) (h:β k=some L):VR β (.slice (some ⟨k,off,none⟩) len cap) (.slice (some ⟨L.b,off,none⟩) len (cap+L.ex))
 | slz (k off c:Nat) (L:Loc) (h:β k=some L):VR β (.slice (some ⟨k,0,some 0⟩) 0 0) (.slice (some ⟨L.b,off,none⟩) 0 c)
 | sle (a:Addr) (c:Nat):VR β (.slice (some ⟨0,0,some 1⟩) 0 0) (.slice (some a) 0 c)
 | junk (c:Option Nat) (v:Value) (h:okCell v=true):VR β (.chan c) v
 | fn (f:Fn) (xs xs' cs cs':List Value) (h:VRs β xs xs') (h':VRs β cs cs'):VR β (.func f ⟨xs⟩ ⟨cs⟩) (.func f ⟨xs'⟩ ⟨cs'⟩)
 | ifc (t:Nat) (v v':Value) (h:VR β v v'):VR β (.iface t v) (.iface t v')
 | agg (cs ds:List Value) (h:VRs β cs ds):VR β (.agg ⟨cs⟩) (.agg ⟨ds⟩)
 | tup (cs ds:List Value) (h:VRs β cs ds):VR β (.tuple ⟨cs⟩) (.tuple ⟨ds⟩)
inductive VRs (β:Emb):List Value -> List Value -> Prop
 | nil:VRs β [] []
 | cons (v v':Value) (r r':List Value) (h:VR β v v') (h':VRs β r r'):VRs β (v :: r) (v' :: r')
end
def Emb.le (β β':Emb):Prop:=∀ k L,β k=some L -> β' k=some L
theorem Emb.le_refl (β:Emb):β.le β:=fun _ _ h=>h
theorem Emb.le_trans {β β' β'':Emb} (h:β.le β') (h':β'.le β''):β.le β'':=fun k L e=>h' k L (h k L e)
mutual
theorem VR.mono {β β':Emb} (hb:β.le β') {v v':Value} (h:VR β v v'):VR β' v v':=by
 cases h with
 | base _ h=>exact .base _ h
 | ptr k off L h=>exact .ptr _ _ _ (hb _ _ h)
 | sl k off len cap L h=>exact .sl _ _ _ _ _ (hb _ _ h)
 | slz k off c L h=>exact .slz _ _ _ _ (hb _ _ h)
 | sle a c=>exact .sle a c
 | junk c _ h=>exact .junk c _ h
 | fn f xs xs' cs cs' h h'=>exact .fn _ _ _ _ _ (h.mono hb) (h'.mono hb)
 | ifc t v v' h=>exact .ifc _ _ _ (h.mono hb)
 | agg cs ds h=>exact .agg _ _ (h.mono hb)
 | tup cs ds h=>exact .tup _ _ (h.mono hb)
theorem VRs.mono {β β':Emb} (hb:β.le β') {v v':List Value} (h:VRs β v v'):VRs β' v v':=by
 cases h with
 | nil=>exact .nil
 | cons v v' r r' h h'=>exact .cons _ _ _ _ (h.mono hb) (h'.mono hb)
end
theorem VRs.length {β:Emb}:∀ {xs ys:List Value},VRs β xs ys -> xs.length=ys.length
 | _,_,.nil=>rfl
 | _,_,.cons _ _ _ _ _ h=>by simp [VRs.length h]
theorem VRs.append {β:Emb}:∀ {xs ys xs' ys':List Value},VRs β xs ys -> VRs β xs' ys' -> VRs β (xs ++ xs') (ys ++ ys')
 | _,_,_,_,.nil,h=>h
 | _,_,_,_,.cons _ _ _ _ h h',h2 => .cons _ _ _ _ h (h'.append h2)
theorem VRs.get {β:Emb}:∀ {xs ys:List Value},VRs β xs ys -> ∀ {i:Nat} {v:Value},xs[i]?=some v -> ∃ v',ys[i]?=some v' /\ VR β v v'
 | _,_,.nil,i,v,h=>by simp at h
 | _,_,.cons a b r r' h h',0,v,e=>by simp at e;subst e;exact ⟨b,by simp,h⟩
 | _,_,.cons a b r r' h h',i+1,v,e=>by simp at e;obtain ⟨v',h1,h2⟩:=h'.get e;exact ⟨v',by simpa using h1,h2⟩
theorem VRs.drop {β:Emb}:∀ {xs ys:List Value},VRs β xs ys -> ∀ (n:Nat),VRs β (xs.drop n) (ys.drop n)
 | _,_,.nil,n=>by simp;exact .nil
 | _,_,.cons a b r r' h h',0 => .cons _ _ _ _ h h'
 | _,_,.cons a b r r' h h',n+1=>by simpa using h'.drop n
theorem VRs.take {β:Emb}:∀ {xs ys:List Value},VRs β xs ys -> ∀ (n:Nat),VRs β (xs.take n) (ys.take n)
 | _,_,.nil,n=>by simp;exact .nil
 | _,_,.cons a b r r' h h',0=>by simp;exact .nil
 | _,_,.cons a b r r' h h',n+1=>by simpa using VRs.cons _ _ _ _ h (h'.take n)
theorem VRs.of_base {β:Emb}:∀ {xs:List Value},xs.all isBase=true -> VRs β xs xs
 | [],_ => .nil
 | v :: r,h=>by simp at h;exact .cons _ _ _ _ (.base _ h.1) (VRs.of_base (by simpa using h.2))
theorem VRs.replicate {β:Emb} {v v':Value} (h:VR β v v'):∀ n,VRs β (List.replicate n v) (List.replicate n v')
 | 0 => .nil
 | n+1 => .cons _ _ _ _ h (VRs.replicate h n)
theorem VRs.flatten {β:Emb} {z z':List Value} (h:VRs β z z'):∀ n,VRs β (List.replicate n z).flatten (List.replicate n z').flatten
 | 0 => .nil
 | n+1=>by simpa [List.replicate_succ] using h.append (VRs.flatten h n)
def vcells:Value -> List Value
 | .agg ⟨l⟩=>l
 | v=>[v]
theorem vcells_eq (v:Value):v.cells.toList=vcells v:=by cases v <;> rfl
theorem VR.cells {β:Emb} {v v':Value} (h:VR β v v'):VRs β (vcells v) (vcells v'):=by
 cases h with
 | base _ h=>cases v <;> simp [isBase] at h <;> exact .cons _ _ _ _ (.base _ (by first | rfl | simpa [isBase] using h)) .nil
 | ptr k off L h=>exact .cons _ _ _ _ (.ptr _ _ _ h) .nil
 | sl k off len cap L h=>exact .cons _ _ _ _ (.sl _ _ _ _ _ h) .nil
 | slz k off c L h=>exact .cons _ _ _ _ (.slz _ _ _ _ h) .nil
 | sle a c=>exact .cons _ _ _ _ (.sle a c) .nil
 | junk c _ h=>
  cases v' <;> first | (exact .cons _ _ _ _ (.junk _ _ rfl) .nil) | cases h
 | fn f xs xs' cs cs' h h'=>exact .cons _ _ _ _ (.fn _ _ _ _ _ h h') .nil
 | ifc t v v' h=>exact .cons _ _ _ _ (.ifc _ _ _ h) .nil
 | agg cs ds h=>exact h
 | tup cs ds h=>exact .cons _ _ _ _ (.tup _ _ h) .nil
theorem VR.okCell {β:Emb} {v v':Value} (h:VR β v v'):okCell v'=okCell v:=by
 cases h <;> first | rfl | assumption
theorem VRs.okCells {β:Emb}:∀ {xs ys:List Value},VRs β xs ys -> ys.all okCell=xs.all okCell
 | _,_,.nil=>rfl
 | _,_,.cons _ _ _ _ h h'=>by simp [h.okCell,h'.okCells]
def wr (h:Heap) (k:Nat):Prop:=∃ blk,hget h k=some blk /\ blk.sz ≠ 0
theorem wr.ne {h:Heap} {k:Nat} (a:wr h k):hget h k ≠ none:=by obtain ⟨b,e,_⟩:=a;rw [e];simp
structure Rel (β:Emb) (h:Heap) (w:World):Prop where
 live:∀ k blk,hget h k=some blk -> ∃ L ds fr,β k=some L /\ w.heap[L.b]?=some (.cells ⟨ds ++ L.sp⟩ blk.elem fr) /\
  (blk.sz ≠ 0 -> fr.2 <= fr.1 \/ (ds ++ L.sp).length <= fr.1) /\ VRs β blk.cells ds /\ L.sp.length=L.ex * blk.sz /\ (blk.x=true -> L.ex=0)
 inj:∀ k k' L L',hget h k ≠ none -> wr h k' -> β k=some L -> β k'=some L' -> L.b=L'.b -> k=k'
 bnd:∀ k L,β k=some L -> L.b < w.heap.size
structure Fr (β:Emb) (h:Heap) (w:World) (β':Emb) (h':Heap) (w':World):Prop where
 ext:β.le β'
 size:w.heap.size <= w'.heap.size
 os:w'.os=w.os
 out:w'.output=w.output
 keep:∀ b,b < w.heap.size -> (∀ k L,wr h k -> β k=some L -> L.b ≠ b) -> w'.heap[b]?=w.heap[b]?
 own:∀ k' L',wr h' k' -> β' k'=some L' -> L'.b < w.heap.size -> ∃ k L,wr h k /\ β k=some L /\ L.b=L'.b
theorem Fr.refl (β:Emb) (h:Heap) (w:World):Fr β h w β h w:=
 ⟨β.le_refl,Nat.le_refl _,rfl,rfl,fun _ _ _=>rfl,fun k L a b _=>⟨k,L,a,b,rfl⟩⟩
theorem Fr.trans {β β' β'':Emb} {h h' h'':Heap} {w w' w'':World} (f:Fr β h w β' h' w') (g:Fr β' h' w' β'' h'' w''):Fr β h w β'' h'' w'' where
 ext:=Emb.le_trans f.ext g.ext
 size:=Nat.le_trans f.size g.size
 os:=g.os.trans f.os
 out:=g.out.trans f.out
 keep b hb hn:=by
  rw [g.keep b (Nat.lt_of_lt_of_le hb f.size) ?_,f.keep b hb hn]
  intro k' L' hl hb' e
  obtain ⟨k,L,a1,a2,a3⟩:=f.own k' L' hl hb' (by omega)
  exact hn k L a1 a2 (a3.trans e)
 own k'' L'' hl hb'' hlt:=by
  obtain ⟨k',L',a1,a2,a3⟩:=g.own k'' L'' hl hb'' (Nat.lt_of_lt_of_le hlt f.size)
  obtain ⟨k,L,b1,b2,b3⟩:=f.own k' L' a1 a2 (by omega)
  exact ⟨k,L,b1,b2,b3.trans a3⟩
theorem Rel.congr {β:Emb} {h h':Heap} {w:World} (e:∀ k,hget h' k=hget h k) (r:Rel β h w):Rel β h' w:=
 ⟨fun k blk hk=>r.live k blk (by rw [<- e];exact hk),fun k k' L L' a b=>r.inj k k' L L' (by rw [<- e];exact a) (by unfold wr at b ⊢;rw [<- e];exact b),r.bnd⟩
theorem Fr.congr {β β':Emb} {h h1 h2:Heap} {w w':World} (e:∀ k,hget h2 k=hget h1 k) (f:Fr β h w β' h1 w'):Fr β h w β' h2 w':=
 ⟨f.ext,f.size,f.os,f.out,f.keep,fun k L a=>f.own k L (by unfold wr at a ⊢;rw [<- e];exact a)⟩
theorem Rel.less {β:Emb} {h h':Heap} {w:World} (e:∀ k blk,hget h' k=some blk -> hget h k=some blk) (r:Rel β h w):Rel β h' w:=by
 have ne:∀ k,hget h' k ≠ none -> hget h k ≠ none:=fun k hk=>by
  cases hh:hget h' k with
  | none=>exact absurd hh hk
  | some b=>rw [e k b hh];simp
 exact ⟨fun k blk hk=>r.live k blk (e _ _ hk),fun k k' L L' a b=>r.inj k k' L L' (ne _ a) (by obtain ⟨blk,b1,b2⟩:=b;exact ⟨blk,e _ _ b1,b2⟩),r.bnd⟩
theorem Fr.less {β β':Emb} {h h1 h2:Heap} {w w':World} (e:∀ k blk,hget h2 k=some blk -> hget h1 k=some blk) (f:Fr β h w β' h1 w'):Fr β h w β' h2 w':=by
 have ne:∀ k,wr h2 k -> wr h1 k:=fun k ⟨b,h1,h2⟩=>⟨b,e k b h1,h2⟩
 exact ⟨f.ext,f.size,f.os,f.out,f.keep,fun k L a=>f.own k L (ne _ a)⟩
def Emb.set (β:Emb) (k:Nat) (L:Loc):Emb:=fun j=>if j=k then some L else β j
theorem Emb.set_same (β:Emb) (k:Nat) (L:Loc):β.set k L k=some L:=by simp [Emb.set]
theorem Emb.set_other (β:Emb) {k j:Nat} (L:Loc) (h:j ≠ k):β.set k L j=β j:=by simp [Emb.set,h]
theorem Emb.le_set {β:Emb} {k:Nat} (L:Loc) (h:β k=none):β.le (β.set k L):=fun j M e=>by
 by_cases hj:j=k
 ·subst hj;rw [h] at e;cases e
 ·rw [Emb.set_other _ _ hj];exact e
def put (w:World) (b:Nat) (o:Obj):World:={ w with heap:=w.heap.setIfInBounds b o }
theorem put_put (w:World) (b:Nat) (o o':Obj):put (put w b o) b o'=put w b o':=by
 simp [put]
theorem put_same {w:World} {b:Nat} {o:Obj} (h:w.heap[b]?=some o):put w b o=w:=by
 unfold put
 have:w.heap.setIfInBounds b o=w.heap:=by
  apply Array.ext_getElem?
  intro i
  rw [Array.getElem?_setIfInBounds]
  by_cases e:b=i
  ·subst e
   rw [if_pos rfl]
   have hlt:b < w.heap.size:=by
    rcases Nat.lt_or_ge b w.heap.size with x | x
    ·exact x
    ·rw [Array.getElem?_eq_none x] at h;cases h
   rw [if_pos hlt,h]
  ·rw [if_neg e]
 rw [this]
theorem put_get {w:World} {b:Nat} {o o':Obj} (h:w.heap[b]?=some o):(put w b o').heap[b]?=some o':=by
 have hlt:b < w.heap.size:=by
  rcases Nat.lt_or_ge b w.heap.size with x | x
  ·exact x
  ·rw [Array.getElem?_eq_none x] at h;cases h
 simp [put,hlt]
theorem put_get_other {w:World} {b c:Nat} {o:Obj} (h:b ≠ c):(put w b o).heap[c]?=w.heap[c]?:=by
 simp [put,Array.getElem?_setIfInBounds,h]
theorem add_none (b off n:Nat):(⟨b,off,none⟩:Addr).add n=⟨b,off+n,none⟩:=by
 unfold Addr.add
 split
 ·rename_i h;subst h;rfl
 ·rfl
theorem cell_of {w:World} {b off:Nat} {C:List Value} {e:Nat} {fr:Nat × Nat} (h:w.heap[b]?=some (.cells ⟨C⟩ e fr)) :
  w.cell? ⟨b,off,none⟩=C[off]?:=by
 simp [World.cell?,h]
theorem setCell_put {w:World} {b off:Nat} {v:Value} {C:List Value} {e:Nat} {fr:Nat × Nat} (h:w.heap[b]?=some (.cells ⟨C⟩ e fr)) :
  w.setCell ⟨b,off,none⟩ v=put w b (.cells ⟨C.set off v⟩ e fr):=by
 unfold World.setCell put
 congr 1
 apply Array.ext_getElem?
 intro i
 rw [Array.getElem?_modify,Array.getElem?_setIfInBounds]
 by_cases hb:b=i
 ·subst hb
  have hlt:b < w.heap.size:=by
   rcases Nat.lt_or_ge b w.heap.size with x | x
   ·exact x
   ·rw [Array.getElem?_eq_none x] at h;cases h
  rw [if_pos rfl,if_pos rfl,if_pos hlt,h]
  simp
 ·simp [hb]
theorem frozen_no {w:World} {b off:Nat} {C:List Value} {e:Nat} {fr:Nat × Nat} (h:w.heap[b]?=some (.cells ⟨C⟩ e fr))
  (hf:fr.2 <= fr.1 \/ C.length <= fr.1) (ho:off < C.length):w.frozen? ⟨b,off,none⟩=false:=by
 obtain ⟨lo,hi⟩:=fr
 simp only [World.frozen?,h]
 simp only at hf
 simp
 intro h1
 omega
def setR:List Value -> Nat -> List Value -> List Value
 | C,_,[]=>C
 | C,off,v :: vs=>setR (C.set off v) (off+1) vs
theorem setR_length:∀ (vs C:List Value) (off:Nat),(setR C off vs).length=C.length
 | [],_,_=>rfl
 | v :: vs,C,off=>by simp [setR,setR_length vs]
theorem setR_append:∀ (vs C sp:List Value) (off:Nat),off+vs.length <= C.length -> setR (C ++ sp) off vs=setR C off vs ++ sp
 | [],_,_,_,_=>rfl
 | v :: vs,C,sp,off,h=>by
  simp only [List.length_cons] at h
  simp only [setR]
  rw [List.set_append_left _ _ (by omega),setR_append vs (C.set off v) sp (off+1) (by simp;omega)]
theorem VRs.set {β:Emb}:∀ {xs ys:List Value},VRs β xs ys -> ∀ {v v':Value},VR β v v' -> ∀ i,VRs β (xs.set i v) (ys.set i v')
 | _,_,.nil,_,_,_,_ => .nil
 | _,_,.cons a b r r' h h',v,v',hv,0 => .cons _ _ _ _ hv h'
 | _,_,.cons a b r r' h h',v,v',hv,i+1 => .cons _ _ _ _ h (h'.set hv i)
theorem VRs.setR {β:Emb}:∀ {vs vs':List Value},VRs β vs vs' -> ∀ {xs ys:List Value},VRs β xs ys -> ∀ off,VRs β (setR xs off vs) (setR ys off vs')
 | _,_,.nil,_,_,h,_=>h
 | _,_,.cons a b r r' h h',xs,ys,hx,off=>h'.setR (hx.set h off) (off+1)
theorem run_storeCells (P:Program):∀ (vs:List Value) (w:World) (b off i:Nat) (C:List Value) (e:Nat) (fr:Nat × Nat),
  w.heap[b]?=some (.cells ⟨C⟩ e fr) -> (fr.2 <= fr.1 \/ C.length <= fr.1) -> vs.all okCell=true -> off+i+vs.length <= C.length ->
  (storeCells ⟨b,off,none⟩ vs i).run P w = .ok () (put w b (.cells ⟨setR C (off+i) vs⟩ e fr))
 | [],w,b,off,i,C,e,fr,h,hf,hv,hl=>by simp [storeCells,setR,put_same h]
 | v :: vs,w,b,off,i,C,e,fr,h,hf,hv,hl=>by
  simp only [List.all_cons,Bool.and_eq_true] at hv
  simp only [List.length_cons] at hl
  have hlt:off+i < C.length:=by omega
  have hone:v.oneCell'=true:=by cases v <;> simp_all [okCell,Value.oneCell']
  simp only [storeCells,Sem.run_bind,add_none]
  rw [run_store P w _ v _ hone,cell_of h]
  rw [List.getElem?_eq_getElem hlt]
  simp only [frozen_no h hf hlt,Bool.false_eq_true,if_false,Result.andThen_ok]
  rw [setCell_put h]
  have ih:=run_storeCells P vs (put w b (.cells ⟨C.set (off+i) v⟩ e fr)) b off (i+1) (C.set (off+i) v) e fr (put_get h)
   (by simpa using hf) hv.2 (by simp;omega)
  rw [ih,put_put]
  rfl
theorem run_loadCellsFrom (P:Program) (w:World) (b off:Nat) (C:List Value) (e:Nat) (fr:Nat × Nat) (h:w.heap[b]?=some (.cells ⟨C⟩ e fr)) :
  ∀ (n i:Nat) (acc:Array Value),off+i+n <= C.length ->
  (loadCellsFrom ⟨b,off,none⟩ i n acc).run P w = .ok (acc ++ ⟨(C.drop (off+i)).take n⟩) w
 | 0,i,acc,hl=>by simp [loadCellsFrom]
 | n+1,i,acc,hl=>by
  have hlt:off+i < C.length:=by omega
  simp only [loadCellsFrom,Sem.run_bind,add_none,run_load,cell_of h,List.getElem?_eq_getElem hlt,Result.andThen_ok]
  rw [run_loadCellsFrom P w b off C e fr h n (i+1) _ (by omega)]
  congr 1
  apply Array.ext'
  simp only [Array.toList_append,Array.toList_push]
  rw [List.drop_eq_getElem_cons hlt]
  simp [Nat.add_assoc]
theorem run_loadCells (P:Program) {w:World} {b off n:Nat} {C:List Value} {e:Nat} {fr:Nat × Nat} (h:w.heap[b]?=some (.cells ⟨C⟩ e fr))
  (hl:off+n <= C.length):(loadCells ⟨b,off,none⟩ n).run P w = .ok ⟨(C.drop off).take n⟩ w:=by
 rw [loadCells,run_loadCellsFrom P w b off C e fr h n 0 _ (by omega)]
 simp
theorem hget_cons_same (k:Nat) (b:Option Blk) (h:Heap):hget ((k,b) :: h) k=b:=by simp [hget]
theorem hget_cons_other {k j:Nat} (b:Option Blk) (h:Heap) (e:k ≠ j):hget ((k,b) :: h) j=hget h j:=by simp [hget,e]
theorem Rel.fresh {β:Emb} {h:Heap} {w:World} (r:Rel β h w) {n:Nat} (hn:β n=none):hget h n=none:=by
 cases hh:hget h n with
 | none=>rfl
 | some b=>obtain ⟨L,_,_,e,_⟩:=r.live n b hh;rw [hn] at e;cases e
theorem getElem?_lt {α:Type} {xs:Array α} {i:Nat} {x:α} (h:xs[i]?=some x):i < xs.size:=by
 rcases Nat.lt_or_ge i xs.size with e | e
 ·exact e
 ·rw [Array.getElem?_eq_none e] at h;cases h
theorem Rel.alloc {β:Emb} {h:Heap} {w w':World} (r:Rel β h w) {n:Nat} (hn:β n=none) {blk:Blk} {ds sp:List Value} {ex:Nat} {fr:Nat × Nat}
  (hc:VRs β blk.cells ds) (hs:sp.length=ex * blk.sz) (hx:blk.x=true -> ex=0) (hf:fr.2 <= fr.1 \/ (ds ++ sp).length <= fr.1)
  (hw:w'.heap=w.heap.push (.cells ⟨ds ++ sp⟩ blk.elem fr)) (ho:w'.os=w.os) (hu:w'.output=w.output) :
  Rel (β.set n ⟨w.heap.size,ex,sp⟩) ((n,some blk) :: h) w' /\ Fr β h w (β.set n ⟨w.heap.size,ex,sp⟩) ((n,some blk) :: h) w':=by
 have le:=Emb.le_set (β:=β) (k:=n) ⟨w.heap.size,ex,sp⟩ hn
 have hnone:=r.fresh hn
 have old:∀ b,b < w.heap.size -> w'.heap[b]?=w.heap[b]?:=fun b hb=>by
  rw [hw,Array.getElem?_push];simp [Nat.ne_of_lt hb]
 have ne_of:∀ {k},hget ((n,some blk) :: h) k ≠ none -> k ≠ n -> hget h k ≠ none:=fun {k} a e=>by
  rwa [hget_cons_other _ _ (Ne.symm e)] at a
 refine ⟨⟨?_,?_,?_⟩,⟨le,?_,ho,hu,?_,?_⟩⟩
 ·intro k b hk
  by_cases e:k=n
  ·subst e
   rw [hget_cons_same] at hk
   cases hk
   exact ⟨_,ds,fr,Emb.set_same _ _ _,by rw [hw];simp,fun _=>hf,hc.mono le,hs,hx⟩
  ·rw [hget_cons_other _ _ (Ne.symm e)] at hk
   obtain ⟨L,ds',fr',a1,a2,a3,a4,a5⟩:=r.live k b hk
   exact ⟨L,ds',fr',le _ _ a1,by rw [old _ (getElem?_lt a2)];exact a2,a3,a4.mono le,a5⟩
 ·intro k k' L L' a a' b b' e
  by_cases h1:k=n
  ·by_cases h2:k'=n
   ·rw [h1,h2]
   ·subst h1
    rw [Emb.set_same] at b;cases b
    rw [Emb.set_other _ _ h2] at b'
    have:=r.bnd _ _ b'
    simp at e;omega
  ·by_cases h2:k'=n
   ·subst h2
    rw [Emb.set_same] at b';cases b'
    rw [Emb.set_other _ _ h1] at b
    have:=r.bnd _ _ b
    simp at e;omega
   ·rw [Emb.set_other _ _ h1] at b
    rw [Emb.set_other _ _ h2] at b'
    exact r.inj k k' L L' (ne_of a h1) (by obtain ⟨bb,e1,e2⟩:=a';rw [hget_cons_other _ _ (Ne.symm h2)] at e1;exact ⟨bb,e1,e2⟩) b b' e
 ·intro k L b
  rw [hw];simp only [Array.size_push]
  by_cases h1:k=n
  ·subst h1;rw [Emb.set_same] at b;cases b;simp
  ·rw [Emb.set_other _ _ h1] at b
   have:=r.bnd _ _ b;omega
 ·rw [hw];simp
 ·intro b hb _;exact old b hb
 ·intro k L a b c
  by_cases h1:k=n
  ·subst h1;rw [Emb.set_same] at b;cases b;simp at c
  ·rw [Emb.set_other _ _ h1] at b
   obtain ⟨bb,e1,e2⟩:=a
   rw [hget_cons_other _ _ (Ne.symm h1)] at e1
   exact ⟨k,L,⟨bb,e1,e2⟩,b,rfl⟩
theorem Rel.store {β:Emb} {h:Heap} {w w':World} (r:Rel β h w) {k:Nat} {blk:Blk} {L:Loc} {ds ds' cells:List Value} {fr:Nat × Nat}
  (hk:hget h k=some blk) (hz:blk.sz ≠ 0) (hL:β k=some L) (hd:w.heap[L.b]?=some (.cells ⟨ds ++ L.sp⟩ blk.elem fr))
  (hf:fr.2 <= fr.1 \/ (ds ++ L.sp).length <= fr.1) (hlen:ds'.length=ds.length) (hc:VRs β cells ds')
  (hw:w'=put w L.b (.cells ⟨ds' ++ L.sp⟩ blk.elem fr)) :
  Rel β ((k,some { blk with cells:=cells }) :: h) w' /\ Fr β h w β ((k,some { blk with cells:=cells }) :: h) w':=by
 subst hw
 obtain ⟨L0,ds0,fr0,a1,a2,a3,a4,a5,a6⟩:=r.live k blk hk
 rw [hL] at a1;cases a1
 have live':∀ j,hget ((k,some { blk with cells:=cells }) :: h) j ≠ none -> hget h j ≠ none:=fun j hj=>by
  by_cases e:j=k
  ·subst e;rw [hk];simp
  ·rwa [hget_cons_other _ _ (Ne.symm e)] at hj
 have size:(put w L.b (.cells ⟨ds' ++ L.sp⟩ blk.elem fr)).heap.size=w.heap.size:=by simp [put]
 refine ⟨⟨?_,?_,?_⟩,⟨β.le_refl,by omega,rfl,rfl,?_,?_⟩⟩
 ·intro j b hj
  by_cases e:j=k
  ·subst e
   rw [hget_cons_same] at hj;cases hj
   exact ⟨L,ds',fr,hL,put_get hd,fun _=>by simp only [List.length_append,hlen] at hf ⊢;exact hf,hc,a5,a6⟩
  ·rw [hget_cons_other _ _ (Ne.symm e)] at hj
   obtain ⟨M,dsj,frj,b1,b2,b3⟩:=r.live j b hj
   refine ⟨M,dsj,frj,b1,?_,b3⟩
   rw [put_get_other]
   ·exact b2
   ·intro hb
    exact e (r.inj j k M L (by rw [hj];simp) ⟨blk,hk,hz⟩ b1 hL hb.symm)
 ·intro j j' M M' a a' b b' e
  refine r.inj j j' M M' (live' _ a) ?_ b b' e
  obtain ⟨bb,e1,e2⟩:=a'
  by_cases e:j'=k
  ·subst e;exact ⟨blk,hk,hz⟩
  ·rw [hget_cons_other _ _ (Ne.symm e)] at e1;exact ⟨bb,e1,e2⟩
 ·intro j M b;rw [size];exact r.bnd _ _ b
 ·intro b hb hn
  exact put_get_other (hn k L ⟨blk,hk,hz⟩ hL)
 ·intro j M a b _
  refine ⟨j,M,?_,b,rfl⟩
  by_cases e:j=k
  ·subst e;exact ⟨blk,hk,hz⟩
  ·obtain ⟨bb,e1,e2⟩:=a
   rw [hget_cons_other _ _ (Ne.symm e)] at e1
   exact ⟨bb,e1,e2⟩
theorem Rel.world {β:Emb} {h:Heap} {w w':World} (r:Rel β h w) (e:w'.heap=w.heap):Rel β h w':=
 ⟨fun k b hk=>by rw [e];exact r.live k b hk,r.inj,fun k L b=>by rw [e];exact r.bnd k L b⟩
theorem Fr.world {β:Emb} {h:Heap} {w w':World} (e:w'.heap=w.heap) (ho:w'.os=w.os) (hu:w'.output=w.output):Fr β h w β h w':=
 ⟨β.le_refl,by rw [e];exact Nat.le_refl _,ho,hu,fun _ _ _=>by rw [e],fun k L a b _=>⟨k,L,a,b,rfl⟩⟩
inductive Opd where
 | t (n:Nat)
 | c (v:Value)
inductive Kd where
 | b | i | s
inductive IOp where
 | mv (x:Opd)
 | pick (c a b:Opd)
 | alloc (elem sz:Nat) (z:List Value)
 | box (elem sz:Nat) (x:Opd)
 | build (z:List Value) (ps:List (Nat × Nat × Opd))
 | bslice (elem sz len:Nat) (z:List Value) (ps:List (Nat × Nat × Opd))
 | load (g:Bool) (sz:Nat) (a:Opd)
 | store (sz:Nat) (a x:Opd)
 | nilchk (x:Opd)
 | bin (op:BinOp) (x y:Opd)
 | eqb (neg:Bool) (x y:Opd)
 | eqa (neg:Bool) (ks:List Kd) (x y:Opd)
 | nils (neg:Bool) (x y:Opd)
 | un (op:UnOp) (x:Opd)
 | conv (k:IntKind) (x:Opd)
 | b2s (x:Opd)
 | mkfn (f:Nat) (cap:List Opd)
 | mkslice (elem sz bytes:Nat) (z:List Value) (l c:Opd)
 | slstr (x:Opd) (lo hi:Option Opd)
 | slarr (n sz:Nat) (x:Opd) (lo hi:Option Opd)
 | slsl (sz:Nat) (x:Opd) (lo hi:Option Opd)
 | faddr (off:Nat) (x:Opd)
 | fld (g:Bool) (off sz:Nat) (x:Opd)
 | ixarr (len sz:Nat) (x i:Opd)
 | ixsl (sz:Nat) (x i:Opd)
 | idarr (len:Nat) (g:Bool) (sz:Nat) (x i:Opd)
 | idstr (x i:Opd)
 | ext (x:Opd) (i:Nat)
 | call (f:Nat) (args:List Opd)
 | callv (x:Opd) (args:List Opd)
 | lens (x:Opd)
 | lensl (x:Opd)
 | lena (n:Nat)
 | app (elem sz bytes:Nat) (s x:Opd)
 | mxmn (max:Bool) (x y:Opd)
 | capz (x:Opd)
 | appz (elem sz bytes:Nat) (z:List Value) (s x:Opd)
 | clr (z:List Value) (s:Opd)
abbrev Out:=Value × Heap × Nat
abbrev Env:=Nat -> List Value -> Heap -> Nat -> Option Out
def tmget:List (Nat × Value) -> Nat -> Value
 | [],_=>undef
 | (t,v) :: r,t'=>if t=t' then v else tmget r t'
def ev (tm:List (Nat × Value)):Opd -> Value
 | .t n=>tmget tm n
 | .c v=>v
def ibin (op:BinOp):Value -> Value -> Option Value
 | .int k a,.int k' b=>
  match op with
  | .shl=>if b < 0 then none else some (.int k (k.wrap (a * 2 ^ (min b.toNat k.bits))))
  | .shr=>if b < 0 then none else some (.int k (a.fdiv (2 ^ (min b.toNat k.bits))))
  | op=>
   if k=k' then
    match op with
    | .add=>some (.int k (k.wrap (a+b)))
    | .sub=>some (.int k (k.wrap (a - b)))
    | .mul=>some (.int k (k.wrap (a * b)))
    | .quo=>if b=0 then none else some (.int k (k.wrap (a.tdiv b)))
    | .rem=>if b=0 then none else some (.int k (a.tmod b))
    | .and=>some (.int k (k.wrap (BitVec.ofInt k.bits a &&& BitVec.ofInt k.bits b).toNat))
    | .or=>some (.int k (k.wrap (BitVec.ofInt k.bits a ||| BitVec.ofInt k.bits b).toNat))
    | .xor=>some (.int k (k.wrap (BitVec.ofInt k.bits a ^^^ BitVec.ofInt k.bits b).toNat))
    | .eql=>some (.bool (decide (a=b)))
    | .neq=>some (.bool (decide (a ≠ b)))
    | .lss=>some (.bool (decide (a < b)))
    | .leq=>some (.bool (decide (a <= b)))
    | .gtr=>some (.bool (decide (a > b)))
    | .geq=>some (.bool (decide (a >= b)))
    | _=>none
   else none
 | .string a,.string b=>
  match op with
  | .eql=>some (.bool (decide (a=b)))
  | .neq=>some (.bool (decide (a ≠ b)))
  | .add=>if a.size+b.size <= 9223372036854775807 then some (.string (a ++ b)) else none
  | _=>none
 | _,_=>none
def ceq:List Kd -> List Value -> List Value -> Option Bool
 | [],[],[]=>some true
 | .b :: ks,.bool a :: xs,.bool b :: ys=>(ceq ks xs ys).map (decide (a=b) && ·)
 | .i :: ks,.int k a :: xs,.int k' b :: ys=>if k=k' then (ceq ks xs ys).map (decide (a=b) && ·) else none
 | .s :: ks,.string a :: xs,.string b :: ys=>(ceq ks xs ys).map (decide (a=b) && ·)
 | _,_,_=>none
def byteList:List Value -> Option (List UInt8)
 | []=>some []
 | .int .u8 n :: r=>(byteList r).map (UInt8.ofNat n.toNat :: ·)
 | _=>none
def fillI (ρ:Opd -> Value):List Value -> List (Nat × Nat × Opd) -> Option (List Value)
 | z,[]=>some z
 | z,(off,sz,x) :: r=>if (vcells (ρ x)).length=sz /\ off+sz <= z.length then fillI ρ (setR z off (vcells (ρ x))) r else none
def bhi (ρ:Opd -> Value) (len cap:Nat):Option Opd -> Option Nat
 | none=>some len
 | some x=>match ρ x with | .int _ i=>if 0 <= i /\ i <= cap then some i.toNat else none | _=>none
def blo (ρ:Opd -> Value) (h:Nat):Option Opd -> Option Nat
 | none=>some 0
 | some x=>match ρ x with | .int _ i=>if 0 <= i /\ i <= h then some i.toNat else none | _=>none
def bnds (ρ:Opd -> Value) (len cap:Nat) (lo hi:Option Opd):Option (Nat × Nat):=
 match bhi ρ len cap hi with
 | none=>none
 | some h=>(blo ρ h lo).map (·,h)
def mkSl (k off sz cap l h:Nat):Value:=
 if cap=l then .slice (some ⟨k,0,some 0⟩) 0 0 else .slice (some ⟨k,off+l * sz,none⟩) (h - l) (cap - l)
def callF (E:Env) (v:Value) (args:List Value) (h:Heap) (n:Nat):Option Out:=
 match v with
 | .func (.func f) ⟨xs⟩ ⟨cs⟩=>E f (xs ++ args ++ cs) h n
 | _=>none
def srcOf (h:Heap) (sz xl:Nat):Option Addr -> Option (List Value)
 | none=>some []
 | some ⟨k,off,none⟩=>(hget h k).bind fun blk=>if off+xl * sz <= blk.cells.length then some ((blk.cells.drop off).take (xl * sz)) else none
 | some ⟨_,_,some _⟩=>if xl=0 then some [] else none
def istep (E:Env) (ρ:Opd -> Value) (h:Heap) (n:Nat):IOp -> Option Out
 | .mv x=>some (ρ x,[],0)
 | .pick c a b=>match ρ c with | .bool t=>some (if t then ρ a else ρ b,[],0) | _=>none
 | .alloc elem sz z=>some (.pointer (some ⟨n,0,none⟩),[(n,some ⟨elem,sz,true,z⟩)],1)
 | .box elem sz x=>some (.pointer (some ⟨n,0,none⟩),[(n,some ⟨elem,sz,true,vcells (ρ x)⟩)],1)
 | .build z ps=>(fillI ρ z ps).map fun cs=>(.agg ⟨cs⟩,[],0)
 | .bslice elem sz len z ps=>(fillI ρ z ps).map fun cs=>(.slice (some ⟨n,0,none⟩) len len,[(n,some ⟨elem,sz,true,cs⟩)],1)
 | .load g sz a=>match ρ a with
  | .pointer (some ⟨k,off,none⟩)=>match hget h k with
   | some blk=>if g then (if off+sz <= blk.cells.length then some (.agg ⟨(blk.cells.drop off).take sz⟩,[],0) else none)
    else blk.cells[off]?.map (·,[],0)
   | none=>none
  | _=>none
 | .store sz a x=>match ρ a with
  | .pointer (some ⟨k,off,none⟩)=>match hget h k with
   | some blk=>if (vcells (ρ x)).length=sz /\ off+sz <= blk.cells.length /\ (vcells (ρ x)).all okCell=true /\ blk.sz ≠ 0 then
     some (undef,[(k,some { blk with cells:=setR blk.cells off (vcells (ρ x)) })],0) else none
   | none=>none
  | _=>none
 | .nilchk x=>match ρ x with
  | .pointer (some a)=>some (.pointer (some a),[],0)
  | .func (.func f) a b=>some (.func (.func f) a b,[],0)
  | _=>none
 | .bin op x y=>(ibin op (ρ x) (ρ y)).map (·,[],0)
 | .eqb neg x y=>match ρ x,ρ y with | .bool a,.bool b=>some (.bool (if neg then decide (a ≠ b) else decide (a=b)),[],0) | _,_=>none
 | .eqa neg ks x y=>match ρ x,ρ y with
  | .agg ⟨a⟩,.agg ⟨b⟩=>(ceq ks a b).map fun r=>(.bool (if neg then !r else r),[],0)
  | _,_=>none
 | .nils neg x y=>match ρ x,ρ y with
  | .slice none _ _,.slice none _ _=>some (.bool (!neg),[],0)
  | .slice (some _) _ _,.slice none _ _=>some (.bool neg,[],0)
  | _,_=>none
 | .un op x=>match op,ρ x with
  | .not,.bool b=>some (.bool (!b),[],0)
  | .neg,.int k a=>some (.int k (k.wrap (0 - a)),[],0)
  | .xor,.int k a=>some (.int k (k.wrap (BitVec.ofInt k.bits (if k.signed then -1 else k.max) ^^^ BitVec.ofInt k.bits a).toNat),[],0)
  | _,_=>none
 | .conv k x=>match ρ x with | .int _ a=>some (.int k (k.wrap a),[],0) | _=>none
 | .b2s x=>match ρ x with
  | .slice none _ _=>some (.string .empty,[],0)
  | .slice (some ⟨k,off,none⟩) len _=>match hget h k with
   | some blk=>if off+len <= blk.cells.length then (byteList ((blk.cells.drop off).take len)).map fun bs=>(.string ⟨⟨bs⟩⟩,[],0) else none
   | none=>none
  | _=>none
 | .mkfn f cap=>some (.func (.func f) #[] ⟨cap.map ρ⟩,[],0)
 | .mkslice elem sz bytes z l c=>match ρ l,ρ c with
  | .int _ l,.int _ c=>if 0 <= l /\ l <= c /\ bytes * c <= 281474976710656 /\ c <= 9223372036854775807 then
    some (.slice (some ⟨n,0,none⟩) l.toNat l.toNat,[(n,some ⟨elem,sz,false,(List.replicate l.toNat z).flatten⟩)],1) else none
  | _,_=>none
 | .slstr x lo hi=>match ρ x with
  | .string s=>(bnds ρ s.size s.size lo hi).map fun r=>(.string (s.extract r.1 r.2),[],0)
  | _=>none
 | .slarr len sz x lo hi=>match ρ x with
  | .pointer (some ⟨k,off,none⟩)=>match hget h k with
   | some blk=>if blk.x=true then (bnds ρ len len lo hi).map fun r=>(mkSl k off sz len r.1 r.2,[],0) else none
   | none=>none
  | _=>none
 | .slsl sz x lo hi=>match ρ x with
  | .slice (some ⟨k,off,none⟩) len cap=>if len <= cap then (bnds ρ len cap lo hi).map fun r=>(mkSl k off sz cap r.1 r.2,[],0) else none
  | .slice (some ⟨k,0,some 0⟩) 0 0=>(bnds ρ 0 0 lo hi).map fun _=>(.slice (some ⟨k,0,some 0⟩) 0 0,[],0)
  | .slice none 0 0=>(bnds ρ 0 0 lo hi).map fun _=>(.slice none 0 0,[],0)
  | _=>none
 | .faddr off x=>match ρ x with
  | .pointer (some ⟨k,o,none⟩)=>some (.pointer (some ⟨k,o+off,none⟩),[],0)
  | _=>none
 | .fld g off sz x=>match ρ x with
  | .agg ⟨cs⟩=>if g then some (.agg ⟨(cs.drop off).take sz⟩,[],0) else cs[off]?.map (·,[],0)
  | _=>none
 | .ixarr len sz x i=>match ρ x,ρ i with
  | .pointer (some ⟨k,o,none⟩),.int _ i=>if 0 <= i /\ i < len then some (.pointer (some ⟨k,o+i.toNat * sz,none⟩),[],0) else none
  | _,_=>none
 | .ixsl sz x i=>match ρ x,ρ i with
  | .slice (some ⟨k,o,none⟩) len _,.int _ i=>if 0 <= i /\ i < len then some (.pointer (some ⟨k,o+i.toNat * sz,none⟩),[],0) else none
  | _,_=>none
 | .idarr len g sz x i=>match ρ x,ρ i with
  | .agg ⟨cs⟩,.int _ i=>if 0 <= i /\ i < len then
    (if g then some (.agg ⟨(cs.drop (i.toNat * sz)).take sz⟩,[],0) else cs[i.toNat * sz]?.map (·,[],0)) else none
  | _,_=>none
 | .idstr x i=>match ρ x,ρ i with
  | .string s,.int _ i=>if 0 <= i then s[i.toNat]?.map fun b=>(.int .u8 b.toNat,[],0) else none
  | _,_=>none
 | .ext x i=>match ρ x with
  | .tuple ⟨vs⟩=>vs[i]?.map (·,[],0)
  | _=>none
 | .call f args=>E f (args.map ρ) h n
 | .callv x args=>callF E (ρ x) (args.map ρ) h n
 | .lens x=>match ρ x with | .string s=>some (.int .i64 s.size,[],0) | _=>none
 | .lensl x=>match ρ x with | .slice _ l _=>some (.int .i64 l,[],0) | _=>none
 | .lena k=>some (.int .i64 k,[],0)
 | .app elem sz bytes s x=>match ρ s,ρ x with
  | s,.slice xa xl _=>
   match srcOf h sz xl xa with
   | none=>none
   | some src=>
    if xl=0 then (match s with | .slice _ l c=>if l <= c then some (s,[],0) else none | _=>none) else
    match s with
    | .slice none 0 0=>if xl * bytes <= 140737488355328 /\ src.length=xl * sz then
      some (.slice (some ⟨n,0,none⟩) xl xl,[(n,some ⟨elem,sz,false,src⟩)],1) else none
    | .slice (some ⟨k,off,none⟩) len cap=>(hget h k).bind fun blk=>
     if (len+xl) * bytes <= 140737488355328 /\ src.length=xl * sz /\ blk.sz=sz /\ blk.elem=elem /\ src.all okCell=true then
      (if len+xl <= cap /\ off+(len+xl) * sz <= blk.cells.length then
       some (.slice (some ⟨k,off,none⟩) (len+xl) cap,[(k,some { blk with cells:=setR blk.cells (off+len * sz) src })],0)
      else if off=0 /\ len=cap /\ len * sz=blk.cells.length then
       some (.slice (some ⟨n,0,none⟩) (len+xl) (len+xl),[(n,some ⟨elem,sz,false,blk.cells ++ src⟩),(k,none)],1)
      else none)
     else if blk.x=true /\ len=cap /\ off+len * sz <= blk.cells.length /\ (len+xl) * bytes <= 140737488355328 /\ src.length=xl * sz then
      some (.slice (some ⟨n,0,none⟩) (len+xl) (len+xl),[(n,some ⟨elem,sz,false,(blk.cells.drop off).take (len * sz) ++ src⟩)],1)
     else none
    | _=>none
  | _,_=>none
 | .mxmn mx x y=>match ρ x,ρ y with
  | .int k a,.int k' b=>if k=k' then some (.int k (if mx then (if a < b then b else a) else (if b < a then b else a)),[],0) else none
  | _,_=>none
 | .capz x=>match ρ x with | .slice none 0 0=>some (.int .i64 0,[],0) | _=>none
 | .appz elem sz bytes z s x=>match ρ s,ρ x with
  | .slice none 0 0,.int _ l=>if 0 < l /\ l.toNat * bytes <= 140737488355328 then some (.slice (some ⟨n,0,none⟩) l.toNat l.toNat,[(n,some ⟨elem,sz,false,(List.replicate l.toNat z).flatten⟩)],1) else none
  | _,_=>none
 | .clr z s=>match ρ s with
  | .slice none _ _=>some (undef,[],0)
  | .slice _ 0 _=>some (undef,[],0)
  | .slice (some ⟨k,off,none⟩) len _=>match hget h k with
   | some blk=>if blk.sz ≠ 0 /\ off+len * z.length <= blk.cells.length then some (undef,[(k,some { blk with cells:=setR blk.cells off (List.replicate len z).flatten })],0) else none
   | none=>none
  | _=>none
def closedV (v:Value):Bool:=
 isBase v || match v with | .agg ⟨l⟩=>l.all isBase | _=>false
def trOpd:Operand -> Option Opd
 | .tmp t=>some (.t t)
 | .const v=>if closedV v then some (.c v) else none
 | .func f=>some (.c (.func (.func f) #[] #[]))
 | .global _=>none
def trOpds:List Operand -> Option (List Opd)
 | []=>some []
 | x :: r=>match trOpd x,trOpds r with | some y,some s=>some (y :: s) | _,_=>none
def trOpt:Option Operand -> Option (Option Opd)
 | none=>some none
 | some x=>(trOpd x).map some
def tyAgg (P:Program) (t:TypeId):Option Bool:=
 match P.underlying t with
 | some (.struct _) | some (.array _ _)=>some true
 | some _=>some false
 | none=>none
def szOf (P:Program) (t:TypeId):Option Nat:=(P.info? t).map (·.size)
def bytesOf (P:Program) (t:TypeId):Option Nat:=(P.info? t).map (·.bytes)
def zeroOf (P:Program) (t:TypeId):Option (List Value):=
 match P.info? t with
 | some i=>match i.zero with
  | some z=>if (vcells z).all isBase=true then some (vcells z) else none
  | none=>none
 | none=>none
def trParts (place:Nat -> Option (Nat × Nat)):List (Nat × Operand) -> Option (List (Nat × Nat × Opd))
 | []=>some []
 | (i,x) :: r=>match place i,trOpd x,trParts place r with
  | some (off,sz),some y,some s=>some ((off,sz,y) :: s)
  | _,_,_=>none
def fieldPlaces (P:Program):List Field -> Option (List (Nat × Nat))
 | []=>some []
 | f :: r=>match szOf P f.type,fieldPlaces P r with | some s,some l=>some ((f.offset,s) :: l) | _,_=>none
def flatFs (ty:TypeId -> Option (List Kd)) (P:Program):List Field -> Nat -> Option (List Kd)
 | [],_=>some []
 | f :: r,off=>
  if f.name ≠ "_" /\ f.offset = off then
   match ty f.type,szOf P f.type with
   | some ks,some n=>if ks.length=n then (flatFs ty P r (off+n)).map (ks ++ ·) else none
   | _,_=>none
  else none
def flatTy (P:Program):Nat -> TypeId -> Option (List Kd)
 | 0,_=>none
 | d+1,t=>
  match P.underlying t with
  | some .bool=>some [.b]
  | some (.int _)=>some [.i]
  | some .string=>some [.s]
  | some (.struct fs)=>if P.stoodInHeld t then none else flatFs (flatTy P d) P fs.toList 0
  | some (.array len e)=>match flatTy P d e,szOf P e with
   | some ks,some n=>if ks.length=n then some (List.replicate len ks).flatten else none
   | _,_=>none
  | _=>none
def hasBody (P:Program) (f:Nat):Bool:=
 match P.funcs[f]? with
 | some fn => fn.body.isSome && !(fn.name == "runtime.NumGoroutine")
 | none=>false
def trOp (P:Program):Op -> Option IOp
 | .move x | .assign x=>(trOpd x).map .mv
 | .pick c a b=>match trOpd c,trOpd a,trOpd b with | some c,some a,some b=>some (.pick c a b) | _,_,_=>none
 | .alloc e=>match szOf P e,zeroOf P e with | some s,some z=>some (.alloc e s z) | _,_=>none
 | .box e x=>match szOf P e,trOpd x with | some s,some x=>some (.box e s x) | _,_=>none
 | .build t ps=>
  match zeroOf P t,P.underlying t with
  | some z,some (.struct fs)=>match fieldPlaces P fs.toList with
   | some pl=>(trParts (pl[·]?) ps.toList).map (.build z)
   | none=>none
  | some z,some (.array _ e)=>match szOf P e with
   | some s=>(trParts (fun i=>some (i * s,s)) ps.toList).map (.build z)
   | none=>none
  | _,_=>none
 | .buildSlice t len ps=>
  match P.underlying t with
  | some (.slice e)=>match szOf P e,zeroOf P e with
   | some s,some z=>if len * s <= 16777216 /\ z.length=s /\ 0 < s then
     (trParts (fun i=>some (i * s,s)) ps.toList).map (.bslice e s len (List.replicate len z).flatten) else none
   | _,_=>none
  | _=>none
 | .load t a=>match tyAgg P t,szOf P t,trOpd a with
  | some g,some s,some a=>some (.load g s a)
  | _,_,_=>none
 | .store t a x=>match szOf P t,trOpd a,trOpd x with
  | some s,some a,some x=>some (.store s a x)
  | _,_,_=>none
 | .nilCheck x=>(trOpd x).map .nilchk
 | .binOp op t x y _=>
  match trOpd x,trOpd y with
  | some x,some y=>
   match P.underlying t with
   | some (.int _) | some .string=>some (.bin op x y)
   | some .bool=>match op with | .eql=>some (.eqb false x y) | .neq=>some (.eqb true x y) | _=>none
   | some (.slice _)=>match op with | .eql=>some (.nils false x y) | .neq=>some (.nils true x y) | _=>none
   | some (.struct _) | some (.array _ _)=>
    if P.eqGuardType P.depth t then none else
     match flatTy P 20 t,op with | some ks,.eql=>some (.eqa false ks x y) | some ks,.neq=>some (.eqa true ks x y) | _,_=>none
   | _=>none
  | _,_=>none
 | .unOp op _ x=>(trOpd x).map (.un op)
 | .convert s d x=>
  match P.underlying s,P.underlying d,trOpd x with
  | some (.int _),some (.int k),some x=>some (.conv k x)
  | some (.slice e),some .string,some x=>match P.underlying e with | some (.int .u8)=>(match szOf P e with | some 1=>some (.b2s x) | _=>none) | _=>none
  | _,_,_=>none
 | .makeFunc (.func f) first cap=>if first.isEmpty then (trOpds cap.toList).map (.mkfn f) else none
 | .makeSlice t l c=>
  match P.underlying t,trOpd l,trOpd c with
  | some (.slice e),some l,some c=>match szOf P e,bytesOf P e,zeroOf P e with
   | some s,some b,some z=>if z.length=s /\ 0 < s then some (.mkslice e s b z l c) else none
   | _,_,_=>none
  | _,_,_=>none
 | .slice t x lo hi none=>
  match trOpd x,trOpt lo,trOpt hi with
  | some x,some lo,some hi=>
   match P.underlying t with
   | some .string=>some (.slstr x lo hi)
   | some (.array n e)=>(szOf P e).map fun s => .slarr n s x lo hi
   | some (.slice e)=>(szOf P e).map fun s => .slsl s x lo hi
   | _=>none
  | _,_,_=>none
 | .fieldAddr t x i=>
  match P.underlying t,trOpd x with
  | some (.struct fs),some x=>match fs[i]? with
   | some f=>match szOf P f.type with | some s=>if s=0 then none else some (.faddr f.offset x) | none=>none
   | none=>none
  | _,_=>none
 | .field t x i=>
  match P.underlying t,trOpd x with
  | some (.struct fs),some x=>match fs[i]? with
   | some f=>match tyAgg P f.type,szOf P f.type with | some g,some s=>some (.fld g f.offset s x) | _,_=>none
   | none=>none
  | _,_=>none
 | .indexAddr t x i=>
  match P.underlying t,trOpd x,trOpd i with
  | some (.array n e),some x,some i=>(szOf P e).map fun s => .ixarr n s x i
  | some (.slice e),some x,some i=>(szOf P e).map fun s => .ixsl s x i
  | _,_,_=>none
 | .index t x i=>
  match P.underlying t,trOpd x,trOpd i with
  | some (.array n e),some x,some i=>match tyAgg P e,szOf P e with | some g,some s=>some (.idarr n g s x i) | _,_=>none
  | some .string,some x,some i=>some (.idstr x i)
  | _,_,_=>none
 | .extract x i=>(trOpd x).map fun x => .ext x i
 | .call { callee:=.value (.func f),args,.. }=>if hasBody P f then (trOpds args.toList).map (.call f) else none
 | .call { callee:=.value x,args,.. }=>match trOpd x,trOpds args.toList with | some x,some as=>some (.callv x as) | _,_=>none
 | .call { callee:=.builtin .len,args,argTypes }=>
  match args.toList,argTypes.toList with
  | [x],[t]=>match trOpd x,P.underlying t with
   | some x,some .string=>some (.lens x)
   | some x,some (.slice _)=>some (.lensl x)
   | some _,some (.array n _)=>some (.lena n)
   | _,_=>none
  | _,_=>none
 | .call { callee:=.builtin .cap,args,argTypes }=>
  match args.toList,argTypes.toList with
  | [x],[t]=>match trOpd x,P.underlying t with
   | some x,some (.slice _)=>some (.capz x)
   | _,_=>none
  | _,_=>none
 | .call { callee:=.builtin .append,args,argTypes }=>
  match args.toList,argTypes.toList with
  | [s,x],[t,u]=>match trOpd s,trOpd x,P.underlying t,P.underlying u with
   | some s,some x,some (.slice e),some (.slice _)=>match szOf P e,bytesOf P e,zeroOf P e with
    | some k,some b,some z=>if z.length=k /\ 0 < k /\ 0 < b then some (.app e k b s x) else none
    | _,_,_=>none
   | some s,some x,some (.slice e),some (.int _)=>match szOf P e,bytesOf P e,zeroOf P e with
    | some k,some b,some z=>if z.length=k /\ 0 < k /\ 0 < b then some (.appz e k b z s x) else none
    | _,_,_=>none
   | _,_,_,_=>none
  | _,_=>none
 | .call { callee:=.builtin .clear,args,argTypes }=>
  match args.toList,argTypes.toList with
  | [x],[t]=>match trOpd x,P.underlying t with
   | some x,some (.slice e)=>match zeroOf P e with
    | some z=>if 0 < z.length then some (.clr z x) else none
    | none=>none
   | _,_=>none
  | _,_=>none
 | .call { callee:=.builtin .max,args,.. }=>
  match args.toList with | [x,y]=>(match trOpd x,trOpd y with | some x,some y=>some (.mxmn true x y) | _,_=>none) | _=>none
 | .call { callee:=.builtin .min,args,.. }=>
  match args.toList with | [x,y]=>(match trOpd x,trOpd y with | some x,some y=>some (.mxmn false x y) | _,_=>none) | _=>none
 | _=>none
end Go.Eng
end
section
namespace Go.Eng
section
variable {P:Program} {β:Emb} {h:Heap} {n:Nat} {w:World}
def VS (P:Program) (s:Sem Value) (w:World) (β:Emb) (h:Heap) (n:Nat) (o:Out):Prop:=
 ∃ v' w' β',s.run P w = .ok v' w' /\ VR β' o.1 v' /\ Rel β' (o.2.1 ++ h) w' /\ Fr β h w β' (o.2.1 ++ h) w' /\ ∀ k,β' k ≠ none -> β k ≠ none \/ (n <= k /\ k < n+o.2.2)
theorem VS.pure {s:Sem Value} {v v':Value} (r:Rel β h w) (hs:s.run P w = .ok v' w) (hv:VR β v v'):VS P s w β h n (v,[],0):=
 ⟨v',w,β,hs,hv,r,Fr.refl _ _ _,fun k hk => .inl hk⟩
theorem VS.new {s:Sem Value} {v:Value} {w':World} {blk:Blk} {ds sp:List Value} {ex:Nat} {fr:Nat × Nat} (r:Rel β h w) (hn:β n=none)
  (hv:∀ L,L.b=w.heap.size -> L.ex=ex -> ∃ v',s.run P w = .ok v' w' /\ (∀ β',β' n=some L -> VR β' v v'))
  (hc:VRs β blk.cells ds) (hsp:sp.length=ex * blk.sz) (hx:blk.x=true -> ex=0) (hf:fr.2 <= fr.1 \/ (ds ++ sp).length <= fr.1)
  (hw:w'.heap=w.heap.push (.cells ⟨ds ++ sp⟩ blk.elem fr)) (ho:w'.os=w.os) (hu:w'.output=w.output):VS P s w β h n (v,[(n,some blk)],1):=by
 obtain ⟨r',f'⟩:=r.alloc hn hc hsp hx hf hw ho hu
 obtain ⟨v',h1,h2⟩:=hv ⟨w.heap.size,ex,sp⟩ rfl rfl
 refine ⟨v',w',_,h1,h2 _ (Emb.set_same _ _ _),r',f',fun k hk=>?_⟩
 by_cases e:k=n
 ·exact .inr ⟨by omega,by simp;omega⟩
 ·rw [Emb.set_other _ _ e] at hk;exact .inl hk
theorem run_agg {t:TypeId} {g:Bool} (e:tyAgg P t=some g):(isAgg t).run P w = .ok g w:=by
 unfold tyAgg at e
 cases hu:P.underlying t with
 | none=>simp [hu] at e
 | some d=>
  rw [hu] at e
  cases d <;> simp at e <;> subst e <;> simp [isAgg,run_underlying hu]
theorem run_size {t:TypeId} {s:Nat} (e:szOf P t=some s):(sizeOf t).run P w = .ok s w:=by
 unfold szOf at e
 cases hi:P.info? t with
 | none=>simp [hi] at e
 | some i=>simp [hi] at e;subst e;simp [sizeOf,typeInfo,hi]
theorem run_bytes {t:TypeId} {b:Nat} (e:bytesOf P t=some b):∃ i,(typeInfo t).run P w = .ok i w /\ i.bytes=b:=by
 unfold bytesOf at e
 cases hi:P.info? t with
 | none=>simp [hi] at e
 | some i=>simp [hi] at e;subst e;exact ⟨i,by simp [typeInfo,hi],rfl⟩
theorem zero_of {t:TypeId} {z:List Value} (e:zeroOf P t=some z):∃ zv,(∀ w,(zeroValue t).run P w = .ok zv w) /\ zv.cells=⟨z⟩ /\ z.all isBase=true:=by
 unfold zeroOf at e
 cases hi:P.info? t with
 | none=>simp [hi] at e
 | some i=>
  simp only [hi] at e
  cases hz:i.zero with
  | none=>simp [hz] at e
  | some zv=>
   simp only [hz] at e
   split at e
   ·rename_i hb
    simp only [Option.some.injEq] at e
    subst e
    exact ⟨zv,fun w=>by simp [zeroValue,typeInfo,hi,hz],Array.ext' (by rw [vcells_eq]),hb⟩
   ·cases e
theorem VR.base_left {v v':Value} (hb:isBase v=true) (hv:VR β v v'):v'=v:=by
 cases hv <;> simp_all [isBase]
theorem VR.bool_left {b:Bool} {v':Value} (hv:VR β (.bool b) v'):v' = .bool b:=hv.base_left rfl
theorem VR.int_left {k:IntKind} {a:Int} {v':Value} (hv:VR β (.int k a) v'):v' = .int k a:=hv.base_left rfl
theorem VR.string_left {b:ByteArray} {v':Value} (hv:VR β (.string b) v'):v' = .string b:=hv.base_left rfl
theorem VR.ptr_left {k off:Nat} {v':Value} (hv:VR β (.pointer (some ⟨k,off,none⟩)) v'):∃ L,β k=some L /\ v' = .pointer (some ⟨L.b,off,none⟩):=by
 cases hv with
 | base _ h=>simp [isBase] at h
 | ptr k off L h=>exact ⟨L,h,rfl⟩
theorem VR.sl_left {k off len cap:Nat} {v':Value} (hv:VR β (.slice (some ⟨k,off,none⟩) len cap) v'):∃ L,β k=some L /\ v' = .slice (some ⟨L.b,off,none⟩) len (cap+L.ex):=by
 cases hv with
 | base _ h=>simp [isBase] at h
 | sl k off len cap L h=>exact ⟨L,h,rfl⟩
theorem VR.agg_left {cs:List Value} {v':Value} (hv:VR β (.agg ⟨cs⟩) v'):∃ ds,VRs β cs ds /\ v' = .agg ⟨ds⟩:=by
 cases hv with
 | base _ h=>simp [isBase] at h
 | agg cs ds h=>exact ⟨ds,h,rfl⟩
theorem VR.tup_left {cs:List Value} {v':Value} (hv:VR β (.tuple ⟨cs⟩) v'):∃ ds,VRs β cs ds /\ v' = .tuple ⟨ds⟩:=by
 cases hv with
 | base _ h=>simp [isBase] at h
 | tup cs ds h=>exact ⟨ds,h,rfl⟩
theorem vs_alloc {e sz:Nat} {z:List Value} (r:Rel β h w) (hn:β n=none) (hz:zeroOf P e=some z) :
  VS P (Instr.alloc e true (.tuple #[])) w β h n (.pointer (some ⟨n,0,none⟩),[(n,some ⟨e,sz,true,z⟩)],1):=by
 obtain ⟨zv,h1,h2,h3⟩:=zero_of hz
 refine VS.new (w':={ w with heap:=w.heap.push (.cells ⟨z ++ []⟩ e) }) (ds:=z) (sp:=[]) (ex:=0) (fr:=(0,0)) r hn ?_ (VRs.of_base h3) (by simp) (fun _=>rfl) (.inl (Nat.le_refl _)) rfl rfl rfl
 intro L hb hx
 refine ⟨.pointer (some ⟨L.b,0,none⟩),?_,fun β' hβ => .ptr _ _ _ hβ⟩
 simp [Instr.alloc,h1,newVar,newRow,h2,hb]
theorem vs_box {e sz:Nat} {x x':Value} (r:Rel β h w) (hn:β n=none) (hx:VR β x x') :
  VS P (Instr.box e x') w β h n (.pointer (some ⟨n,0,none⟩),[(n,some ⟨e,sz,true,vcells x⟩)],1):=by
 refine VS.new (w':={ w with heap:=w.heap.push (.cells ⟨vcells x' ++ []⟩ e) }) (ds:=vcells x') (sp:=[]) (ex:=0) (fr:=(0,0)) r hn ?_ hx.cells (by simp) (fun _=>rfl) (.inl (Nat.le_refl _)) rfl rfl rfl
 intro L hb hx
 refine ⟨.pointer (some ⟨L.b,0,none⟩),?_,fun β' hβ => .ptr _ _ _ hβ⟩
 have e1:x'.cells=⟨vcells x'⟩:=Array.ext' (by rw [vcells_eq])
 simp [Instr.box,newVar,newRow,hb,e1]
theorem vs_load {t:TypeId} {g:Bool} {sz k off:Nat} {v':Value} {blk:Blk} {o:Out} (r:Rel β h w) (hg:tyAgg P t=some g) (hs:szOf P t=some sz)
  (ha:VR β (.pointer (some ⟨k,off,none⟩)) v') (hk:hget h k=some blk)
  (ho:(if g then (if off+sz <= blk.cells.length then some (Value.agg ⟨(blk.cells.drop off).take sz⟩,([]:Heap),0) else none) else blk.cells[off]?.map (·,([]:Heap),0))=some o) :
  VS P (Instr.loadAt t v') w β h n o:=by
 obtain ⟨L,hL,rfl⟩:=ha.ptr_left
 obtain ⟨L',ds,fr,a1,a2,a3,a4,a5,a6⟩:=r.live k blk hk
 rw [hL] at a1;cases a1
 have hlen:=a4.length
 cases g with
 | true=>
  simp only [if_true] at ho
  split at ho
  ·rename_i hl
   cases ho
   refine VS.pure r (v':=.agg ⟨(ds.drop off).take sz⟩) ?_ (.agg _ _ ((a4.drop off).take sz))
   have:=run_loadCells P a2 (off:=off) (n:=sz) (by simp;omega)
   simp [Instr.loadAt,Instr.sureAddr,loadVar,run_agg hg,run_size hs,this]
   rw [List.drop_append_of_le_length (by omega),List.take_append_of_le_length (by simp;omega)]
  ·cases ho
 | false=>
  simp only [Bool.false_eq_true,if_false] at ho
  cases hc:blk.cells[off]? with
  | none=>simp [hc] at ho
  | some u=>
   simp [hc] at ho;subst ho
   obtain ⟨u',b1,b2⟩:=a4.get hc
   refine VS.pure r (v':=u') ?_ b2
   have:w.cell? ⟨L.b,off,none⟩=some u':=by
    rw [cell_of a2,List.getElem?_append_left (by rcases List.getElem?_eq_some_iff.1 b1 with ⟨x,_⟩;exact x)];exact b1
   simp [Instr.loadAt,Instr.sureAddr,loadVar,run_agg hg,this]
theorem vs_store {t:TypeId} {sz k off:Nat} {v' x x':Value} {blk:Blk} (r:Rel β h w) (hs:szOf P t=some sz)
  (ha:VR β (.pointer (some ⟨k,off,none⟩)) v') (hx:VR β x x') (hk:hget h k=some blk) (h1:(vcells x).length=sz) (h2:off+sz <= blk.cells.length) (h3:(vcells x).all okCell=true) (hz:blk.sz ≠ 0) :
  ∃ w',(Instr.storeAt t v' x').run P w = .ok () w' /\ Rel β ((k,some { blk with cells:=setR blk.cells off (vcells x) }) :: h) w' /\ Fr β h w β ((k,some { blk with cells:=setR blk.cells off (vcells x) }) :: h) w':=by
 obtain ⟨L,hL,rfl⟩:=ha.ptr_left
 obtain ⟨L',ds,fr,a1,a2,a3,a4,a5,a6⟩:=r.live k blk hk
 rw [hL] at a1;cases a1
 have hlen:=a4.length
 have hxl:=hx.cells.length
 have hst:=run_storeCells P (vcells x') w L.b off 0 (ds ++ L.sp) blk.elem fr a2 (a3 hz) (by rw [hx.cells.okCells];exact h3) (by simp;omega)
 rw [Nat.add_zero,setR_append _ _ _ _ (by omega)] at hst
 refine ⟨_,?_,r.store hk hz hL a2 (a3 hz) (by rw [setR_length]) (hx.cells.setR a4 off) rfl⟩
 have e1:x'.cells.size=sz:=by rw [<- Array.length_toList,vcells_eq];omega
 simp [Instr.storeAt,Instr.sureAddr,storeVar,run_size hs,e1,vcells_eq,hst]
theorem ba_beq (a b:ByteArray):(a.toList == b.toList)=decide (a=b):=by
 by_cases e:a=b
 ·subst e;simp
 ·have:¬ a.toList=b.toList:=fun h=>e (by
   rw [ByteArray.toList_eq,ByteArray.toList_eq] at h
   obtain ⟨⟨x⟩⟩:=a;obtain ⟨⟨y⟩⟩:=b
   simpa using h)
  simp [e,this]
theorem vs_bin {op:BinOp} {t:TypeId} {x y v:Value} (h1:ibin op x y=some v) (hx:isBase x=true) (hy:isBase y=true) :
  (binOp op t x y).run P w = .ok v w:=by
 unfold ibin at h1
 split at h1
 ·rename_i k a k' b
  cases op <;> simp only [] at h1
  case shl=>split at h1 <;> simp at h1;subst h1;simp [binOp,Op.shift, *]
  case shr=>split at h1 <;> simp at h1;subst h1;simp [binOp,Op.shift, *]
  all_goals (split at h1 <;> first | (cases h1;done) | skip)
  all_goals rename_i hk;subst hk
  all_goals first
   | (simp only [Option.some.injEq] at h1;subst h1;simp only [binOp];simp [Op.intArith,Op.intBits,Op.intCmp];done)
   | (split at h1 <;> simp at h1;subst h1;simp only [binOp];simp [Op.intDiv, *];done)
   | (simp only [Option.some.injEq] at h1;subst h1;simp only [binOp];simp [Op.intCmp];(first | rfl | (by_cases e:a=b <;> simp [e]));done)
   | (simp at h1;done)
 ·rename_i a b
  cases op <;> simp only [] at h1 <;> first
   | (simp at h1;done)
   | (simp only [Option.some.injEq] at h1;subst h1;simp only [binOp];simp [Op.stringOp,ba_beq];done)
   | (split at h1 <;> simp at h1;subst h1;rename_i hl;simp only [binOp];simp [Op.stringOp,IntKind.max,IntKind.signed,IntKind.bits];omega)
 ·cases h1
end
end Go.Eng
end
section
namespace Go.Eng
section
variable {P:Program} {β:Emb} {h:Heap} {n:Nat} {w:World}
theorem fieldPlaces_run:∀ (l:List Field) (pl:List (Nat × Nat)),fieldPlaces P l=some pl ->
  (l.mapM (m:=Sem) (fun (f:Field)=>do pure (f.offset,<- sizeOf f.type))).run P w = .ok pl w
 | [],pl,e=>by simp [fieldPlaces] at e;subst e;rfl
 | f :: l,pl,e=>by
  unfold fieldPlaces at e
  split at e
  ·rename_i s r h1 h2
   cases e
   simp only [List.mapM_cons,Sem.run_bind,run_size h1,Result.andThen_ok,Sem.run_pure,fieldPlaces_run l r h2]
  ·cases e
theorem foldl_setR:∀ (vs:List Value) (cells:Array Value) (off i:Nat),((vs.zipIdx i).foldl (fun cs (x:Value × Nat)=>cs.setIfInBounds (off+x.2) x.1) cells).toList=setR cells.toList (off+i) vs
 | [],cells,off,i=>rfl
 | v :: vs,cells,off,i=>by
  simp only [List.zipIdx_cons,List.foldl_cons]
  rw [foldl_setR vs _ off (i+1)]
  simp [setR,Nat.add_assoc]
theorem fill_sound {ρ:Opd -> Value} {ρ':Operand -> Value} (hρ:∀ x y,trOpd x=some y -> VR β (ρ y) (ρ' x)) {place:Nat -> Option (Nat × Nat)} :
  ∀ (ps:List (Nat × Operand)) (qs:List (Nat × Nat × Opd)) (z z' cs:List Value),trParts place ps=some qs -> VRs β z z' -> fillI ρ z qs=some cs ->
   ∃ cs',Instr.fill place ⟨z'⟩ (ps.map fun p=>(p.1,ρ' p.2))=some ⟨cs'⟩ /\ VRs β cs cs'
 | [],qs,z,z',cs,e,hz,hf=>by
  simp [trParts] at e;subst e;simp [fillI] at hf;subst hf
  exact ⟨z',rfl,hz⟩
 | (i,x) :: ps,qs,z,z',cs,e,hz,hf=>by
  unfold trParts at e
  split at e
  ·rename_i off sz y s h1 h2 h3
   cases e
   unfold fillI at hf
   split at hf
   ·rename_i hc
    have hv:=hρ x y h2
    have hl:=hv.cells.length
    have hzl:=hz.length
    obtain ⟨cs',k1,k2⟩:=fill_sound hρ ps s (setR z off (vcells (ρ y))) (setR z' off (vcells (ρ' x))) cs h3 (hv.cells.setR hz off) hf
    refine ⟨cs',?_,k2⟩
    simp only [List.map_cons,Instr.fill,h1]
    have e1:(ρ' x).cells.size=sz:=by rw [<- Array.length_toList,vcells_eq];omega
    have e2:¬ (off+sz > z'.length):=by omega
    simp only [e1,ne_eq,not_true_eq_false,false_or]
    rw [if_neg (by simpa using e2)]
    rw [<- k1]
    congr 1
    apply Array.ext'
    rw [<- Array.foldl_toList,Array.toList_zipIdx,vcells_eq]
    have:=foldl_setR (vcells (ρ' x)) ⟨z'⟩ off 0
    simpa using this
   ·cases hf
  ·cases e
theorem vs_build {ρ:Opd -> Value} {ρ':Operand -> Value} (hρ:∀ x y,trOpd x=some y -> VR β (ρ y) (ρ' x)) (r:Rel β h w) {t:TypeId} {ps:Array (Nat × Operand)} {z:List Value} {qs:List (Nat × Nat × Opd)} {cs:List Value}
  (ht:trOp P (.build t ps)=some (.build z qs)) (hf:fillI ρ z qs=some cs):VS P (Instr.build t (ps.map fun (i,x)=>(i,ρ' x))) w β h n (.agg ⟨cs⟩,[],0):=by
 simp only [trOp] at ht
 have hmap:(ps.map fun (x:Nat × Operand)=>(x.1,ρ' x.2)).toList=ps.toList.map fun p=>(p.1,ρ' p.2):=by simp
 split at ht
 ·rename_i z0 fs hz hu
  split at ht
  ·rename_i pl hpl
   cases htp:trParts (pl[·]?) ps.toList with
   | none=>simp [htp] at ht
   | some q=>
    simp [htp] at ht
    obtain ⟨rfl,rfl⟩:=ht
    obtain ⟨zv,h1,h2,h3⟩:=zero_of hz
    obtain ⟨cs',k1,k2⟩:=fill_sound hρ ps.toList q z0 z0 cs htp (VRs.of_base h3) hf
    refine VS.pure r (v':=.agg ⟨cs'⟩) ?_ (.agg _ _ k2)
    have hp:=fieldPlaces_run (w:=w) fs.toList pl hpl
    simp only [Instr.build,Sem.run_bind,h1,Result.andThen_ok,run_underlying hu,h2]
    rw [<- Array.toArray_toList (xs:=fs),List.mapM_toArray]
    simp only [Sem.run_map,Sem.run_bind,hp,Result.andThen_ok,hmap,List.getElem?_toArray,k1]
    rfl
  ·cases ht
 ·rename_i z0 len e hz hu
  split at ht
  ·rename_i s hs
   cases htp:trParts (fun i=>some (i * s,s)) ps.toList with
   | none=>simp [htp] at ht
   | some q=>
    simp [htp] at ht
    obtain ⟨rfl,rfl⟩:=ht
    obtain ⟨zv,h1,h2,h3⟩:=zero_of hz
    obtain ⟨cs',k1,k2⟩:=fill_sound hρ ps.toList q z0 z0 cs htp (VRs.of_base h3) hf
    refine VS.pure r (v':=.agg ⟨cs'⟩) ?_ (.agg _ _ k2)
    simp only [Instr.build,Sem.run_bind,h1,Result.andThen_ok,run_underlying hu,h2,run_size hs,hmap,k1]
    rfl
  ·cases ht
 ·cases ht
theorem range_getBang (z:List Value):(List.range z.length).map (fun i=>(⟨z⟩:Array Value)[i]!)=z:=by
 apply List.ext_getElem
 ·simp
 ·intro i h1 h2
  simp [h2]
theorem flatten_zero (z:List Value) {s:Nat} (hz:z.length=s) (hs:0 < s):∀ len:Nat,
  (List.range (len * s)).map (fun i=>(⟨z⟩:Array Value)[i % s]!)=(List.replicate len z).flatten
 | 0=>by simp
 | len+1=>by
  rw [Nat.succ_mul,List.range_add,List.map_append,flatten_zero z hz hs len,List.replicate_succ',List.flatten_append]
  congr 1
  simp only [List.map_map,List.flatten_cons,List.flatten_nil,List.append_nil]
  conv=>rhs;rw [<- range_getBang z]
  rw [hz]
  apply List.map_congr_left
  intro i hi
  simp at hi
  have:(len * s+i) % s=i:=by rw [Nat.mul_comm,Nat.mul_add_mod];exact Nat.mod_eq_of_lt hi
  simp [this]
theorem vs_bslice {ρ:Opd -> Value} {ρ':Operand -> Value} (hρ:∀ x y,trOpd x=some y -> VR β (ρ y) (ρ' x)) (r:Rel β h w) (hn:β n=none) {t:TypeId} {len:Nat} {ps:Array (Nat × Operand)} {e sz:Nat} {z:List Value} {qs:List (Nat × Nat × Opd)} {cs:List Value}
  (ht:trOp P (.buildSlice t len ps)=some (.bslice e sz len z qs)) (hf:fillI ρ z qs=some cs) :
  VS P (Instr.buildSlice t len (ps.map fun (i,x)=>(i,ρ' x))) w β h n (.slice (some ⟨n,0,none⟩) len len,[(n,some ⟨e,sz,true,cs⟩)],1):=by
 simp only [trOp] at ht
 have hmap:(ps.map fun (x:Nat × Operand)=>(x.1,ρ' x.2)).toList=ps.toList.map fun p=>(p.1,ρ' p.2):=by simp
 split at ht
 ·rename_i e0 hu
  split at ht
  ·rename_i s z0 hs hz
   split at ht
   ·rename_i hc
    obtain ⟨hc1,hc2,hc3⟩:=hc
    cases htp:trParts (fun i=>some (i * s,s)) ps.toList with
    | none=>simp [htp] at ht
    | some q=>
     simp [htp] at ht
     obtain ⟨rfl,rfl,rfl,rfl⟩:=ht
     obtain ⟨zv,h1,h2,h3⟩:=zero_of hz
     have hzz:VRs β (List.replicate len z0).flatten (List.replicate len z0).flatten:=(VRs.of_base h3).flatten len
     obtain ⟨cs',k1,k2⟩:=fill_sound hρ ps.toList q _ _ cs htp hzz hf
     refine VS.new (w':={ w with heap:=w.heap.push (.cells ⟨cs' ++ []⟩ e0) }) (ds:=cs') (sp:=[]) (ex:=0) (fr:=(0,0)) r hn ?_ k2 (by simp) (fun _=>rfl) (.inl (Nat.le_refl _)) rfl rfl rfl
     intro L hb hx
     refine ⟨.slice (some ⟨L.b,0,none⟩) len (len+L.ex),?_,fun β' hβ => .sl _ _ _ _ _ hβ⟩
     have hz':(Array.range (len * s)).map ((⟨z0⟩:Array Value)[· % z0.length]!)=⟨(List.replicate len z0).flatten⟩:=by
      apply Array.ext'
      rw [<- flatten_zero z0 hc2 hc3 len,Array.toList_map,Array.toList_range,hc2]
     have hbig:¬ (16777216 < len * s):=by omega
     simp only [Instr.buildSlice,Sem.run_bind,run_underlying hu,Result.andThen_ok,run_size hs]
     simp only [Sem.run_ite,Sem.run_bind,Nat.reducePow,gt_iff_lt,hbig,if_false,Sem.run_pure,Result.andThen_ok]
     by_cases h0:len * s=0
     ·have hl:len=0:=by
       rcases Nat.mul_eq_zero.1 h0 with h | h
       ·exact h
       ·omega
      subst hl
      simp only [h0,if_true,Sem.run_pure,Result.andThen_ok,hmap]
      have hr:(Array.range 0).map (fun x=>(#[]:Array Value)[x % (#[]:Array Value).size]!)=⟨[]⟩:=by
       apply Array.ext'
       rw [Array.toList_map,Array.toList_range];rfl
      simp only [List.replicate_zero,List.flatten_nil] at k1
      rw [hr,k1]
      simp [newRow,hb,hx]
     ·simp only [h0,if_false,Sem.run_bind,h1,Result.andThen_ok,Sem.run_pure,h2,hmap]
      simp only [List.size_toArray] at hz' ⊢
      rw [hz',k1]
      simp [newRow,hb,hx]
   ·cases ht
  ·cases ht
 ·cases ht
end
end Go.Eng
end
section
namespace Go.Eng
section
variable {P:Program} {β:Emb} {h:Heap} {n:Nat} {w:World}
theorem ceq_length:∀ {ks:List Kd} {xs ys:List Value} {r:Bool},ceq ks xs ys=some r -> xs.length=ks.length /\ ys.length=ks.length
 | [],[],[],_,_=>⟨rfl,rfl⟩
 | [],[],_ :: _,_,e=>by simp [ceq] at e
 | [],_ :: _,_,_,e=>by simp [ceq] at e
 | k :: ks,[],_,_,e=>by cases k <;> simp [ceq] at e
 | k :: ks,x :: xs,[],_,e=>by cases k <;> cases x <;> simp [ceq] at e
 | k :: ks,x :: xs,y :: ys,r,e=>by
  have fin:∀ r',ceq ks xs ys=some r' -> (x :: xs).length=(k :: ks).length /\ (y :: ys).length=(k :: ks).length:=fun r' h=>by
   have:=ceq_length h;simp [this.1,this.2]
  cases hh:ceq ks xs ys with
  | none=>cases k <;> cases x <;> cases y <;> simp [ceq,hh] at e
  | some r'=>exact fin r' hh
theorem ceq_split:∀ (k:Nat) {ks:List Kd} {xs ys:List Value} {r:Bool},ceq ks xs ys=some r ->
  ∃ r1 r2,ceq (ks.take k) (xs.take k) (ys.take k)=some r1 /\ ceq (ks.drop k) (xs.drop k) (ys.drop k)=some r2 /\ r=(r1 && r2)
 | 0,ks,xs,ys,r,e=>⟨true,r,by simp [ceq],by simpa using e,by simp⟩
 | k+1,[],[],[],r,e=>by simp [ceq] at e;subst e;exact ⟨true,true,by simp [ceq],by simp [ceq],rfl⟩
 | k+1,[],[],_ :: _,_,e=>by simp [ceq] at e
 | k+1,[],_ :: _,_,_,e=>by simp [ceq] at e
 | k+1,q :: ks,[],_,_,e=>by cases q <;> simp [ceq] at e
 | k+1,q :: ks,x :: xs,[],_,e=>by cases q <;> cases x <;> simp [ceq] at e
 | k+1,q :: ks,x :: xs,y :: ys,r,e=>by
  cases hh:ceq ks xs ys with
  | none=>cases q <;> cases x <;> cases y <;> simp [ceq,hh] at e
  | some r'=>
   obtain ⟨r1,r2,h1,h2,rfl⟩:=ceq_split k hh
   have fin:∀ c:Bool,r=(c && (r1 && r2)) -> ceq ((q :: ks).take (k+1)) ((x :: xs).take (k+1)) ((y :: ys).take (k+1))=some (c && r1) ->
     ∃ s1 s2,ceq ((q :: ks).take (k+1)) ((x :: xs).take (k+1)) ((y :: ys).take (k+1))=some s1 /\ ceq ((q :: ks).drop (k+1)) ((x :: xs).drop (k+1)) ((y :: ys).drop (k+1))=some s2 /\ r=(s1 && s2):=
    fun c hr hc=>⟨_,r2,hc,by simpa using h2,by rw [hr,Bool.and_assoc]⟩
   cases q <;> cases x <;> cases y <;> simp only [ceq,hh,Option.map_some,Option.some.injEq,reduceCtorEq] at e
   case b.bool.bool a b=>exact fin (decide (a=b)) e.symm (by simp [ceq,h1])
   case i.int.int k1 a k2 b=>
    split at e
    ·rename_i hk;exact fin (decide (a=b)) (by simpa using e.symm) (by simp [ceq,h1,hk])
    ·cases e
   case s.string.string a b=>exact fin (decide (a=b)) e.symm (by simp [ceq,h1])
def ofCells (P:Program) (t:TypeId) (cs:List Value):Value:=
 match tyAgg P t with
 | some true => .agg ⟨cs⟩
 | _=>cs.headD undef
theorem flatTy_agg:∀ {d:Nat} {t:TypeId} {ks:List Kd},flatTy P d t=some ks -> ∃ g,tyAgg P t=some g /\ (g=false -> ks.length=1)
 | 0,_,_,e=>by simp [flatTy] at e
 | d+1,t,n,e=>by
  unfold flatTy at e
  unfold tyAgg
  split at e <;> simp_all <;> (subst e;rfl)
theorem extract_eq (cs:List Value) (off n:Nat):(⟨cs⟩:Array Value).extract off (off+n)=⟨(cs.drop off).take n⟩:=by
 simp [List.extract_eq_take_drop]
theorem part_run {t:TypeId} {g:Bool} {n:Nat} (hg:tyAgg P t=some g) (hs:szOf P t=some n) (h1:g=false -> n=1) (cs:List Value) (off:Nat) (hl:off+n <= cs.length) :
  (part t ⟨cs⟩ off).run P w = .ok (ofCells P t ((cs.drop off).take n)) w:=by
 unfold part ofCells
 cases g with
 | true=>
  simp [run_agg hg,run_size hs,hg,extract_eq]
 | false=>
  have:=h1 rfl;subst this
  have hlt:off < cs.length:=by omega
  simp only [Sem.run_bind,run_agg hg,Result.andThen_ok,Bool.false_eq_true,if_false,hg]
  simp only [List.getElem?_toArray,List.getElem?_eq_getElem hlt,Sem.run_pure]
  rw [List.drop_eq_getElem_cons hlt]
  rfl
def EqOK (P:Program) (d:Nat) (t:TypeId) (ks:List Kd):Prop:=
 ∀ d',d <= d' -> ∀ w xs ys r,ceq ks xs ys=some r -> (Op.equalIn d' t (ofCells P t xs) (ofCells P t ys)).run P w = .ok r w
theorem eqFields_run {d d':Nat} (hd:d <= d') (ih:∀ t ks,flatTy P d t=some ks -> EqOK P d t ks) :
  ∀ (fs:List Field) (off:Nat) (ks:List Kd),flatFs (flatTy P d) P fs off=some ks -> ∀ (w:World) (xs ys:List Value) (r:Bool),ceq ks (xs.drop off) (ys.drop off)=some r ->
   (Op.eqFields d' ⟨xs⟩ ⟨ys⟩ fs).run P w = .ok r w
 | [],off,ks,e,w,xs,ys,r,hc=>by
  simp [flatFs] at e;subst e
  have:=ceq_length hc
  rw [List.eq_nil_of_length_eq_zero this.1,List.eq_nil_of_length_eq_zero this.2] at hc
  simp [ceq] at hc;subst hc
  simp [Op.eqFields]
 | f :: fs,off,ks,e,w,xs,ys,r,hc=>by
  unfold flatFs at e
  split at e
  ·rename_i hn
   obtain ⟨hname,hoff⟩:=hn
   split at e
   ·rename_i k1 n1 hk hk'
    split at e
    ·rename_i hkk
     subst hkk
     cases hrest:flatFs (flatTy P d) P fs (off+k1.length) with
     | none=>simp [hrest] at e
     | some k2=>
      simp [hrest] at e;subst e
      obtain ⟨g,hg,hg1⟩:=flatTy_agg hk
      have hlen:=ceq_length hc
      obtain ⟨r1,r2,c1,c2,rfl⟩:=ceq_split k1.length hc
      rw [List.take_left] at c1
      rw [List.drop_left,List.drop_drop,List.drop_drop] at c2
      simp only [List.length_drop,List.length_append] at hlen
      have hr1:=ih f.type k1 hk d' hd w _ _ r1 c1
      have hr2:=eqFields_run hd ih fs (off+k1.length) k2 hrest w xs ys r2 c2
      have l1:off+k1.length <= xs.length \/ k1.length=0:=by omega
      have l2:off+k1.length <= ys.length \/ k1.length=0:=by omega
      have pr:∀ cs:List Value,(off+k1.length <= cs.length \/ k1.length=0) -> (part f.type ⟨cs⟩ off).run P w = .ok (ofCells P f.type ((cs.drop off).take k1.length)) w:=by
       intro cs hcs
       rcases hcs with hcs | hcs
       ·exact part_run hg hk' hg1 cs off hcs
       ·cases g with
        | false=>have:=hg1 rfl;omega
        | true=>
         unfold part ofCells
         simp [run_agg hg,run_size hk',hg,extract_eq]
      simp only [Op.eqFields]
      rw [if_pos hname,hoff]
      simp only [Sem.run_bind,pr xs l1,pr ys l2,Result.andThen_ok,hr1]
      cases r1
      ·simp
      ·simp [hr2]
    ·cases e
   ·cases e
  ·cases e
theorem loop_run {w:World} {k:Nat} {ks:List Kd} {xs ys:List Value} (hk:k=ks.length) {len:Nat} (f:Nat -> (Option Bool × PUnit) -> Sem (ForInStep (Option Bool × PUnit)))
  (hf:∀ i,i < len -> ∀ r1,ceq ks ((xs.drop (i * k)).take k) ((ys.drop (i * k)).take k)=some r1 ->
   (f i (none,PUnit.unit)).run P w = .ok (if r1 then ForInStep.yield (none,PUnit.unit) else ForInStep.done (some false,PUnit.unit)) w) :
  ∀ (m s:Nat) (r:Bool),s+m=len -> ceq (List.replicate m ks).flatten (xs.drop (s * k)) (ys.drop (s * k))=some r ->
   (forIn (List.range' s m 1) ((none:Option Bool),PUnit.unit) f).run P w = .ok (if r then none else some false,PUnit.unit) w:=by
 intro m
 induction m with
 | zero=>
  intro s r hs hc
  have hl:=ceq_length hc
  simp only [List.replicate_zero,List.flatten_nil,List.length_nil] at hl hc
  rw [List.eq_nil_of_length_eq_zero hl.1,List.eq_nil_of_length_eq_zero hl.2] at hc
  simp [ceq] at hc;subst hc
  simp
 | succ m ihm=>
  intro s r hs hc
  subst hk
  obtain ⟨r1,r2,c1,c2,rfl⟩:=ceq_split ks.length hc
  rw [List.replicate_succ,List.flatten_cons,List.take_left] at c1
  rw [List.replicate_succ,List.flatten_cons,List.drop_left] at c2
  rw [List.drop_drop,List.drop_drop,<- Nat.succ_mul] at c2
  have h1:=hf s (by omega) r1 c1
  have rest:=ihm (s+1) r2 (by omega) c2
  simp only [List.range'_succ,List.forIn_cons,Sem.run_bind,h1,Result.andThen_ok]
  cases r1
  ·simp
  ·simpa using rest
theorem eqArr_run {d : Nat} {t e : TypeId} {len : Nat} {ks : List Kd} (w : World) (xs ys : List Value) (r : Bool) (hu : P.underlying t = some (.array len e)) (hk : szOf P e = some ks.length)
    (ih : ∀ i, i < len → ∀ r1, ceq ks ((xs.drop (i * ks.length)).take ks.length) ((ys.drop (i * ks.length)).take ks.length) = some r1 →
       (part e ⟨xs⟩ (i * ks.length)).run P w = .ok (ofCells P e ((xs.drop (i * ks.length)).take ks.length)) w ∧ (part e ⟨ys⟩ (i * ks.length)).run P w = .ok (ofCells P e ((ys.drop (i * ks.length)).take ks.length)) w ∧
       (Op.equalIn d e (ofCells P e ((xs.drop (i * ks.length)).take ks.length)) (ofCells P e ((ys.drop (i * ks.length)).take ks.length))).run P w = .ok r1 w)
    (hc : ceq (List.replicate len ks).flatten xs ys = some r) : (Op.equalIn (d + 1) t (.agg ⟨xs⟩) (.agg ⟨ys⟩)).run P w = .ok r w := by
  simp only [Op.equalIn, Sem.run_bind, run_underlying hu, Result.andThen_ok, run_size hk]
  rw [Std.Legacy.Range.forIn_eq_forIn_range']
  have hsz : ([:len] : Std.Legacy.Range).size = len := by simp [Std.Legacy.Range.size]
  rw [hsz]
  rw [loop_run (len := len) (k := ks.length) (xs := xs) (ys := ys) rfl _ (fun i hi r1 hr1 => ?_) len 0 r (by omega) (by simpa using hc)]
  · cases r <;> simp
  · obtain ⟨p1, p2, p3⟩ := ih i hi r1 hr1
    simp only [Sem.run_bind, p1, p2, p3, Result.andThen_ok]
    cases r1 <;> simp
theorem flat_eq:∀ (d:Nat) (t:TypeId) (ks:List Kd),flatTy P d t=some ks -> EqOK P d t ks
 | 0,t,n,e=>by simp [flatTy] at e
 | d+1,t,n,e=>by
  intro d' hd w xs ys r hc
  obtain ⟨d',rfl⟩:∃ m,d'=m+1:=⟨d' - 1,by omega⟩
  have hd':d <= d':=by omega
  have leaf:∀ {k:Kd},tyAgg P t=some false -> n=[k] -> (∃ x y,xs=[x] /\ ys=[y] /\ ofCells P t xs=x /\ ofCells P t ys=y):=by
   intro k hg hn
   have hl:=ceq_length hc
   rw [hn] at hl
   match xs,ys,hl with
   | [x],[y],_=>exact ⟨x,y,rfl,rfl,by simp [ofCells,hg],by simp [ofCells,hg]⟩
   | [],_,h=>simp at h
   | _ :: _ :: _,_,h=>simp at h
   | [_],[],h=>simp at h
   | [_],_ :: _ :: _,h=>simp at h
  unfold flatTy at e
  split at e
  ·rename_i hu
   simp only [Option.some.injEq] at e;subst e
   obtain ⟨x,y,rfl,rfl,e1,e2⟩:=leaf (k:=.b) (by simp [tyAgg,hu]) rfl
   rw [e1,e2]
   cases x <;> cases y <;> simp only [ceq,reduceCtorEq] at hc
   case bool.bool a b=>
    simp at hc;subst hc
    rw [run_equalIn_bool w d' t a b hu]
    congr 1
  ·rename_i kk hu
   simp only [Option.some.injEq] at e;subst e
   obtain ⟨x,y,rfl,rfl,e1,e2⟩:=leaf (k:=.i) (by simp [tyAgg,hu]) rfl
   rw [e1,e2]
   cases x <;> cases y <;> simp only [ceq,reduceCtorEq] at hc
   case int.int k a k' b=>
    split at hc
    ·rename_i hk;subst hk
     simp at hc;subst hc
     rw [run_equalIn_int w d' t k kk a b hu]
     congr 1
    ·cases hc
  ·rename_i hu
   simp only [Option.some.injEq] at e;subst e
   obtain ⟨x,y,rfl,rfl,e1,e2⟩:=leaf (k:=.s) (by simp [tyAgg,hu]) rfl
   rw [e1,e2]
   cases x <;> cases y <;> simp only [ceq,reduceCtorEq] at hc
   case string.string a b=>
    simp at hc;subst hc
    rw [run_equalIn_string w d' t a b hu,ba_beq]
  ·rename_i fs hu
   split at e
   ·cases e
   ·rename_i hp
    have hf:P.fieldsOf t=fs:=by simp [Program.fieldsOf,hu]
    have hg:tyAgg P t=some true:=by simp [tyAgg,hu]
    have e1:∀ l,ofCells P t l = .agg ⟨l⟩:=fun l=>by simp [ofCells,hg]
    rw [e1,e1,run_equalIn_struct w d' t ⟨xs⟩ ⟨ys⟩ (by rw [hf];exact hu) (by simpa using hp),hf]
    exact eqFields_run hd' (fun t n e=>flat_eq d t n e) fs.toList 0 n e w xs ys r (by simpa using hc)
  ·rename_i len el hu
   split at e
   ·rename_i ks k' hk hk'
    split at e
    ·rename_i hkk
     subst hkk
     simp at e;subst e
     obtain ⟨g,hg,hg1⟩:=flatTy_agg hk
     have hga:tyAgg P t=some true:=by simp [tyAgg,hu]
     have e1:∀ l,ofCells P t l = .agg ⟨l⟩:=fun l=>by simp [ofCells,hga]
     rw [e1,e1]
     have ihx:=flat_eq d el ks hk
     have hl:=ceq_length hc
     have hfl:(List.replicate len ks).flatten.length=len * ks.length:=by simp
     refine eqArr_run w xs ys r hu hk' (fun i hi r1 hr1=>?_) hc
     have hb:i * ks.length+ks.length <= len * ks.length:=by rw [<- Nat.succ_mul];exact Nat.mul_le_mul_right _ hi
     exact ⟨part_run hg hk' hg1 xs _ (by omega),part_run hg hk' hg1 ys _ (by omega),ihx d' hd' w _ _ r1 hr1⟩
    ·cases e
   ·cases e
  ·cases e
theorem ceq_rel {β:Emb}:∀ {ks:List Kd} {xs ys xs' ys':List Value} {r:Bool},ceq ks xs ys=some r -> VRs β xs xs' -> VRs β ys ys' -> ceq ks xs' ys'=some r
 | [],[],[],_,_,_,e,.nil,.nil=>e
 | [],[],_ :: _,_,_,_,e,_,_=>by simp [ceq] at e
 | [],_ :: _,_,_,_,_,e,_,_=>by simp [ceq] at e
 | k :: ks,[],_,_,_,_,e,_,_=>by cases k <;> simp [ceq] at e
 | k :: ks,x :: xs,[],_,_,_,e,_,_=>by cases k <;> cases x <;> simp [ceq] at e
 | k :: ks,x :: xs,y :: ys,_,_,r,e,.cons _ x' _ xs' hx hxs,.cons _ y' _ ys' hy hys=>by
  cases hh:ceq ks xs ys with
  | none=>cases k <;> cases x <;> cases y <;> simp [ceq,hh] at e
  | some r'=>
   have:=ceq_rel hh hxs hys
   cases k <;> cases x <;> cases y <;> simp only [ceq,hh,reduceCtorEq] at e
   case b.bool.bool a b=>rw [hx.bool_left,hy.bool_left];simp only [ceq,this];exact e
   case i.int.int k1 a k2 b=>rw [hx.int_left,hy.int_left];simp only [ceq,this];exact e
   case s.string.string a b=>rw [hx.string_left,hy.string_left];simp only [ceq,this];exact e
theorem vs_eqa {op:BinOp} {neg:Bool} {t:TypeId} {ks:List Kd} {X Y:Operand} {a b:List Value} {x' y':Value} {r:Bool} (rel:Rel β h w) (hop:(op = .eql /\ neg=false) \/ (op = .neq /\ neg=true))
  (ht:tyAgg P t=some true) (hg:P.eqGuardType P.depth t=false) (hk:flatTy P 20 t=some ks) (hx:VR β (.agg ⟨a⟩) x') (hy:VR β (.agg ⟨b⟩) y') (hc:ceq ks a b=some r) :
  VS P (do eqGuard op t X Y x' y';binOp op t x' y') w β h n (.bool (if neg then !r else r),[],0):=by
 obtain ⟨a',ha,rfl⟩:=hx.agg_left
 obtain ⟨b',hb,rfl⟩:=hy.agg_left
 refine VS.pure rel (v':=.bool (if neg then !r else r)) ?_ (.base _ rfl)
 have hq:=flat_eq 20 t ks hk 10000 (by omega) w a' b' r (ceq_rel hc ha hb)
 have e1:∀ l,ofCells P t l = .agg ⟨l⟩:=fun l=>by simp [ofCells,ht]
 rw [e1,e1] at hq
 simp only [Sem.run_bind,run_eqGuard_agg w op t X Y _ _ hg,Result.andThen_ok]
 rcases hop with ⟨rfl,rfl⟩ | ⟨rfl,rfl⟩
 ·rw [run_eql_struct,hq];rfl
 ·rw [run_neq_struct,hq];rfl
end
end Go.Eng
end
section
namespace Go.Eng
section
variable {P:Program} {β:Emb} {h:Heap} {n:Nat} {w:World}
theorem run_bnd {x:Value} {k:IntKind} {i:Int} {y:Nat} {code:BoundsCode} (hx:x = .int k i) (hi:0 <= i /\ i <= y):(Instr.sliceBound x y code).run P w = .ok i.toNat w:=by
 subst hx
 simp [Instr.sliceBound,asIntOf,hi]
theorem run_hi {ρ:Opd -> Value} {ρ':Operand -> Value} (hρ:∀ x y,trOpd x=some y -> VR β (ρ y) (ρ' x)) {hi:Option Operand} {hi':Option Opd} (hhi:trOpt hi=some hi') {len cap hh:Nat} (hb:bhi ρ len cap hi'=some hh) :
  (hi=none /\ hh=len) \/ (∃ x k i,hi=some x /\ ρ' x = .int k i /\ 0 <= i /\ i <= cap /\ hh=i.toNat):=by
 cases hi with
 | none=>
  simp [trOpt] at hhi;subst hhi
  simp [bhi] at hb;exact .inl ⟨rfl,hb.symm⟩
 | some x=>
  cases hx:trOpd x with
  | none=>simp [trOpt,hx] at hhi
  | some y=>
   simp [trOpt,hx] at hhi;subst hhi
   have hv:=hρ x y hx
   simp only [bhi] at hb
   cases hy:ρ y <;> simp only [hy] at hb <;> first | (cases hb;done) | skip
   rename_i kk i
   rw [hy] at hv
   split at hb
   ·rename_i hc
    simp at hb
    exact .inr ⟨x,kk,i,rfl,hv.int_left,hc.1,hc.2,hb.symm⟩
   ·cases hb
theorem run_lo {ρ:Opd -> Value} {ρ':Operand -> Value} (hρ:∀ x y,trOpd x=some y -> VR β (ρ y) (ρ' x)) {lo:Option Operand} {lo':Option Opd} (hlo:trOpt lo=some lo') {h0 l:Nat} (hb:blo ρ h0 lo'=some l) :
  (lo=none /\ l=0) \/ (∃ x k i,lo=some x /\ ρ' x = .int k i /\ 0 <= i /\ i <= h0 /\ l=i.toNat):=by
 cases lo with
 | none=>
  simp [trOpt] at hlo;subst hlo
  simp [blo] at hb;exact .inl ⟨rfl,hb.symm⟩
 | some x=>
  cases hx:trOpd x with
  | none=>simp [trOpt,hx] at hlo
  | some y=>
   simp [trOpt,hx] at hlo;subst hlo
   have hv:=hρ x y hx
   simp only [blo] at hb
   cases hy:ρ y <;> simp only [hy] at hb <;> first | (cases hb;done) | skip
   rename_i kk i
   rw [hy] at hv
   split at hb
   ·rename_i hc
    simp at hb
    exact .inr ⟨x,kk,i,rfl,hv.int_left,hc.1,hc.2,hb.symm⟩
   ·cases hb
theorem run_bnds {ρ:Opd -> Value} {ρ':Operand -> Value} (hρ:∀ x y,trOpd x=some y -> VR β (ρ y) (ρ' x)) {lo hi:Option Operand} {lo' hi':Option Opd} (hlo:trOpt lo=some lo') (hhi:trOpt hi=some hi')
  {len cap cap':Nat} (hcap:cap <= cap') {l hh:Nat} (hb:bnds ρ len cap lo' hi'=some (l,hh)) (isS:Bool) :
  (Instr.sliceBounds isS len cap' (lo.map ρ') (hi.map ρ') none).run P w = .ok (l,hh,cap') w:=by
 unfold bnds at hb
 split at hb
 ·cases hb
 ·rename_i h0 e1
  cases e2:blo ρ h0 lo' with
  | none=>simp [e2] at hb
  | some l0=>
   simp [e2] at hb
   obtain ⟨rfl,rfl⟩:=hb
   unfold Instr.sliceBounds
   rcases run_hi hρ hhi e1 with ⟨rfl,rfl⟩ | ⟨x,k,i,rfl,hx,h1,h2,rfl⟩ <;> rcases run_lo hρ hlo e2 with ⟨rfl,rfl⟩ | ⟨y,k',j,rfl,hy,g1,g2,rfl⟩
   ·simp
   ·simp [hy,run_bnd rfl ⟨g1,g2⟩]
   ·have h2':i <= (cap':Int):=by omega
    simp [hx,run_bnd rfl ⟨h1,h2'⟩]
   ·have h2':i <= (cap':Int):=by omega
    simp [hx,hy,run_bnd rfl ⟨h1,h2'⟩,run_bnd rfl ⟨g1,g2⟩]
theorem bnds_le {ρ:Opd -> Value} {len cap:Nat} {lo hi:Option Opd} {l hh:Nat} (hb:bnds ρ len cap lo hi=some (l,hh)) (hlc:len <= cap):l <= hh /\ hh <= cap:=by
 unfold bnds at hb
 split at hb
 ·cases hb
 ·rename_i h0 e
  have h0c:h0 <= cap:=by
   unfold bhi at e
   split at e
   ·simp at e;omega
   ·split at e
    ·split at e
     ·simp at e;omega
     ·cases e
    ·cases e
  cases e2:blo ρ h0 lo with
  | none=>simp [e2] at hb
  | some l0=>
   simp [e2] at hb
   obtain ⟨rfl,rfl⟩:=hb
   refine ⟨?_,h0c⟩
   unfold blo at e2
   split at e2
   ·simp at e2;omega
   ·split at e2
    ·split at e2
     ·simp at e2;omega
     ·cases e2
    ·cases e2
theorem mkSl_rel {k b off sz cap l hh ex:Nat} {L:Loc} (hL:β k=some L) (hb:L.b=b) (hlh:l <= hh) (hhc:hh <= cap+L.ex) (hx:hh <= cap) :
  VR β (mkSl k off sz cap l hh) (.slice (some (if cap+L.ex=l then ⟨b,off,none⟩ else ⟨b,off+l * sz,none⟩)) (hh - l) (cap+L.ex - l)):=by
 subst hb
 unfold mkSl
 by_cases e:cap=l
 ·rw [if_pos e]
  have:hh - l=0:=by omega
  rw [this]
  split
  ·exact .slz _ _ _ _ hL
  ·exact .slz _ _ _ _ hL
 ·rw [if_neg e,if_neg (by omega)]
  have:cap+L.ex - l=(cap - l)+L.ex:=by omega
  rw [this]
  exact .sl _ _ _ _ _ hL
theorem VR.slz_left {k:Nat} {v':Value} (hv:VR β (.slice (some ⟨k,0,some 0⟩) 0 0) v'):∃ L off c,β k=some L /\ v' = .slice (some ⟨L.b,off,none⟩) 0 c:=by
 cases hv with
 | base _ h=>simp [isBase] at h
 | slz k off c L h=>exact ⟨L,off,c,h,rfl⟩
theorem bnds_zero {ρ:Opd -> Value} {lo hi:Option Opd} {r:Nat × Nat} (hb:bnds ρ 0 0 lo hi=some r):r=(0,0):=by
 obtain ⟨l,hh⟩:=r
 have:=bnds_le hb (Nat.le_refl _)
 simp;omega
theorem vs_slice {ρ:Opd -> Value} {ρ':Operand -> Value} (hρ:∀ x y,trOpd x=some y -> VR β (ρ y) (ρ' x)) (rel:Rel β h w) {t:TypeId} {x:Operand} {lo hi:Option Operand} {i:IOp} {E:Env} {o:Out}
  (ht:trOp P (.slice t x lo hi none)=some i) (hs:istep E ρ h n i=some o):VS P (Instr.sliceAt t (ρ' x) (lo.map ρ') (hi.map ρ') none) w β h n o:=by
 simp only [trOp] at ht
 split at ht
 ·rename_i y lo' hi' hx hlo hhi
  have hv:=hρ x y hx
  split at ht
  ·
   rename_i hu
   cases ht
   simp only [istep] at hs
   split at hs
   ·rename_i s hy
    rw [hy] at hv
    cases hb:bnds ρ s.size s.size lo' hi' with
    | none=>simp [hb] at hs
    | some r=>
     obtain ⟨l,hh⟩:=r
     simp [hb] at hs;subst hs
     have:=run_bnds (P:=P) (w:=w) hρ hlo hhi (Nat.le_refl s.size) hb false
     refine VS.pure rel (v':=.string (s.extract l hh)) ?_ (.base _ rfl)
     simp [Instr.sliceAt,run_underlying hu,Instr.slice,hv.string_left,this]
   ·cases hs
  ·
   rename_i len e hu
   cases hsz:szOf P e with
   | none=>simp [hsz] at ht
   | some sz=>
    simp [hsz] at ht;subst ht
    simp only [istep] at hs
    split at hs
    ·rename_i k off hy
     rw [hy] at hv
     obtain ⟨L,hL,hv'⟩:=hv.ptr_left
     split at hs
     ·rename_i blk hk
      split at hs
      ·rename_i hxx
       cases hb:bnds ρ len len lo' hi' with
       | none=>simp [hb] at hs
       | some r=>
        obtain ⟨l,hh⟩:=r
        simp [hb] at hs;subst hs
        have hrun:=run_bnds (P:=P) (w:=w) hρ hlo hhi (Nat.le_refl len) hb false
        have hle:=bnds_le hb (Nat.le_refl _)
        obtain ⟨L',ds,fr,a1,a2,a3,a4,a5,a6⟩:=rel.live k blk hk
        rw [hL] at a1;cases a1
        have hex:=a6 hxx
        have hm:=mkSl_rel (β:=β) (sz:=sz) (off:=off) (ex:=0) hL rfl hle.1 (by omega) hle.2
        rw [hex,Nat.add_zero] at hm
        refine VS.pure rel (v':=_) ?_ hm
        rw [hv']
        simp only [Instr.sliceAt,Sem.run_bind,run_underlying hu,Result.andThen_ok,Instr.sureAddr,Sem.run_pure,hrun,run_size hsz,add_none]
      ·cases hs
     ·cases hs
    ·cases hs
  ·
   rename_i e hu
   cases hsz:szOf P e with
   | none=>simp [hsz] at ht
   | some sz=>
    simp [hsz] at ht;subst ht
    simp only [istep] at hs
    split at hs
    ·rename_i k off len cap hy
     rw [hy] at hv
     obtain ⟨L,hL,hv'⟩:=hv.sl_left
     split at hs
     ·rename_i hlc
      cases hb:bnds ρ len cap lo' hi' with
      | none=>simp [hb] at hs
      | some r=>
       obtain ⟨l,hh⟩:=r
       simp [hb] at hs;subst hs
       have hrun:=run_bnds (P:=P) (w:=w) hρ hlo hhi (Nat.le_add_right cap L.ex) hb true
       have hle:=bnds_le hb hlc
       have hm:=mkSl_rel (β:=β) (sz:=sz) (off:=off) (ex:=L.ex) hL rfl hle.1 (by omega) hle.2
       refine VS.pure rel (v':=_) ?_ hm
       rw [hv']
       simp only [Instr.sliceAt,Instr.slice,Sem.run_bind,run_underlying hu,Result.andThen_ok,Sem.run_pure,hrun,run_size hsz]
       split <;> simp [add_none]
     ·cases hs
    ·rename_i k hy
     rw [hy] at hv
     obtain ⟨L,off,c,hL,hv'⟩:=hv.slz_left
     cases hb:bnds ρ 0 0 lo' hi' with
     | none=>simp [hb] at hs
     | some r=>
      simp [hb] at hs;subst hs
      have hr:=bnds_zero hb
      subst hr
      have hrun:=run_bnds (P:=P) (w:=w) hρ hlo hhi (Nat.zero_le c) hb true
      refine VS.pure rel (v':=.slice (some ⟨L.b,off,none⟩) 0 c) ?_ (.slz _ _ _ _ hL)
      rw [hv']
      simp only [Instr.sliceAt,Instr.slice,Sem.run_bind,run_underlying hu,Result.andThen_ok,Sem.run_pure,hrun,run_size hsz]
      split <;> simp [add_none]
    ·rename_i hy
     rw [hy] at hv
     have hv':=hv.base_left rfl
     cases hb:bnds ρ 0 0 lo' hi' with
     | none=>simp [hb] at hs
     | some r=>
      simp [hb] at hs;subst hs
      have hr:=bnds_zero hb
      subst hr
      have hrun:=run_bnds (P:=P) (w:=w) hρ hlo hhi (Nat.zero_le 0) hb true
      refine VS.pure rel (v':=.slice none 0 0) ?_ (.base _ rfl)
      rw [hv']
      simp only [Instr.sliceAt,Instr.slice,Sem.run_bind,run_underlying hu,Result.andThen_ok,Sem.run_pure,hrun,run_size hsz]
      split <;> simp
    ·cases hs
  ·cases ht
 ·cases ht
end
end Go.Eng
end
section
namespace Go.Eng
section
variable {P:Program} {β:Emb} {h:Heap} {n:Nat} {w:World}
theorem zeroCells_eq (z:List Value) {s:Nat} (hz:z.length=s) (hs:0 < s) (m:Nat):(Builtin.zeroCells ⟨z⟩ m).toList=(List.replicate m z).flatten:=by
 unfold Builtin.zeroCells
 rw [Array.toList_map,Array.toList_range,<- flatten_zero z hz hs m]
 simp [hz]
theorem vs_mkslice {t e:TypeId} {sz bytes:Nat} {z:List Value} {k k':IntKind} {l c:Int} (rel:Rel β h w) (hn:β n=none) (hu:P.underlying t=some (.slice e)) (hs:szOf P e=some sz) (hb:bytesOf P e=some bytes) (hz:zeroOf P e=some z)
  (hzl:z.length=sz) (hsz:0 < sz) (hc:0 <= l /\ l <= c /\ bytes * c <= 281474976710656 /\ c <= 9223372036854775807) :
  VS P (Instr.makeSlice t (.int k l) (.int k' c)) w β h n (.slice (some ⟨n,0,none⟩) l.toNat l.toNat,[(n,some ⟨e,sz,false,(List.replicate l.toNat z).flatten⟩)],1):=by
 obtain ⟨zv,h1,h2,h3⟩:=zero_of hz
 obtain ⟨i,hi,hib⟩:=run_bytes (w:=w) hb
 obtain ⟨c1,c2,c3,c4⟩:=hc
 have wrapl:IntKind.i64.wrap l=l:=by unfold IntKind.wrap;simp [IntKind.bits,IntKind.signed];omega
 have wrapc:IntKind.i64.wrap c=c:=by unfold IntKind.wrap;simp [IntKind.bits,IntKind.signed];omega
 have hsp:(List.replicate (c.toNat - l.toNat) z).flatten.length=(c.toNat - l.toNat) * sz:=by simp [hzl]
 refine VS.new (w':={ w with heap:=w.heap.push (.cells ⟨(List.replicate l.toNat z).flatten ++ (List.replicate (c.toNat - l.toNat) z).flatten⟩ e) }) (ds:=(List.replicate l.toNat z).flatten) (sp:=(List.replicate (c.toNat - l.toNat) z).flatten) (ex:=c.toNat - l.toNat) (fr:=(0,0))
  rel hn ?_ ((VRs.of_base h3).flatten _) hsp (fun h=>by cases h) (.inl (Nat.le_refl _)) rfl rfl rfl
 intro L hLb hLx
 refine ⟨.slice (some ⟨L.b,0,none⟩) l.toNat (l.toNat+L.ex),?_,fun β' hβ => .sl _ _ _ _ _ hβ⟩
 have hcap:l.toNat+L.ex=c.toNat:=by rw [hLx];omega
 have t1:¬ (c < 0):=by omega
 have t2:¬ (281474976710656 < (bytes:Int) * c):=by omega
 have t3:¬ (l < 0):=by omega
 have t4:¬ (l > c):=by omega
 have hcells:(Array.range (c.toNat * sz)).map ((⟨z⟩:Array Value)[· % z.length]!)=⟨(List.replicate l.toNat z).flatten ++ (List.replicate (c.toNat - l.toNat) z).flatten⟩:=by
  apply Array.ext'
  rw [Array.toList_map,Array.toList_range,hzl,flatten_zero z hzl hsz,<- List.flatten_append,List.replicate_append_replicate]
  congr 2
  omega
 simp only [Instr.makeSlice,Sem.run_bind,run_underlying hu,Result.andThen_ok,asInt,asIntOf,Sem.run_pure,hi,hib,wrapl,wrapc]
 simp only [Nat.reducePow,Int.reducePow,t1,t2,t3,t4,decide_false,Bool.or_false,Bool.false_or,gt_iff_lt,decide_eq_true_eq,Bool.false_eq_true,if_false,Sem.run_bind,run_askRoom,Result.andThen_ok,run_size hs]
 simp only [Sem.run_ite,Sem.run_pure,Sem.run_bind,h1]
 by_cases h0:c.toNat * sz=0
 ·have hc0:c.toNat=0:=by
   rcases Nat.mul_eq_zero.1 h0 with h | h
   ·exact h
   ·omega
  have hl0:l.toNat=0:=by omega
  have hr:(Array.range 0).map (fun x=>(#[]:Array Value)[x % (#[]:Array Value).size]!)=⟨[]⟩:=by
   apply Array.ext'
   rw [Array.toList_map,Array.toList_range];rfl
  simp only [hc0,hl0,Nat.zero_mul,if_true,Result.andThen_ok,hr,newRow,Sem.run_bind,run_newObj,Sem.run_pure,List.replicate_zero,List.flatten_nil,List.append_nil,Nat.sub_zero,hLb]
  congr 1
  rw [hLx];simp;omega
 ·simp only [h0,if_false,Result.andThen_ok,h2,newRow,Sem.run_bind,run_newObj,Sem.run_pure]
  simp only [List.size_toArray] at hcells ⊢
  rw [hcells,hLb,hcap]
theorem byteList_run (w:World) (f:Value -> ByteArray -> Sem (ForInStep ByteArray)) (hf:∀ n s,(f (.int .u8 n) s).run P w = .ok (.yield (s.push (UInt8.ofNat n.toNat))) w) :
  ∀ (cs cs':List Value) (bs:List UInt8),byteList cs=some bs -> VRs β cs cs' -> ∀ (s:ByteArray),(forIn cs' s f).run P w = .ok ⟨s.data ++ ⟨bs⟩⟩ w
 | [],_,bs,e,.nil,s=>by
  simp [byteList] at e;subst e
  simp
 | v :: cs,_,bs,e,.cons _ v' _ cs' hv hr,s=>by
  unfold byteList at e
  split at e
  ·rename_i hh;cases hh
  ·rename_i nn r hh
   cases hh
   cases hb:byteList cs with
   | none=>simp [hb] at e
   | some bs'=>
    simp [hb] at e;subst e
    rw [hv.int_left]
    simp only [List.forIn_cons,Sem.run_bind,hf,Result.andThen_ok]
    rw [byteList_run w f hf cs cs' bs' hb hr]
    congr 2
    simp [ByteArray.push]
  ·cases e
theorem vs_b2s {x':Value} {k off len cap:Nat} {blk:Blk} {bs:List UInt8} (rel:Rel β h w) (hx:VR β (.slice (some ⟨k,off,none⟩) len cap) x') (hk:hget h k=some blk) (hl:off+len <= blk.cells.length)
  (hb:byteList ((blk.cells.drop off).take len)=some bs):VS P (Conv.bytesToString x') w β h n (.string ⟨⟨bs⟩⟩,[],0):=by
 obtain ⟨L,hL,rfl⟩:=hx.sl_left
 obtain ⟨L',ds,fr,a1,a2,a3,a4,a5,a6⟩:=rel.live k blk hk
 rw [hL] at a1;cases a1
 have hlen:=a4.length
 have hload:=run_loadCells P a2 (off:=off) (n:=len) (by simp;omega)
 rw [List.drop_append_of_le_length (by omega),List.take_append_of_le_length (by simp;omega)] at hload
 refine VS.pure rel (v':=.string ⟨⟨bs⟩⟩) ?_ (.base _ rfl)
 simp only [Conv.bytesToString,Sem.run_bind,hload,Result.andThen_ok]
 rw [<- Array.forIn_toList,byteList_run (β:=β) w _ (fun n s=>?_) _ _ bs hb ((a4.drop off).take len) ByteArray.empty]
 ·have e0:ByteArray.empty.data=#[]:=rfl
  simp [e0]
 ·simp
theorem srcCells {x x':Value} {xl xc:Nat} {xa:Option Addr} {sz:Nat} {src:List Value} (rel:Rel β h w) (hv:VR β x x') (hx:x = .slice xa xl xc)
  (hs:srcOf h sz xl xa=some src) (hlen:xl=0 \/ src.length=xl * sz) :
  ∃ src',VRs β src src' /\ (Builtin.lenOf x').run P w = .ok xl w /\ (xl ≠ 0 -> (Builtin.firstCells sz xl x').run P w = .ok ⟨src'⟩ w) /\ (xl=0 -> (Builtin.firstCells sz 0 x').run P w = .ok ⟨[]⟩ w):=by
 subst hx
 match xa,hv,hs with
 | none,hv,hs=>
  have:=hv.base_left rfl
  subst this
  simp [srcOf] at hs;subst hs
  exact ⟨[],.nil,by simp [Builtin.lenOf],fun _=>by simp [Builtin.firstCells],fun _=>by simp [Builtin.firstCells]⟩
 | some ⟨k,off,some q⟩,hv,hs=>
  cases hv with
  | base _ h=>simp [isBase] at h
  | slz k off' c L hL=>
   simp [srcOf] at hs;subst hs
   refine ⟨[],.nil,by simp [Builtin.lenOf],fun h=>absurd rfl h,fun _=>?_⟩
   simp [Builtin.firstCells,loadCells,loadCellsFrom]
  | sle a c=>
   simp [srcOf] at hs;subst hs
   refine ⟨[],.nil,by simp [Builtin.lenOf],fun h=>absurd rfl h,fun _=>?_⟩
   simp [Builtin.firstCells,loadCells,loadCellsFrom]
 | some ⟨k,off,none⟩,hv,hs=>
  obtain ⟨L,hL,rfl⟩:=hv.sl_left
  cases hk:hget h k with
  | none=>simp [srcOf,hk] at hs
  | some blk=>
   simp only [srcOf,hk,Option.bind_some] at hs
   split at hs
   ·rename_i hl
    simp [srcOf] at hs;subst hs
    obtain ⟨L',ds,fr,a1,a2,a3,a4,a5,a6⟩:=rel.live k blk hk
    rw [hL] at a1;cases a1
    have hlen:=a4.length
    refine ⟨(ds.drop off).take (xl * sz),(a4.drop off).take _,by simp [Builtin.lenOf],fun _=>?_,fun _=>by simp [Builtin.firstCells,loadCells,loadCellsFrom]⟩
    have hload:=run_loadCells P a2 (off:=off) (n:=xl * sz) (by simp;omega)
    rw [List.drop_append_of_le_length (by omega),List.take_append_of_le_length (by simp;omega)] at hload
    simp only [Builtin.firstCells]
    exact hload
   ·cases hs
end
end Go.Eng
end
section
namespace Go.Eng
section
variable {P:Program} {β:Emb} {h:Heap} {n:Nat} {w:World}
def newCap (w:World) (need old:Nat) (e:TypeId):Nat:=(Question.appendCap need old e).cut (w.tape w.drawn (.appendCap need old e))
theorem newCap_ge (w:World) (need old:Nat) (e:TypeId):need <= newCap w need old e:=by
 exact Nat.le_add_right _ _
theorem app_grow {t u ty e u':TypeId} {sz bytes:Nat} {z old src:List Value} {x:Value} {sb:Option Addr} {sLen sCap xl:Nat}
  (hu:P.underlying t=some (.slice e)) (hu':P.underlying u=some (.slice u')) (hs:szOf P e=some sz) (hb:bytesOf P e=some bytes) (hz:zeroOf P e=some z) (hzl:z.length=sz) (hsz:0 < sz) (hb0:0 < bytes)
  (hlen:(Builtin.lenOf x).run P w = .ok xl w) (hold:∀ w',w'.heap=w.heap -> (Builtin.firstCells sz sLen (.slice sb sLen sCap)).run P w' = .ok ⟨old⟩ w') (hsrc:∀ w',w'.heap=w.heap -> (Builtin.firstCells sz xl x).run P w' = .ok ⟨src⟩ w')
  (hc:sCap < sLen+xl) (hbig:(sLen+xl) * bytes <= 140737488355328) :
  ∃ w' ,(Builtin.append_ #[t,u] ty #[.slice sb sLen sCap,x]).run P w = .ok (.slice (some ⟨w.heap.size,0,none⟩) (sLen+xl) (newCap w (sLen+xl) sCap e)) w' /\
   w'.heap=w.heap.push (.cells ⟨(old ++ src) ++ (List.replicate (newCap w (sLen+xl) sCap e - (sLen+xl)) z).flatten⟩ e) /\ w'.os=w.os /\ w'.output=w.output:=by
 obtain ⟨zv,h1,h2,h3⟩:=zero_of hz
 obtain ⟨i,hi,hib⟩:=run_bytes (w:=w) hb
 have hib':∀ w',(typeInfo e).run P w' = .ok i w':=by
  intro w'
  unfold typeInfo at hi ⊢
  cases hh:P.info? e with
  | none=>simp [hh] at hi
  | some j=>simp [hh] at hi ⊢;exact hi
 have hfit:=growslice_fits (need:=sLen+xl) (old:=sCap) (bytes:=bytes) hc hbig
 have hn1:¬ (sLen+xl <= sCap):=by omega
 have hn2:¬ (281474976710656 < Builtin.nextslicecap (sLen+xl) sCap * bytes):=by omega
 have hn3:¬ (bytes=0):=by omega
 refine ⟨{ w with heap:=w.heap.push (.cells ⟨(old ++ src) ++ (List.replicate (newCap w (sLen+xl) sCap e - (sLen+xl)) z).flatten⟩ e),drawn:=w.drawn+1 },?_,rfl,rfl,rfl⟩
 simp only [Builtin.append_,List.getElem?_toArray,List.getElem?_cons_zero,List.getElem?_cons_succ,Sem.run_bind,run_underlying hu,Result.andThen_ok,run_size hs,run_underlying hu',Sem.run_pure,Bool.false_eq_true,if_false,hlen,hn1]
 simp only [hib',Sem.run_bind,Result.andThen_ok,Sem.run_ite,hib,hn3,Bool.false_eq_true,or_self,and_false,if_false,Sem.run_pure,Nat.reducePow,gt_iff_lt,hn2,run_choose,Question.forced,run_askRoom]
 rw [hold { w with drawn:=w.drawn+1 } rfl]
 simp only [Result.andThen_ok]
 rw [hsrc { w with drawn:=w.drawn+1 } rfl]
 simp only [Result.andThen_ok,h1,Bool.not_false,if_true,newRow,Sem.run_bind,run_newObj,Sem.run_pure,h2]
 have e1:(Builtin.zeroCells ⟨z⟩ (newCap w (sLen+xl) sCap e - (sLen+xl)))=⟨(List.replicate (newCap w (sLen+xl) sCap e - (sLen+xl)) z).flatten⟩:=Array.ext' (by rw [zeroCells_eq z hzl hsz])
 have e2:(Question.appendCap (sLen+xl) sCap e).cut (w.tape w.drawn (.appendCap (sLen+xl) sCap e))=newCap w (sLen+xl) sCap e:=rfl
 rw [e2,e1]
 simp
theorem app_z {t u ty e:TypeId} {sz bytes:Nat} {z:List Value} {k k':IntKind} {l:Int}
  (hu:P.underlying t=some (.slice e)) (hu':P.underlying u=some (.int k)) (hs:szOf P e=some sz) (hb:bytesOf P e=some bytes) (hz:zeroOf P e=some z) (hzl:z.length=sz) (hsz:0 < sz) (hb0:0 < bytes)
  (h0:0 < l) (hbig:l.toNat * bytes <= 140737488355328) :
  ∃ w' ,(Builtin.append_ #[t,u] ty #[.slice none 0 0,.int k' l]).run P w = .ok (.slice (some ⟨w.heap.size,0,none⟩) l.toNat (newCap w l.toNat 0 e)) w' /\
   w'.heap=w.heap.push (.cells ⟨(List.replicate l.toNat z).flatten ++ (List.replicate (newCap w l.toNat 0 e - l.toNat) z).flatten⟩ e) /\ w'.os=w.os /\ w'.output=w.output:=by
 obtain ⟨zv,h1,h2,h3⟩:=zero_of hz
 obtain ⟨i,hi,hib⟩:=run_bytes (w:=w) hb
 have hib':∀ w',(typeInfo e).run P w' = .ok i w':=by
  intro w'
  unfold typeInfo at hi ⊢
  cases hh:P.info? e with
  | none=>simp [hh] at hi
  | some j=>simp [hh] at hi ⊢;exact hi
 have hl:l.toNat <= 140737488355328:=Nat.le_trans (Nat.le_mul_of_pos_right _ hb0) hbig
 have wrapl:IntKind.i64.wrap l=l:=by unfold IntKind.wrap;simp [IntKind.bits,IntKind.signed];omega
 have hfit:=growslice_fits (need:=l.toNat) (old:=0) (bytes:=bytes) (by omega) hbig
 have hm:(281474976710656 < l * (bytes:Int))=False:=eq_false (by
  have e:l * (bytes:Int)=((l.toNat * bytes:Nat):Int):=by rw [Int.natCast_mul,Int.toNat_of_nonneg (by omega)]
  rw [e];omega)
 have hn0:(l < 0)=False:=eq_false (by omega)
 have hn1:(l.toNat=0)=False:=eq_false (by omega)
 have hn2:¬ (281474976710656 < Builtin.nextslicecap l.toNat 0 * bytes):=by omega
 have hn3:(l.toNat * sz=0)=False:=eq_false (fun x=>by rcases Nat.mul_eq_zero.1 x with y | y <;> omega)
 have hn4:((9223372036854775807:Int) < (l.toNat:Int))=False:=eq_false (by omega)
 have hn5:¬ (l.toNat <= 0):=by omega
 refine ⟨{ w with heap:=w.heap.push (.cells ⟨(List.replicate l.toNat z).flatten ++ (List.replicate (newCap w l.toNat 0 e - l.toNat) z).flatten⟩ e),drawn:=w.drawn+1 },?_,rfl,rfl,rfl⟩
 have e1:∀ m,(Builtin.zeroCells ⟨z⟩ m)=⟨(List.replicate m z).flatten⟩:=fun m=>Array.ext' (by rw [zeroCells_eq z hzl hsz])
 have e2:(Question.appendCap l.toNat 0 e).cut (w.tape w.drawn (.appendCap l.toNat 0 e))=newCap w l.toNat 0 e:=rfl
 have mx:IntKind.i64.max=9223372036854775807:=rfl
 simp only [Builtin.append_,List.getElem?_toArray,List.getElem?_cons_zero,List.getElem?_cons_succ,Sem.run_bind,run_underlying hu,Result.andThen_ok,run_size hs,run_underlying hu',Sem.run_pure,if_true,asInt,asIntOf,wrapl,hn0,if_false,hib',hib,Nat.reducePow,Int.reducePow,gt_iff_lt,hm,Sem.run_ite]
 simp only [Nat.zero_add,hn5,if_false,hib',Sem.run_bind,Result.andThen_ok,Sem.run_ite,hib,mx,hn4,false_and,Bool.not_true,Bool.false_eq_true,Sem.run_pure,Nat.reducePow,gt_iff_lt,hn2,run_choose,Question.forced,run_askRoom,Builtin.firstCells,hn3,h1,h2,e1,newRow,run_newObj,e2]
 simp
theorem app_room {t u ty e u':TypeId} {sz:Nat} {src:List Value} {x:Value} {b off:Nat} {sLen sCap xl:Nat} {C:List Value} {el:Nat} {fr:Nat × Nat}
  (hu:P.underlying t=some (.slice e)) (hu':P.underlying u=some (.slice u')) (hs:szOf P e=some sz)
  (hlen:(Builtin.lenOf x).run P w = .ok xl w) (hsrc:(Builtin.firstCells sz xl x).run P w = .ok ⟨src⟩ w)
  (hc:sLen+xl <= sCap) (hblk:w.heap[b]?=some (.cells ⟨C⟩ el fr)) (hf:fr.2 <= fr.1 \/ C.length <= fr.1) (hok:src.all okCell=true) (hl:off+sLen * sz+src.length <= C.length) :
  (Builtin.append_ #[t,u] ty #[.slice (some ⟨b,off,none⟩) sLen sCap,x]).run P w = .ok (.slice (some ⟨b,off,none⟩) (sLen+xl) sCap) (put w b (.cells ⟨setR C (off+sLen * sz) src⟩ el fr)):=by
 have hst:=run_storeCells P src w b (off+sLen * sz) 0 C el fr hblk hf hok (by omega)
 simp only [Builtin.append_,List.getElem?_toArray,List.getElem?_cons_zero,List.getElem?_cons_succ,Sem.run_bind,run_underlying hu,Result.andThen_ok,run_size hs,run_underlying hu',Sem.run_pure,Bool.false_eq_true,if_false,hlen,hc]
 simp only [Bool.not_false,if_true,hsrc,Sem.run_bind,Result.andThen_ok,add_none,hst,Sem.run_pure]
 simp
theorem setR_end:∀ (src ds sp:List Value),src.length <= sp.length -> setR (ds ++ sp) ds.length src=(ds ++ src) ++ sp.drop src.length
 | [],ds,sp,_=>by simp [setR]
 | v :: src,ds,[],h=>by simp at h
 | v :: src,ds,y :: sp,h=>by
  simp only [setR]
  have e:(ds ++ y :: sp).set ds.length v=(ds ++ [v]) ++ sp:=by simp
  have:=setR_end src (ds ++ [v]) sp (by simpa using h)
  rw [e,show ds.length+1=(ds ++ [v]).length by simp,this]
  simp
theorem firstCells_heap {w w':World} (e:w'.heap=w.heap) {sz len:Nat} {v:Value} {src:List Value} (hr:(Builtin.firstCells sz len v).run P w = .ok ⟨src⟩ w)
  (hv:(∃ c l,v = .slice none l c) \/ (∃ b off l c C el fr,v = .slice (some ⟨b,off,none⟩) l c /\ w.heap[b]?=some (.cells ⟨C⟩ el fr) /\ off+len * sz <= C.length)):(Builtin.firstCells sz len v).run P w' = .ok ⟨src⟩ w':=by
 rcases hv with ⟨c,l,rfl⟩ | ⟨b,off,l,c,C,el,fr,rfl,hb,hl⟩
 ·simp only [Builtin.firstCells,Sem.run_pure,Result.ok.injEq,and_true] at hr ⊢
  exact hr
 ·have h1:=run_loadCells P (off:=off) (n:=len * sz) hb hl
  have h2:=run_loadCells P (w:=w') (off:=off) (n:=len * sz) (by rw [e];exact hb) hl
  simp only [Builtin.firstCells] at hr ⊢
  rw [h1] at hr
  rw [h2]
  simp only [Result.ok.injEq,and_true] at hr ⊢
  exact hr
theorem srcShape {x x':Value} {xl xc:Nat} {xa:Option Addr} {sz:Nat} {src:List Value} (rel:Rel β h w) (hv:VR β x x') (hx:x = .slice xa xl xc) (hxl:xl ≠ 0)
  (hs:srcOf h sz xl xa=some src) :
  (∃ c l,x' = .slice none l c) \/ (∃ b off l c C el fr,x' = .slice (some ⟨b,off,none⟩) l c /\ w.heap[b]?=some (.cells ⟨C⟩ el fr) /\ off+xl * sz <= C.length):=by
 subst hx
 match xa,hv,hs with
 | none,hv,hs=>exact .inl ⟨_,_,hv.base_left rfl⟩
 | some ⟨k,off,some q⟩,hv,hs=>simp [srcOf,hxl] at hs
 | some ⟨k,off,none⟩,hv,hs=>
  obtain ⟨L,hL,rfl⟩:=hv.sl_left
  cases hk:hget h k with
  | none=>simp [srcOf,hk] at hs
  | some blk=>
   simp only [srcOf,hk,Option.bind_some] at hs
   split at hs
   ·rename_i hl
    obtain ⟨L',ds,fr,a1,a2,a3,a4,a5,a6⟩:=rel.live k blk hk
    rw [hL] at a1;cases a1
    exact .inr ⟨L.b,off,xl,_,_,_,_,rfl,a2,by have:=a4.length;simp;omega⟩
   ·cases hs
theorem Rel.grow {β:Emb} {h:Heap} {w w':World} (r:Rel β h w) {k n:Nat} {blk blk':Blk} {L:Loc} {ds ds':List Value} {ex:Nat} {sp:List Value} {fr:Nat × Nat}
  (hn:β n=none) (hk:hget h k=some blk) (hz:blk.sz ≠ 0) (hz':blk'.sz=blk.sz) (hL:β k=some L) (hd:w.heap[L.b]?=some (.cells ⟨ds ++ L.sp⟩ blk.elem fr)) (hf:fr.2 <= fr.1 \/ (ds ++ L.sp).length <= fr.1)
  (hlen:(ds' ++ sp).length=(ds ++ L.sp).length) (hc:VRs β blk'.cells ds') (he:blk'.elem=blk.elem) (hs:sp.length=ex * blk'.sz) (hx:blk'.x=true -> ex=0)
  (hw:w'=put w L.b (.cells ⟨ds' ++ sp⟩ blk.elem fr)) :
  Rel (β.set n ⟨L.b,ex,sp⟩) ((n,some blk') :: (k,none) :: h) w' /\ Fr β h w (β.set n ⟨L.b,ex,sp⟩) ((n,some blk') :: (k,none) :: h) w':=by
 subst hw
 have le:=Emb.le_set (β:=β) (k:=n) ⟨L.b,ex,sp⟩ hn
 have hnone:=r.fresh hn
 have hkn:k ≠ n:=fun e=>by subst e;rw [hnone] at hk;cases hk
 have live':∀ j b,j ≠ n -> hget ((n,some blk') :: (k,none) :: h) j=some b -> hget h j=some b /\ j ≠ k:=fun j b e hj=>by
  rw [hget_cons_other _ _ (Ne.symm e)] at hj
  by_cases e2:k=j
  ·subst e2;rw [hget_cons_same] at hj;cases hj
  ·rw [hget_cons_other _ _ e2] at hj;exact ⟨hj,Ne.symm e2⟩
 have livene:∀ j,j ≠ n -> hget ((n,some blk') :: (k,none) :: h) j ≠ none -> hget h j ≠ none /\ j ≠ k:=fun j e hj=>by
  cases hh:hget ((n,some blk') :: (k,none) :: h) j with
  | none=>exact absurd hh hj
  | some b=>obtain ⟨a,c⟩:=live' j b e hh;exact ⟨by rw [a];simp,c⟩
 have livewr:∀ j,j ≠ n -> wr ((n,some blk') :: (k,none) :: h) j -> wr h j /\ j ≠ k:=fun j e ⟨b,h1,h2⟩=>by
  obtain ⟨a,c⟩:=live' j b e h1;exact ⟨⟨b,a,h2⟩,c⟩
 have size:(put w L.b (.cells ⟨ds' ++ sp⟩ blk.elem fr)).heap.size=w.heap.size:=by simp [put]
 refine ⟨⟨?_,?_,?_⟩,⟨le,by omega,rfl,rfl,?_,?_⟩⟩
 ·intro j b hj
  by_cases e:j=n
  ·subst e
   rw [hget_cons_same] at hj;cases hj
   exact ⟨_,ds',fr,Emb.set_same _ _ _,by rw [he];exact put_get hd,fun _=>by rw [hlen];exact hf,hc.mono le,hs,hx⟩
  ·obtain ⟨hj',hjk⟩:=live' j b e hj
   obtain ⟨M,dsj,frj,b1,b2,b3,b4,b5⟩:=r.live j b hj'
   refine ⟨M,dsj,frj,le _ _ b1,?_,b3,b4.mono le,b5⟩
   rw [put_get_other]
   ·exact b2
   ·intro hb
    exact hjk (r.inj j k M L (by rw [hj'];simp) ⟨blk,hk,hz⟩ b1 hL hb.symm)
 ·intro j j' M M' a a' b b' e
  by_cases h1:j=n
  ·by_cases h2:j'=n
   ·rw [h1,h2]
   ·obtain ⟨x1,x2⟩:=livewr j' h2 a'
    subst h1
    rw [Emb.set_same] at b;cases b
    rw [Emb.set_other _ _ h2] at b'
    exact absurd (r.inj k j' L M' (by rw [hk];simp) x1 hL b' e) (Ne.symm x2)
  ·obtain ⟨x1,x2⟩:=livene j h1 a
   rw [Emb.set_other _ _ h1] at b
   by_cases h2:j'=n
   ·subst h2
    rw [Emb.set_same] at b';cases b'
    exact absurd (r.inj j k M L x1 ⟨blk,hk,hz⟩ b hL e) x2
   ·obtain ⟨y1,y2⟩:=livewr j' h2 a'
    rw [Emb.set_other _ _ h2] at b'
    exact r.inj j j' M M' x1 y1 b b' e
 ·intro j M b
  rw [size]
  by_cases h1:j=n
  ·subst h1;rw [Emb.set_same] at b;cases b;have:=r.bnd _ _ hL;exact this
  ·rw [Emb.set_other _ _ h1] at b;exact r.bnd _ _ b
 ·intro b hb hno
  exact put_get_other (hno k L ⟨blk,hk,hz⟩ hL)
 ·intro j M a b _
  by_cases h1:j=n
  ·subst h1;rw [Emb.set_same] at b;cases b
   exact ⟨k,L,⟨blk,hk,hz⟩,hL,rfl⟩
  ·obtain ⟨bb,e1,e2⟩:=a
   obtain ⟨x1,x2⟩:=live' j bb h1 e1
   rw [Emb.set_other _ _ h1] at b
   exact ⟨j,M,⟨bb,x1,e2⟩,b,rfl⟩
theorem vs_app {E:Env} {ρ:Opd -> Value} {ρ':Operand -> Value} (hρ:∀ x y,trOpd x=some y -> VR β (ρ y) (ρ' x)) (rel:Rel β h w) {t u ty:TypeId} {s x:Operand} {i:IOp} {o:Out}
  (hn:∀ k,n <= k -> k < n+o.2.2 -> β k=none)
  (ht:trOp P (.call { callee:=.builtin .append,args:=#[s,x],argTypes:=#[t,u] })=some i) (hs:istep E ρ h n i=some o):VS P (Builtin.append_ #[t,u] ty #[ρ' s,ρ' x]) w β h n o:=by
 simp only [trOp] at ht
 split at ht
 ·rename_i s' x' e u' hs' hx' hu hu'
  have hvs:=hρ s s' hs'
  have hvx:=hρ x x' hx'
  split at ht
  ·rename_i sz bytes z hsz hb hz
   split at ht
   ·rename_i hcond
    obtain ⟨hzl,hz0,hb0⟩:=hcond
    cases ht
    simp only [istep] at hs
    split at hs
    ·rename_i sv xa xl xc hxv
     rw [hxv] at hvx
     split at hs
     ·cases hs
     ·rename_i src hsrc
      by_cases hx0:xl=0
      ·rw [if_pos hx0] at hs
       split at hs
       ·rename_i sa sl sc hsv
        rw [hsv] at hvs hs
        split at hs
        ·rename_i hlc
         cases hs
         obtain ⟨src',g1,g2,g3,g4⟩:=srcCells (P:=P) (sz:=sz) rel hvx rfl hsrc (.inl hx0)
         subst hx0
         have g5:=g4 rfl
         have fin:∀ (a:Option Addr) (c:Nat),sl <= c -> (a=none \/ (∃ b off,a=some ⟨b,off,none⟩) \/ sl=0) -> (Builtin.append_ #[t,u] ty #[.slice a sl c,ρ' x]).run P w = .ok (.slice a sl c) w:=by
          intro a c hc ha
          simp only [Builtin.append_,List.getElem?_toArray,List.getElem?_cons_zero,List.getElem?_cons_succ,Sem.run_bind,run_underlying hu,Result.andThen_ok,run_size hsz,run_underlying hu',Sem.run_pure,Bool.false_eq_true,if_false,g2,Nat.add_zero,hc]
          simp only [Bool.not_false,if_true,g5,Sem.run_bind,Result.andThen_ok]
          rcases ha with rfl | ⟨b,off,rfl⟩ | h0
          ·simp
          ·simp [storeCells]
          ·cases a <;> simp [storeCells]
         generalize ρ' s=sv' at hvs ⊢
         cases hvs with
         | base _ hb1=>
          cases sa with
          | none=>exact VS.pure rel (fin none sc hlc (.inl rfl)) (.base _ rfl)
          | some a=>simp [isBase] at hb1
         | sl k off len cap L hL=>exact VS.pure rel (fin _ _ (by omega) (.inr (.inl ⟨_,_,rfl⟩))) (.sl _ _ _ _ _ hL)
         | slz k off c L hL=>exact VS.pure rel (fin _ _ (by omega) (.inr (.inl ⟨_,_,rfl⟩))) (.slz _ _ _ _ hL)
         | sle a c=>exact VS.pure rel (fin _ _ (by omega) (.inr (.inr rfl))) (.sle a c)
        ·cases hs
       ·cases hs
      ·rw [if_neg hx0] at hs
       have shape:=srcShape (sz:=sz) rel hvx rfl hx0 hsrc
       split at hs
       ·
        rename_i hsv
        rw [hsv] at hvs
        split at hs
        ·rename_i hc
         cases hs
         obtain ⟨src',g1,g2,g3,g4⟩:=srcCells (P:=P) (sz:=sz) rel hvx rfl hsrc (.inr hc.2)
         have g5:=g3 hx0
         have hv0:=hvs.base_left rfl
         obtain ⟨w',r1,r2,r3,r4⟩:=app_grow (ty:=ty) (old:=[]) (sb:=none) (sLen:=0) (sCap:=0) hu hu' hsz hb hz hzl hz0 hb0 g2 (fun w' _=>by simp [Builtin.firstCells]) (fun w' e=>firstCells_heap e g5 shape) (by omega) (by simpa using hc.1)
         simp only [Nat.zero_add,List.nil_append] at r1 r2
         have hge:=newCap_ge w xl 0 e
         rw [hv0]
         refine VS.new (w':=w') (ds:=src') (sp:=(List.replicate (newCap w xl 0 e - xl) z).flatten) (ex:=newCap w xl 0 e - xl) (fr:=(0,0)) rel (hn n (Nat.le_refl _) (by simp)) ?_ g1 (by simp [hzl]) (fun h=>by cases h) (.inl (Nat.le_refl _)) r2 r3 r4
         intro L hLb hLx
         refine ⟨.slice (some ⟨L.b,0,none⟩) xl (xl+L.ex),?_,fun β' hβ => .sl _ _ _ _ _ hβ⟩
         rw [r1,hLb,hLx]
         congr 2
         omega
        ·cases hs
       ·
        rename_i k off len cap hsv
        rw [hsv] at hvs
        cases hk:hget h k with
        | none=>simp [hk] at hs
        | some blk=>
         simp only [hk,Option.bind_some] at hs
         split at hs
         ·rename_i hc
          obtain ⟨hc1,hc2,hc3,hc4,hc5⟩:=hc
          obtain ⟨L,hL,hv'⟩:=hvs.sl_left
          obtain ⟨src',g1,g2,g3,g4⟩:=srcCells (P:=P) (sz:=sz) rel hvx rfl hsrc (.inr hc2)
          have g5:=g3 hx0
          have gl:=g1.length
          obtain ⟨L',ds,fr,a1,a2,a3',a4,a5,a6⟩:=rel.live k blk hk
          have hzz:blk.sz ≠ 0:=by omega
          have a3:=a3' hzz
          rw [hL] at a1;cases a1
          have hlen:=a4.length
          have hok:src'.all okCell=true:=by rw [g1.okCells];exact hc5
          split at hs
          ·rename_i hroom
           cases hs
           rw [hv']
           have hmul:(len+xl) * sz=len * sz+xl * sz:=Nat.add_mul _ _ _
           have hrun:=app_room (ty:=ty) (sLen:=len) (sCap:=cap+L.ex) (off:=off) hu hu' hsz g2 g5 (by omega) a2 a3 hok (by simp;omega)
           rw [setR_append _ _ _ _ (by omega)] at hrun
           obtain ⟨q1,q2⟩:=rel.store (cells:=setR blk.cells (off+len * sz) src) hk hzz hL a2 a3 (by rw [setR_length]) (g1.setR a4 _) rfl
           exact ⟨_,_,β,hrun,.sl _ _ _ _ _ hL,q1,q2,fun k hk => .inl hk⟩
          ·split at hs
           ·rename_i hnr hg
            obtain ⟨rfl,rfl,hg3⟩:=hg
            cases hs
            rw [hv']
            have hnn:=hn n (Nat.le_refl _) (by simp)
            have hmul:(len+xl) * sz=len * sz+xl * sz:=Nat.add_mul _ _ _
            by_cases hin:len+xl <= len+L.ex
            ·
             have hspl:xl * sz <= L.sp.length:=by rw [a5,hc3];exact Nat.mul_le_mul_right _ (by omega)
             have hrun:=app_room (ty:=ty) (sLen:=len) (sCap:=len+L.ex) (off:=0) hu hu' hsz g2 g5 (by omega) a2 a3 hok (by simp;omega)
             have hset:setR (ds ++ L.sp) (0+len * sz) src'=(ds ++ src') ++ L.sp.drop (xl * sz):=by
              have:=setR_end src' ds L.sp (by omega)
              rw [show 0+len * sz=ds.length by omega,this]
              congr 2
              omega
             rw [hset] at hrun
             obtain ⟨q1,q2⟩:=rel.grow (n:=n) (blk':=⟨e,sz,false,blk.cells ++ src⟩) (ds':=ds ++ src') (ex:=L.ex - xl) (sp:=L.sp.drop (xl * sz)) hnn hk hzz hc3.symm hL a2 a3 (by simp;omega) (a4.append g1) hc4.symm
              (by simp only [List.length_drop,a5,hc3,Nat.sub_mul]) (fun h=>by cases h) rfl
             refine ⟨_,_,_,hrun,?_,q1,q2,fun j hj=>?_⟩
             ·have:len+L.ex=(len+xl)+(L.ex - xl):=by omega
              rw [this]
              exact .sl n 0 (len+xl) (len+xl) ⟨L.b,L.ex - xl,L.sp.drop (xl * sz)⟩ (Emb.set_same _ _ _)
             ·by_cases e:j=n
              ·exact .inr ⟨by omega,by simp;omega⟩
              ·rw [Emb.set_other _ _ e] at hj;exact .inl hj
            ·
             have hold:(Builtin.firstCells sz len (.slice (some ⟨L.b,0,none⟩) len (len+L.ex))).run P w = .ok ⟨ds⟩ w:=by
              have hload:=run_loadCells P a2 (off:=0) (n:=len * sz) (by simp;omega)
              rw [List.drop_zero,List.take_append_of_le_length (by omega),List.take_of_length_le (by omega)] at hload
              simpa [Builtin.firstCells] using hload
             obtain ⟨w',r1,r2,r3,r4⟩:=app_grow (ty:=ty) (old:=ds) (sb:=some ⟨L.b,0,none⟩) (sLen:=len) (sCap:=len+L.ex) hu hu' hsz hb hz hzl hz0 hb0 g2
              (fun w' e=>firstCells_heap e hold (.inr ⟨_,_,_,_,_,_,_,rfl,a2,by simp;omega⟩)) (fun w' e=>firstCells_heap e g5 shape) (by omega) hc1
             have hge:=newCap_ge w (len+xl) (len+L.ex) e
             obtain ⟨v',w1,β',p1,p2,p3,p4,p5⟩:=VS.new (P:=P) (s:=Builtin.append_ #[t,u] ty #[.slice (some ⟨L.b,0,none⟩) len (len+L.ex),ρ' x]) (v:=.slice (some ⟨n,0,none⟩) (len+xl) (len+xl)) (w':=w') (blk:=⟨e,sz,false,blk.cells ++ src⟩) (ds:=ds ++ src')
              (sp:=(List.replicate (newCap w (len+xl) (len+L.ex) e - (len+xl)) z).flatten) (ex:=newCap w (len+xl) (len+L.ex) e - (len+xl)) (fr:=(0,0)) rel hnn
              (fun L2 hLb hLx=>⟨.slice (some ⟨L2.b,0,none⟩) (len+xl) ((len+xl)+L2.ex),by rw [r1,hLb,hLx];congr 2;omega,fun β' hβ => .sl _ _ _ _ _ hβ⟩) (a4.append g1) (by simp [hzl]) (fun h=>by cases h) (.inl (Nat.le_refl _)) r2 r3 r4
             have less:∀ j b,hget ([(n,some (⟨e,sz,false,blk.cells ++ src⟩:Blk)),(k,none)] ++ h) j=some b -> hget ([(n,some (⟨e,sz,false,blk.cells ++ src⟩:Blk))] ++ h) j=some b:=by
              intro j b hj
              simp only [List.cons_append,List.nil_append] at hj ⊢
              by_cases e1:n=j
              ·subst e1;rw [hget_cons_same] at hj ⊢;exact hj
              ·rw [hget_cons_other _ _ e1] at hj ⊢
               by_cases e2:k=j
               ·subst e2;rw [hget_cons_same] at hj;cases hj
               ·rw [hget_cons_other _ _ e2] at hj;exact hj
             exact ⟨v',w1,β',p1,p2,p3.less less,p4.less less,p5⟩
           ·cases hs
         ·
          split at hs
          ·rename_i hc
           obtain ⟨hc1,rfl,hc3,hc4,hc5⟩:=hc
           cases hs
           obtain ⟨L,hL,hv'⟩:=hvs.sl_left
           obtain ⟨src',g1,g2,g3,g4⟩:=srcCells (P:=P) (sz:=sz) rel hvx rfl hsrc (.inr hc5)
           have g5:=g3 hx0
           have gl:=g1.length
           obtain ⟨L',ds,fr,a1,a2,a3',a4,a5,a6⟩:=rel.live k blk hk
           rw [hL] at a1;cases a1
           have hlen:=a4.length
           have hex:L.ex=0:=a6 hc1
           rw [hv',hex,Nat.add_zero]
           have hnn:=hn n (Nat.le_refl _) (by simp)
           have hmul:(len+xl) * sz=len * sz+xl * sz:=Nat.add_mul _ _ _
           have hold:(Builtin.firstCells sz len (.slice (some ⟨L.b,off,none⟩) len len)).run P w = .ok ⟨(ds.drop off).take (len * sz)⟩ w:=by
            have hload:=run_loadCells P a2 (off:=off) (n:=len * sz) (by simp;omega)
            rw [List.drop_append_of_le_length (by omega),List.take_append_of_le_length (by simp;omega)] at hload
            simpa [Builtin.firstCells] using hload
           obtain ⟨w',r1,r2,r3,r4⟩:=app_grow (ty:=ty) (old:=(ds.drop off).take (len * sz)) (sb:=some ⟨L.b,off,none⟩) (sLen:=len) (sCap:=len) hu hu' hsz hb hz hzl hz0 hb0 g2
            (fun w' e=>firstCells_heap e hold (.inr ⟨_,_,_,_,_,_,_,rfl,a2,by simp;omega⟩)) (fun w' e=>firstCells_heap e g5 shape) (by omega) hc4
           have hge:=newCap_ge w (len+xl) len e
           exact VS.new (P:=P) (s:=Builtin.append_ #[t,u] ty #[.slice (some ⟨L.b,off,none⟩) len len,ρ' x]) (v:=.slice (some ⟨n,0,none⟩) (len+xl) (len+xl)) (w':=w') (blk:=⟨e,sz,false,(blk.cells.drop off).take (len * sz) ++ src⟩) (ds:=(ds.drop off).take (len * sz) ++ src')
            (sp:=(List.replicate (newCap w (len+xl) len e - (len+xl)) z).flatten) (ex:=newCap w (len+xl) len e - (len+xl)) (fr:=(0,0)) rel hnn
            (fun L2 hLb hLx=>⟨.slice (some ⟨L2.b,0,none⟩) (len+xl) ((len+xl)+L2.ex),by rw [r1,hLb,hLx];congr 2;omega,fun β' hβ => .sl _ _ _ _ _ hβ⟩) (((a4.drop off).take _).append g1) (by simp [hzl]) (fun h=>by cases h) (.inl (Nat.le_refl _)) r2 r3 r4
          ·cases hs
       ·cases hs
    ·cases hs
   ·cases ht
  ·cases ht
 ·rename_i s' x' e ki hs' hx' hu hu'
  have hvs:=hρ s s' hs'
  have hvx:=hρ x x' hx'
  split at ht
  ·rename_i sz bytes z hsz hb hz
   split at ht
   ·rename_i hcond
    obtain ⟨hzl,hz0,hb0⟩:=hcond
    cases ht
    simp only [istep] at hs
    split at hs
    ·rename_i kx l hsv hxv
     rw [hsv] at hvs
     rw [hxv] at hvx
     split at hs
     ·rename_i hc
      cases hs
      have hv0:=hvs.base_left rfl
      have hv1:=hvx.int_left
      obtain ⟨w',r1,r2,r3,r4⟩:=app_z (P:=P) (w:=w) (ty:=ty) (k':=kx) hu hu' hsz hb hz hzl hz0 hb0 hc.1 hc.2
      have hge:=newCap_ge w l.toNat 0 e
      obtain ⟨zv,_,_,h3⟩:=zero_of hz
      rw [hv0,hv1]
      refine VS.new (w':=w') (ds:=(List.replicate l.toNat z).flatten) (sp:=(List.replicate (newCap w l.toNat 0 e - l.toNat) z).flatten) (ex:=newCap w l.toNat 0 e - l.toNat) (fr:=(0,0)) rel (hn n (Nat.le_refl _) (by simp)) ?_ ((VRs.of_base h3).flatten _) (by simp [hzl]) (fun h=>by cases h) (.inl (Nat.le_refl _)) r2 r3 r4
      intro L hLb hLx
      refine ⟨.slice (some ⟨L.b,0,none⟩) l.toNat (l.toNat+L.ex),?_,fun β' hβ => .sl _ _ _ _ _ hβ⟩
      rw [r1,hLb,hLx]
      congr 2
      omega
     ·cases hs
    ·cases hs
   ·cases ht
  ·cases ht
 ·cases ht
end
end Go.Eng
end
section
namespace Go.Eng
def CallOK (P:Program) (f:Nat) (args:List Value) (h:Heap) (n:Nat) (o:Out):Prop:=
 ∀ β w args',VRs β args args' -> Rel β h w -> (∀ k,n <= k -> k < n+o.2.2 -> β k=none) -> (∃ N,∀ k,β k ≠ none -> k < N) ->
  Calls P f ⟨args'⟩ w fun e w'=>∃ β' v',e = .returned v' /\ VR β' o.1 v' /\ Rel β' (o.2.1 ++ h) w' /\ Fr β h w β' (o.2.1 ++ h) w' /\ ∀ k,β' k ≠ none -> β k ≠ none \/ (n <= k /\ k < n+o.2.2)
def hle (h h':Heap):Prop:=∀ k b,hget h k=some b -> hget h' k=some b
structure EnvOK (P:Program) (E:Env):Prop where
 ok:∀ f args h n o,E f args h n=some o -> CallOK P f args h n o
 body:∀ f args h n o,E f args h n=some o -> hasBody P f=true
 mono:∀ f args h h' n o,hle h h' -> E f args h n=some o -> E f args h' n=some o
section
variable {P:Program} {β:Emb} {h:Heap} {n:Nat} {w:World}
def OWP (P:Program) (o:Oper) (ρ':Operand -> Value) (a:Act) (w:World) (K:Act -> World -> Prop) (Q:Exit -> Act -> World -> Prop):Prop:=
 o.upon P a K Q ((execOp ρ' o).run P w)
theorem wp_of_vs {o:Oper} {ρ':Operand -> Value} {a:Act} {s:Sem Value} {out:Out} {K:Act -> World -> Prop} {Q:Exit -> Act -> World -> Prop}
  (he:execOp ρ' o=(do pure (.value (<- s)))) (hv:VS P s w β h n out)
  (hK:∀ v' β' w',VR β' out.1 v' -> Rel β' (out.2.1 ++ h) w' -> Fr β h w β' (out.2.1 ++ h) w' -> (∀ k,β' k ≠ none -> β k ≠ none \/ (n <= k /\ k < n+out.2.2)) -> K (a.put o.dst v') w'):OWP P o ρ' a w K Q:=by
 obtain ⟨v',w',β',h1,h2,h3,h4,h5⟩:=hv
 unfold OWP
 rw [he]
 simp only [Sem.run_bind,h1,Result.andThen_ok,Sem.run_pure,Oper.upon]
 exact hK v' β' w' h2 h3 h4 h5
theorem trOpds_rel {ρ:Opd -> Value} {ρ':Operand -> Value} (hρ:∀ x y,trOpd x=some y -> VR β (ρ y) (ρ' x)):∀ {xs:List Operand} {ys:List Opd},trOpds xs=some ys -> VRs β (ys.map ρ) (xs.map ρ')
 | [],ys,e=>by simp [trOpds] at e;subst e;exact .nil
 | x :: xs,ys,e=>by
  unfold trOpds at e
  split at e
  ·rename_i y s h1 h2
   cases e
   exact .cons _ _ _ _ (hρ x y h1) (trOpds_rel hρ h2)
  ·cases e
theorem closed_vr {v:Value} (hc:closedV v=true):VR β v v:=by
 unfold closedV at hc
 cases hb:isBase v with
 | true=>exact .base _ hb
 | false=>
  rw [hb,Bool.false_or] at hc
  match v,hc with
  | .agg ⟨l⟩,hc=>exact .agg _ _ (VRs.of_base hc)
theorem wp_call {E:Env} (hE:EnvOK P E) (rel:Rel β h w) {o:Oper} {ρ':Operand -> Value} {a:Act} {f:Nat} {args args':List Value} {out:Out} {K:Act -> World -> Prop} {Q:Exit -> Act -> World -> Prop}
  (hrun:(execOp ρ' o).run P w = .ok (.enter f ⟨args'⟩) w) (hargs:VRs β args args') (hs:E f args h n=some out) (hn:∀ k,n <= k -> k < n+out.2.2 -> β k=none) (hN:∃ N,∀ k,β k ≠ none -> k < N)
  (hK:∀ v' β' w',VR β' out.1 v' -> Rel β' (out.2.1 ++ h) w' -> Fr β h w β' (out.2.1 ++ h) w' -> (∀ k,β' k ≠ none -> β k ≠ none \/ (n <= k /\ k < n+out.2.2)) -> K (a.put o.dst v') w'):OWP P o ρ' a w K Q:=by
 unfold OWP
 rw [hrun]
 simp only [Oper.upon]
 refine (hE.ok f args h n out hs β w args' hargs rel hn hN).mono ?_
 rintro e w' ⟨β',v',rfl,h2,h3,h4,h5⟩
 exact hK v' β' w' h2 h3 h4 h5
theorem run_callFunc {f:Nat} {args:Array Value} (hb:hasBody P f=true):(callFunc f args).run P w = .ok (.enter f args) w:=by
 unfold hasBody at hb
 cases hf:P.funcs[f]? with
 | none=>simp [hf] at hb
 | some fn=>
  simp only [hf,Bool.and_eq_true,Bool.not_eq_true'] at hb
  obtain ⟨h1,h2⟩:=hb
  have h3:fn.body.isNone=false:=by cases hbd:fn.body <;> simp_all
  simp only [callFunc,Sem.run_bind,run_program,Result.andThen_ok,hf]
  simp [h2,h3]
theorem not_tmp_bin {op:BinOp} {x y v:Value} (e:ibin op x y=some v):isBase x=true /\ isBase y=true /\ isBase v=true /\ (∀ cs,x ≠ .agg cs) /\ (x ≠ .nilIface):=by
 unfold ibin at e
 split at e
 ·refine ⟨rfl,rfl,?_,by simp,by simp⟩
  split at e
  ·split at e <;> simp at e;subst e;rfl
  ·split at e <;> simp at e;subst e;rfl
  ·split at e
   ·split at e <;> (try split at e) <;> simp at e <;> subst e <;> rfl
   ·cases e
 ·refine ⟨rfl,rfl,?_,by simp,by simp⟩
  split at e <;> (try split at e) <;> simp at e <;> subst e <;> rfl
 ·cases e
theorem run_equalIn_nils (w:World) (d:Nat) (t e:TypeId) (a:Option Addr) (n c n' c':Nat) (h:P.underlying t=some (.slice e)) :
  (Op.equalIn (d+1) t (.slice a n c) (.slice none n' c')).run P w = .ok a.isNone w:=by
 cases a <;> simp [Op.equalIn,run_underlying h]
theorem run_eql_nils (w:World) (t e:TypeId) (a:Option Addr) (n c n' c':Nat) (h:P.underlying t=some (.slice e)) :
  (binOp .eql t (.slice a n c) (.slice none n' c')).run P w = .ok (.bool a.isNone) w:=by
 simp only [binOp]
 simp [Op.equal,Op.maxDepth,run_equalIn_nils w 9999 t e a n c n' c' h]
theorem run_neq_nils (w:World) (t e:TypeId) (a:Option Addr) (n c n' c':Nat) (h:P.underlying t=some (.slice e)) :
  (binOp .neq t (.slice a n c) (.slice none n' c')).run P w = .ok (.bool (!a.isNone)) w:=by
 simp only [binOp]
 simp [Op.equal,Op.maxDepth,run_equalIn_nils w 9999 t e a n c n' c' h]
theorem run_eqGuard_plain {op:BinOp} {t:TypeId} {X Y:Operand} {x y:Value} (h1:∀ cs,x ≠ .agg cs) (h2:x ≠ .nilIface):(eqGuard op t X Y x y).run P w = .ok () w:=by
 unfold eqGuard
 cases op <;> simp
 all_goals (cases x <;> simp_all)
theorem vs_clr {t e:TypeId} {ty:TypeId} {z:List Value} {s v':Value} {out:Out} {E:Env} {ρ:Opd -> Value} {y:Opd} (rel:Rel β h w) (hu:P.underlying t=some (.slice e)) (hz:zeroOf P e=some z) (hz0:0 < z.length) (hv:VR β (ρ y) v')
  (hs:istep E ρ h n (.clr z y)=some out):VS P (Builtin.clear_ #[t] ty #[v']) w β h n out:=by
 obtain ⟨zv,z1,z2,z3⟩:=zero_of hz
 simp only [istep] at hs
 have nop:∀ (a:Option Addr) (l c:Nat),(a=none \/ l=0) -> v' = .slice a l c -> out=(undef,[],0) -> VS P (Builtin.clear_ #[t] ty #[v']) w β h n out:=by
  rintro a l c ha rfl rfl
  refine VS.pure rel (v':=undef) ?_ (.tup [] [] .nil)
  rcases ha with rfl | rfl
  ·simp [Builtin.clear_,run_underlying hu];rfl
  ·cases a <;> (simp [Builtin.clear_,run_underlying hu];rfl)
 split at hs
 ·rename_i l c hy
  cases hs;rw [hy] at hv
  exact nop none l c (.inl rfl) (hv.base_left rfl) rfl
 ·rename_i a c _ hy
  cases hs;rw [hy] at hv
  have:∃ a' c',v' = .slice a' 0 c':=by cases hv <;> exact ⟨_,_,rfl⟩
  obtain ⟨a',c',e'⟩:=this
  exact nop a' 0 c' (.inr rfl) e' rfl
 ·rename_i k off len c h0 hy
  rw [hy] at hv
  split at hs
  ·rename_i blk hk
   split at hs
   ·rename_i hc
    cases hs
    obtain ⟨L,hL,rfl⟩:=hv.sl_left
    obtain ⟨L',ds,fr,a1,a2,a3,a4,a5,a6⟩:=rel.live k blk hk
    rw [hL] at a1;cases a1
    have hlen:=a4.length
    have hl0:len ≠ 0:=h0
    have e0:(Builtin.zeroCells zv.cells len).toList=(List.replicate len z).flatten:=by rw [z2];exact zeroCells_eq z rfl hz0 len
    have vz:VRs β (List.replicate len z).flatten (List.replicate len z).flatten:=VRs.flatten (VRs.of_base z3) len
    have ok:(List.replicate len z).flatten.all okCell=true:=by
     rw [List.all_eq_true] at z3 ⊢
     intro x hx
     simp only [List.mem_flatten,List.mem_replicate] at hx
     obtain ⟨l,⟨_,rfl⟩,hx⟩:=hx
     have:=z3 x hx
     cases x <;> simp_all [isBase,okCell]
    have el:(List.replicate len z).flatten.length=len * z.length:=by simp
    have hst:=run_storeCells P (List.replicate len z).flatten w L.b off 0 (ds ++ L.sp) blk.elem fr a2 (a3 hc.1) ok (by rw [el];simp;omega)
    rw [Nat.add_zero,setR_append _ _ _ _ (by rw [el];omega)] at hst
    obtain ⟨q1,q2⟩:=rel.store (cells:=setR blk.cells off (List.replicate len z).flatten) hk hc.1 hL a2 (a3 hc.1) (by rw [setR_length]) (vz.setR a4 off) rfl
    refine ⟨undef,_,β,?_,.tup [] [] .nil,q1,q2,fun k hk => .inl hk⟩
    simp only [Builtin.clear_,List.getElem?_toArray,List.getElem?_cons_zero,Sem.run_bind,run_underlying hu,Result.andThen_ok]
    cases len with
    | zero=>exact absurd rfl hl0
    | succ len=>
     simp only [z1,Sem.run_bind,Result.andThen_ok,e0,hst,Sem.run_pure]
     rfl
   ·cases hs
  ·cases hs
 ·cases hs
theorem op_sound {E:Env} (hE:EnvOK P E) (rel:Rel β h w) {o:Oper} {ρ':Operand -> Value} {a:Act} {ρ:Opd -> Value} (hρ:∀ x y,trOpd x=some y -> VR β (ρ y) (ρ' x)) (hf:∀ f,ρ' (.func f) = .func (.func f) #[] #[]) {i:IOp} (ht:trOp P o.op=some i) {out:Out}
  (hs:istep E ρ h n i=some out) (hn:∀ k,n <= k -> k < n+out.2.2 -> β k=none) (hN:∃ N,∀ k,β k ≠ none -> k < N) {K:Act -> World -> Prop} {Q:Exit -> Act -> World -> Prop}
  (hK:∀ v' β' w',VR β' out.1 v' -> Rel β' (out.2.1 ++ h) w' -> Fr β h w β' (out.2.1 ++ h) w' -> (∀ k,β' k ≠ none -> β k ≠ none \/ (n <= k /\ k < n+out.2.2)) -> K (a.put o.dst v') w'):OWP P o ρ' a w K Q:=by
 obtain ⟨dst,op,type,pos,after,guard⟩:=o
 simp only at ht hK
 have pureV:∀ {v v':Value},execOp ρ' ⟨dst,op,type,pos,after,guard⟩=Pure.pure (.value v') -> VR β v v' -> out=(v,[],0) -> OWP P ⟨dst,op,type,pos,after,guard⟩ ρ' a w K Q:=by
  intro v v' he hv ho
  subst ho
  unfold OWP
  rw [he]
  simp only [Sem.run_pure,Oper.upon]
  exact hK v' β w hv rel (Fr.refl _ _ _) (fun k hk => .inl hk)
 cases op
 case move x=>
  simp only [trOp] at ht
  cases hx:trOpd x with
  | none=>simp [hx] at ht
  | some y=>simp [hx] at ht;subst ht;simp [istep] at hs;exact pureV rfl (hρ x y hx) hs.symm
 case assign x=>
  simp only [trOp] at ht
  cases hx:trOpd x with
  | none=>simp [hx] at ht
  | some y=>simp [hx] at ht;subst ht;simp [istep] at hs;exact pureV rfl (hρ x y hx) hs.symm
 case pick c x y=>
  simp only [trOp] at ht
  split at ht
  ·rename_i c' x' y' hc hx hy
   cases ht
   simp only [istep] at hs
   split at hs
   ·rename_i t hcv
    cases hs
    have hcc:=hρ c c' hc
    rw [hcv] at hcc
    refine wp_of_vs (s:=do pure (if <- asBool (ρ' c) then ρ' x else ρ' y)) (out:=(if t then ρ x' else ρ y',[],0)) (by simp [execOp]) ?_ hK
    refine VS.pure rel (v':=if t then ρ' x else ρ' y) (by simp [hcc.bool_left,asBool]) ?_
    cases t
    ·exact hρ y y' hy
    ·exact hρ x x' hx
   ·cases hs
  ·cases ht
 case alloc e=>
  simp only [trOp] at ht
  split at ht
  ·rename_i sz z hsz hz
   cases ht
   simp only [istep,Option.some.injEq] at hs;subst hs
   exact wp_of_vs rfl (vs_alloc rel (hn n (Nat.le_refl _) (by simp)) hz) hK
  ·cases ht
 case box e x=>
  simp only [trOp] at ht
  split at ht
  ·rename_i sz y hsz hx
   cases ht
   simp only [istep,Option.some.injEq] at hs;subst hs
   exact wp_of_vs rfl (vs_box rel (hn n (Nat.le_refl _) (by simp)) (hρ x y hx)) hK
  ·cases ht
 case build t ps=>
  have ht0:=ht
  simp only [trOp] at ht
  have:∃ z qs,i = .build z qs:=by
   split at ht
   ·split at ht
    ·rw [Option.map_eq_some_iff] at ht
     obtain ⟨q,hq,e⟩:=ht
     exact ⟨_,_,e.symm⟩
    ·cases ht
   ·split at ht
    ·rw [Option.map_eq_some_iff] at ht
     obtain ⟨q,hq,e⟩:=ht
     exact ⟨_,_,e.symm⟩
    ·cases ht
   ·cases ht
  obtain ⟨z,qs,rfl⟩:=this
  simp only [istep] at hs
  cases hf:fillI ρ z qs with
  | none=>simp [hf] at hs
  | some cs=>
   simp [hf] at hs;subst hs
   exact wp_of_vs rfl (vs_build hρ rel ht0 hf) hK
 case buildSlice t len ps=>
  have ht0:=ht
  simp only [trOp] at ht
  have:∃ e sz z qs,i = .bslice e sz len z qs:=by
   split at ht
   ·split at ht
    ·split at ht
     ·rw [Option.map_eq_some_iff] at ht
      obtain ⟨q,hq,e⟩:=ht
      exact ⟨_,_,_,_,e.symm⟩
     ·cases ht
    ·cases ht
   ·cases ht
  obtain ⟨e,sz,z,qs,rfl⟩:=this
  simp only [istep] at hs
  cases hf:fillI ρ z qs with
  | none=>simp [hf] at hs
  | some cs=>
   simp [hf] at hs;subst hs
   exact wp_of_vs rfl (vs_bslice hρ rel (hn n (Nat.le_refl _) (by simp)) ht0 hf) hK
 case load t x=>
  simp only [trOp] at ht
  split at ht
  ·rename_i g sz y hg hsz hx
   cases ht
   have hv:=hρ x y hx
   simp only [istep] at hs
   split at hs
   ·rename_i k off hy
    rw [hy] at hv
    split at hs
    ·rename_i blk hk
     exact wp_of_vs rfl (vs_load rel hg hsz hv hk hs) hK
    ·cases hs
   ·cases hs
  ·cases ht
 case store t x y=>
  simp only [trOp] at ht
  split at ht
  ·rename_i sz x' y' hsz hx hy
   cases ht
   have hv:=hρ x x' hx
   have hv2:=hρ y y' hy
   simp only [istep] at hs
   split at hs
   ·rename_i k off hxv
    rw [hxv] at hv
    split at hs
    ·rename_i blk hk
     split at hs
     ·rename_i hc
      cases hs
      obtain ⟨w',h1,h2,h3⟩:=vs_store rel hsz hv hv2 hk hc.1 hc.2.1 hc.2.2.1 hc.2.2.2
      unfold OWP
      have he:execOp ρ' ⟨dst,.store t x y,type,pos,after,guard⟩=(do Instr.storeAt t (ρ' x) (ρ' y);Pure.pure Next.skip):=rfl
      rw [he]
      simp only [Sem.run_bind,h1,Result.andThen_ok,Sem.run_pure,Oper.upon]
      exact hK undef β w' (.tup [] [] .nil) h2 h3 (fun k hk => .inl hk)
     ·cases hs
    ·cases hs
   ·cases hs
  ·cases ht
 case nilCheck x=>
  simp only [trOp] at ht
  cases hx:trOpd x with
  | none=>simp [hx] at ht
  | some y=>
   simp [hx] at ht;subst ht
   have hv:=hρ x y hx
   simp only [istep] at hs
   split at hs
   ·rename_i ad hy
    cases hs
    rw [hy] at hv
    cases hax:ρ' x with
    | pointer p=>
     rw [hax] at hv
     cases p with
     | none=>cases hv
     | some q=>exact pureV (v':=.pointer (some q)) (by simp [execOp,hax]) hv rfl
    | _=>rw [hax] at hv;cases hv
   ·rename_i f xs cs hy
    cases hs
    rw [hy] at hv
    obtain ⟨xs⟩:=xs
    obtain ⟨cs⟩:=cs
    cases hax:ρ' x with
    | func fn xs' cs'=>
     rw [hax] at hv
     cases hv with
     | base _ hb=>simp [isBase] at hb
     | fn _ _ xs2 _ cs2 q1 q2=>exact pureV (v':=.func (.func f) ⟨xs2⟩ ⟨cs2⟩) (by simp [execOp,hax]) (.fn _ _ _ _ _ q1 q2) rfl
    | _=>rw [hax] at hv;cases hv
   ·cases hs
 case binOp op t x y yt=>
  simp only [trOp] at ht
  split at ht
  ·rename_i x' y' hx hy
   have hv:=hρ x x' hx
   have hv2:=hρ y y' hy
   have plain:i = .bin op x' y' -> OWP P ⟨dst,.binOp op t x y yt,type,pos,after,guard⟩ ρ' a w K Q:=by
    rintro rfl
    simp only [istep] at hs
    cases hb:ibin op (ρ x') (ρ y') with
    | none=>simp [hb] at hs
    | some v=>
     simp [hb] at hs;subst hs
     obtain ⟨b1,b2,b3,b4,b5⟩:=not_tmp_bin hb
     have e1:=hv.base_left b1
     have e2:=hv2.base_left b2
     refine wp_of_vs (s:=do eqGuard op t x y (ρ' x) (ρ' y);binOp op t (ρ' x) (ρ' y)) rfl (VS.pure rel (v':=v) ?_ (.base _ b3)) hK
     rw [e1,e2]
     simp only [Sem.run_bind,run_eqGuard_plain b4 b5,Result.andThen_ok]
     exact vs_bin hb b1 b2
   have agg:tyAgg P t=some true -> (if P.eqGuardType P.depth t then none else
     match flatTy P 20 t,op with | some ks,.eql=>some (IOp.eqa false ks x' y') | some ks,.neq=>some (IOp.eqa true ks x' y') | _,_=>none)=some i -> OWP P ⟨dst,.binOp op t x y yt,type,pos,after,guard⟩ ρ' a w K Q:=by
    intro hta ht
    split at ht
    ·cases ht
    ·rename_i hg
     have go:∀ (neg:Bool) (ks:List Kd),(op = .eql /\ neg=false \/ op = .neq /\ neg=true) -> flatTy P 20 t=some ks -> i = .eqa neg ks x' y' -> OWP P ⟨dst,.binOp op t x y yt,type,pos,after,guard⟩ ρ' a w K Q:=by
      rintro neg ks hop hk rfl
      simp only [istep] at hs
      split at hs
      ·rename_i p q hp hq
       cases hc:ceq ks p q with
       | none=>simp [hc] at hs
       | some r=>
        simp [hc] at hs;subst hs
        rw [hp] at hv;rw [hq] at hv2
        have:=vs_eqa (n:=n) (X:=x) (Y:=y) rel hop hta (by simpa using hg) hk hv hv2 hc
        exact wp_of_vs (s:=do eqGuard op t x y (ρ' x) (ρ' y);binOp op t (ρ' x) (ρ' y)) rfl (by cases neg <;> simpa using this) hK
      ·cases hs
     split at ht
     ·exact go false _ (.inl ⟨rfl,rfl⟩) (by assumption) (by simpa using ht.symm)
     ·exact go true _ (.inr ⟨rfl,rfl⟩) (by assumption) (by simpa using ht.symm)
     ·cases ht
   split at ht
   ·exact plain (by simpa using ht.symm)
   ·exact plain (by simpa using ht.symm)
   ·
    rename_i hu
    have go:∀ neg:Bool,(op = .eql /\ neg=false \/ op = .neq /\ neg=true) -> i = .eqb neg x' y' -> OWP P ⟨dst,.binOp op t x y yt,type,pos,after,guard⟩ ρ' a w K Q:=by
     rintro neg hop rfl
     simp only [istep] at hs
     split at hs
     ·rename_i p q hp hq
      cases hs
      rw [hp] at hv;rw [hq] at hv2
      refine wp_of_vs (s:=do eqGuard op t x y (ρ' x) (ρ' y);binOp op t (ρ' x) (ρ' y)) rfl (VS.pure rel (v':=.bool (if neg then decide (p ≠ q) else decide (p=q))) ?_ (.base _ rfl)) hK
      rw [hv.bool_left,hv2.bool_left]
      simp only [Sem.run_bind,run_eqGuard_plain (x:=.bool p) (by simp) (by simp),Result.andThen_ok]
      rcases hop with ⟨rfl,rfl⟩ | ⟨rfl,rfl⟩
      ·rw [run_eql_bool w t p q hu];cases p <;> cases q <;> rfl
      ·rw [run_neq_bool w t p q hu];cases p <;> cases q <;> rfl
     ·cases hs
    cases op <;> simp at ht
    ·exact go false (.inl ⟨rfl,rfl⟩) ht.symm
    ·exact go true (.inr ⟨rfl,rfl⟩) ht.symm
   ·
    rename_i e hu
    have go:∀ neg:Bool,(op = .eql /\ neg=false \/ op = .neq /\ neg=true) -> i = .nils neg x' y' -> OWP P ⟨dst,.binOp op t x y yt,type,pos,after,guard⟩ ρ' a w K Q:=by
     rintro neg hop rfl
     have fin:∀ (o:Option Addr) (l c l' c':Nat),ρ' x = .slice o l c -> ρ' y = .slice none l' c' -> out=(.bool (if neg then !o.isNone else o.isNone),[],0) -> OWP P ⟨dst,.binOp op t x y yt,type,pos,after,guard⟩ ρ' a w K Q:=by
      rintro o l c l' c' ex ey rfl
      refine wp_of_vs (s:=do eqGuard op t x y (ρ' x) (ρ' y);binOp op t (ρ' x) (ρ' y)) rfl (VS.pure rel (v':=.bool (if neg then !o.isNone else o.isNone)) ?_ (.base _ rfl)) hK
      rw [ex,ey]
      simp only [Sem.run_bind,run_eqGuard_plain (x:=.slice o l c) (by simp) (by simp),Result.andThen_ok]
      rcases hop with ⟨rfl,rfl⟩ | ⟨rfl,rfl⟩
      ·rw [run_eql_nils w t e o l c l' c' hu];rfl
      ·rw [run_neq_nils w t e o l c l' c' hu];rfl
     simp only [istep] at hs
     split at hs
     ·rename_i l c l' c' hp hq
      cases hs
      rw [hp] at hv;rw [hq] at hv2
      exact fin none l c l' c' (hv.base_left rfl) (hv2.base_left rfl) (by cases neg <;> rfl)
     ·rename_i o l c l' c' hp hq
      cases hs
      rw [hp] at hv;rw [hq] at hv2
      have ey:=hv2.base_left rfl
      cases hax:ρ' x with
      | slice o' k' d'=>
       cases o' with
       | none=>rw [hax] at hv;cases hv
       | some o'=>exact fin (some o') _ _ _ _ hax ey (by cases neg <;> rfl)
      | _=>rw [hax] at hv;cases hv
     ·cases hs
    cases op <;> simp at ht
    ·exact go false (.inl ⟨rfl,rfl⟩) ht.symm
    ·exact go true (.inr ⟨rfl,rfl⟩) ht.symm
   ·rename_i fs hu
    exact agg (by simp [tyAgg,hu]) ht
   ·rename_i len e hu
    exact agg (by simp [tyAgg,hu]) ht
   ·cases ht
  ·cases ht
 case unOp op t x=>
  simp only [trOp] at ht
  cases hx:trOpd x with
  | none=>simp [hx] at ht
  | some y=>
   simp [hx] at ht;subst ht
   have hv:=hρ x y hx
   simp only [istep] at hs
   split at hs
   ·rename_i b hy
    cases hs;rw [hy] at hv
    refine wp_of_vs (s:=Op.unary .not (ρ' x)) rfl (VS.pure rel (v':=.bool (!b)) ?_ (.base _ rfl)) hK
    rw [hv.bool_left];simp [Op.unary]
   ·rename_i k q hy
    cases hs;rw [hy] at hv
    refine wp_of_vs (s:=Op.unary .neg (ρ' x)) rfl (VS.pure rel (v':=.int k (k.wrap (0 - q))) ?_ (.base _ rfl)) hK
    rw [hv.int_left];simp [Op.unary,Op.intArith]
   ·rename_i k q hy
    cases hs;rw [hy] at hv
    refine wp_of_vs (s:=Op.unary .xor (ρ' x)) rfl (VS.pure rel (v':=_) ?_ (.base _ rfl)) hK
    rw [hv.int_left];simp [Op.unary,Op.intBits]
   ·cases hs
 case convert s d x=>
  simp only [trOp] at ht
  split at ht
  ·rename_i k0 k y hus hud hx
   cases ht
   have hv:=hρ x y hx
   simp only [istep] at hs
   split at hs
   ·rename_i k1 q hy
    cases hs;rw [hy] at hv
    refine wp_of_vs (s:=convert s d (ρ' x)) rfl (VS.pure rel (v':=.int k (k.wrap q)) ?_ (.base _ rfl)) hK
    rw [hv.int_left]
    simp [convert,run_underlying hus,run_underlying hud,Conv.intToInt]
   ·cases hs
  ·rename_i e y hus hud hx
   split at ht
   ·rename_i he
    split at ht
    ·cases ht
     have hv:=hρ x y hx
     simp only [istep] at hs
     have hconv:∀ v:Value,(∃ c l q,v = .slice q l c) -> (convert s d v).run P w=(Conv.bytesToString v).run P w:=by
      rintro v ⟨c,l,q,rfl⟩
      simp [convert,run_underlying hus,run_underlying hud,run_underlying he]
     split at hs
     ·rename_i l c hy
      cases hs;rw [hy] at hv
      refine wp_of_vs (s:=convert s d (ρ' x)) rfl (VS.pure rel (v':=.string .empty) ?_ (.base _ rfl)) hK
      rw [hv.base_left rfl,hconv _ ⟨_,_,_,rfl⟩]
      simp [Conv.bytesToString]
     ·rename_i k off len cap hy
      rw [hy] at hv
      split at hs
      ·rename_i blk hk
       split at hs
       ·rename_i hl
        cases hb:byteList ((blk.cells.drop off).take len) with
        | none=>simp [hb] at hs
        | some bs=>
         simp [hb] at hs;subst hs
         obtain ⟨L,hL,hv'⟩:=hv.sl_left
         obtain ⟨v',w',β',q1,q2⟩:=vs_b2s (P:=P) (n:=n) rel hv hk hl hb
         exact wp_of_vs (s:=convert s d (ρ' x)) rfl ⟨v',w',β',by rw [hconv _ ⟨_,_,_,hv'⟩];exact q1,q2⟩ hK
       ·cases hs
      ·cases hs
     ·cases hs
    ·cases ht
   ·cases ht
  ·cases ht
 case makeFunc fn first cap=>
  cases fn <;> simp only [trOp,reduceCtorEq] at ht
  rename_i f
  split at ht
  ·rename_i hf
   cases hc:trOpds cap.toList with
   | none=>simp [hc] at ht
   | some cs=>
    simp [hc] at ht;subst ht
    simp only [istep,Option.some.injEq] at hs
    have hfe:first=#[]:=by simpa using hf
    subst hfe
    refine pureV (v:=.func (.func f) #[] ⟨cs.map ρ⟩) (v':=.func (.func f) #[] ⟨cap.toList.map ρ'⟩) ?_ (.fn _ _ _ _ _ .nil (trOpds_rel hρ hc)) hs.symm
    have e:cap.map ρ'=⟨cap.toList.map ρ'⟩:=by cases cap;simp
    simp [execOp,Instr.makeFunc,e]
  ·cases ht
 case makeSlice t l c=>
  simp only [trOp] at ht
  split at ht
  ·rename_i e l' c' hu hl hc
   split at ht
   ·rename_i sz bytes z hsz hb hz
    split at ht
    ·rename_i hcond
     cases ht
     have hv:=hρ l l' hl
     have hv2:=hρ c c' hc
     simp only [istep] at hs
     split at hs
     ·rename_i k li k' ci h1 h2
      split at hs
      ·rename_i hcc
       cases hs
       rw [h1] at hv;rw [h2] at hv2
       have:=vs_mkslice (P:=P) (k:=k) (k':=k') rel (hn n (Nat.le_refl _) (by simp)) hu hsz hb hz hcond.1 hcond.2 hcc
       rw [<- hv.int_left,<- hv2.int_left] at this
       exact wp_of_vs rfl this hK
      ·cases hs
     ·cases hs
    ·cases ht
   ·cases ht
  ·cases ht
 case slice t x lo hi mx=>
  cases mx with
  | some m=>simp [trOp] at ht
  | none=>exact wp_of_vs rfl (vs_slice hρ rel ht hs) hK
 case fieldAddr t x j=>
  simp only [trOp] at ht
  split at ht
  ·rename_i fs y hu hx
   split at ht
   ·rename_i f hf
    split at ht
    ·rename_i sz hsz
     split at ht
     ·cases ht
     ·rename_i hs0
      cases ht
      have hv:=hρ x y hx
      simp only [istep] at hs
      split at hs
      ·rename_i k off hy
       cases hs;rw [hy] at hv
       obtain ⟨L,hL,hv'⟩:=hv.ptr_left
       refine wp_of_vs (s:=Instr.fieldAt t (ρ' x) j) rfl (VS.pure rel (v':=.pointer (some ⟨L.b,off+f.offset,none⟩)) ?_ (.ptr _ _ _ hL)) hK
       rw [hv']
       simp only [Instr.fieldAt,Sem.run_bind,run_underlying hu,Result.andThen_ok,hf,Instr.sureAddr,Sem.run_pure,fieldPlace,run_size hsz,hs0,if_false,add_none]
      ·cases hs
    ·cases ht
   ·cases ht
  ·cases ht
 case field t x j=>
  simp only [trOp] at ht
  split at ht
  ·rename_i fs y hu hx
   split at ht
   ·rename_i f hf
    split at ht
    ·rename_i g sz hg hsz
     cases ht
     have hv:=hρ x y hx
     simp only [istep] at hs
     split at hs
     ·rename_i cs hy
      rw [hy] at hv
      obtain ⟨ds,hd,hv'⟩:=hv.agg_left
      refine wp_of_vs (s:=Instr.field t (ρ' x) j) rfl ?_ hK
      rw [hv']
      cases g with
      | true=>
       simp at hs;subst hs
       refine VS.pure rel (v':=.agg ⟨(ds.drop f.offset).take sz⟩) ?_ (.agg _ _ ((hd.drop _).take _))
       simp only [Instr.field,Sem.run_bind,run_underlying hu,Result.andThen_ok,hf,asAgg,Sem.run_pure,part,run_agg hg,if_true,run_size hsz,extract_eq]
      | false=>
       simp only [Bool.false_eq_true,if_false] at hs
       cases hc:cs[f.offset]? with
       | none=>simp [hc] at hs
       | some u=>
        simp [hc] at hs;subst hs
        obtain ⟨u',b1,b2⟩:=hd.get hc
        refine VS.pure rel (v':=u') ?_ b2
        simp only [Instr.field,Sem.run_bind,run_underlying hu,Result.andThen_ok,hf,asAgg,Sem.run_pure,part,run_agg hg,Bool.false_eq_true,if_false,List.getElem?_toArray,b1]
     ·cases hs
    ·cases ht
   ·cases ht
  ·cases ht
 case indexAddr t x j=>
  simp only [trOp] at ht
  split at ht
  ·rename_i len e y jj hu hx hj
   cases hsz:szOf P e with
   | none=>simp [hsz] at ht
   | some sz=>
    simp [hsz] at ht;subst ht
    have hv:=hρ x y hx
    have hv2:=hρ j jj hj
    simp only [istep] at hs
    split at hs
    ·rename_i k o kk q hy hq
     split at hs
     ·rename_i hr
      cases hs
      rw [hy] at hv;rw [hq] at hv2
      obtain ⟨L,hL,hv'⟩:=hv.ptr_left
      refine wp_of_vs (s:=Instr.indexAt t (ρ' x) (ρ' j)) rfl (VS.pure rel (v':=.pointer (some ⟨L.b,o+q.toNat * sz,none⟩)) ?_ (.ptr _ _ _ hL)) hK
      rw [hv',hv2.int_left]
      simp only [Instr.indexAt,Sem.run_bind,asIntOf,Sem.run_pure,Result.andThen_ok,run_underlying hu,Instr.sureAddr]
      simp [hr,run_size hsz,add_none]
     ·cases hs
    ·cases hs
  ·rename_i e y jj hu hx hj
   cases hsz:szOf P e with
   | none=>simp [hsz] at ht
   | some sz=>
    simp [hsz] at ht;subst ht
    have hv:=hρ x y hx
    have hv2:=hρ j jj hj
    simp only [istep] at hs
    split at hs
    ·rename_i k o len cap kk q hy hq
     split at hs
     ·rename_i hr
      cases hs
      rw [hy] at hv;rw [hq] at hv2
      obtain ⟨L,hL,hv'⟩:=hv.sl_left
      refine wp_of_vs (s:=Instr.indexAt t (ρ' x) (ρ' j)) rfl (VS.pure rel (v':=.pointer (some ⟨L.b,o+q.toNat * sz,none⟩)) ?_ (.ptr _ _ _ hL)) hK
      rw [hv',hv2.int_left]
      simp only [Instr.indexAt,Sem.run_bind,asIntOf,Sem.run_pure,Result.andThen_ok,run_underlying hu]
      simp [hr,run_size hsz,add_none]
     ·cases hs
    ·cases hs
  ·cases ht
 case index t x j=>
  simp only [trOp] at ht
  split at ht
  ·rename_i len e y jj hu hx hj
   split at ht
   ·rename_i g sz hg hsz
    cases ht
    have hv:=hρ x y hx
    have hv2:=hρ j jj hj
    simp only [istep] at hs
    split at hs
    ·rename_i cs kk q hy hq
     rw [hy] at hv;rw [hq] at hv2
     obtain ⟨ds,hd,hv'⟩:=hv.agg_left
     split at hs
     ·rename_i hr
      refine wp_of_vs (s:=Instr.index t (ρ' x) (ρ' j)) rfl ?_ hK
      rw [hv',hv2.int_left]
      cases g with
      | true=>
       simp at hs;subst hs
       refine VS.pure rel (v':=.agg ⟨(ds.drop (q.toNat * sz)).take sz⟩) ?_ (.agg _ _ ((hd.drop _).take _))
       simp only [Instr.index,Sem.run_bind,asIntOf,Sem.run_pure,Result.andThen_ok,run_underlying hu]
       simp [hr,run_size hsz,part,run_agg hg,List.extract_eq_take_drop]
      | false=>
       simp only [Bool.false_eq_true,if_false] at hs
       cases hc:cs[q.toNat * sz]? with
       | none=>simp [hc] at hs
       | some u=>
        simp [hc] at hs;subst hs
        obtain ⟨u',b1,b2⟩:=hd.get hc
        refine VS.pure rel (v':=u') ?_ b2
        simp only [Instr.index,Sem.run_bind,asIntOf,Sem.run_pure,Result.andThen_ok,run_underlying hu]
        simp [hr,run_size hsz,part,run_agg hg,b1]
     ·cases hs
    ·cases hs
   ·cases ht
  ·rename_i y jj hu hx hj
   cases ht
   have hv:=hρ x y hx
   have hv2:=hρ j jj hj
   simp only [istep] at hs
   split at hs
   ·rename_i s kk q hy hq
    rw [hy] at hv;rw [hq] at hv2
    split at hs
    ·rename_i hr
     cases hc:s[q.toNat]? with
     | none=>simp [hc] at hs
     | some b=>
      simp [hc] at hs;subst hs
      refine wp_of_vs (s:=Instr.index t (ρ' x) (ρ' j)) rfl (VS.pure rel (v':=.int .u8 b.toNat) ?_ (.base _ rfl)) hK
      rw [hv.string_left,hv2.int_left]
      simp only [Instr.index,Sem.run_bind,asIntOf,Sem.run_pure,Result.andThen_ok,run_underlying hu,hr,if_true,hc]
    ·cases hs
   ·cases hs
  ·cases ht
 case extract x j=>
  simp only [trOp] at ht
  cases hx:trOpd x with
  | none=>simp [hx] at ht
  | some y=>
   simp [hx] at ht;subst ht
   have hv:=hρ x y hx
   simp only [istep] at hs
   split at hs
   ·rename_i vs hy
    rw [hy] at hv
    obtain ⟨ds,hd,hv'⟩:=hv.tup_left
    cases hc:vs[j]? with
    | none=>simp [hc] at hs
    | some u=>
     simp [hc] at hs;subst hs
     obtain ⟨u',b1,b2⟩:=hd.get hc
     refine wp_of_vs (s:=Instr.extract (ρ' x) j) rfl (VS.pure rel (v':=u') ?_ b2) hK
     rw [hv']
     simp [Instr.extract,b1]
   ·cases hs
 case call c=>
  obtain ⟨callee,args,argTypes⟩:=c
  obtain ⟨args⟩:=args
  obtain ⟨argTypes⟩:=argTypes
  cases callee with
  | invoke r m=>simp [trOp] at ht
  | value fv=>
   have dyn:∀ y as,trOpd fv=some y -> trOpds args=some as -> i = .callv y as -> OWP P ⟨dst,.call ⟨.value fv,⟨args⟩,⟨argTypes⟩⟩,type,pos,after,guard⟩ ρ' a w K Q:=by
    rintro y as hx has rfl
    have hv:=hρ fv y hx
    simp only [istep,callF] at hs
    split at hs
    ·rename_i f xs cs hy
     rw [hy] at hv
     have:∃ xs' cs',VRs β xs xs' /\ VRs β cs cs' /\ ρ' fv = .func (.func f) ⟨xs'⟩ ⟨cs'⟩:=by
      cases hv2:ρ' fv <;> rw [hv2] at hv <;> cases hv
      case func.base _ hb=>simp [isBase] at hb
      case func.fn xs' cs' q1 q2=>exact ⟨_,_,q1,q2,rfl⟩
     obtain ⟨xs',cs',q1,q2,hv'⟩:=this
     have hbody:=hE.body f _ h n out hs
     refine wp_call hE rel (f:=f) (args':=xs' ++ args.map ρ' ++ cs') ?_ ((q1.append (trOpds_rel hρ has)).append q2) hs hn hN hK
     simp only [execOp,resolve,Sem.run_bind,Deferred.ofValue,hv',Sem.run_pure,Result.andThen_ok,invoke]
     rw [run_callFunc hbody]
     simp
    ·cases hs
   cases fv with
   | func f=>
    simp only [trOp] at ht
    split at ht
    ·rename_i hb
     cases has:trOpds args with
     | none=>simp [has] at ht
     | some as=>
      simp [has] at ht;subst ht
      simp only [istep] at hs
      refine wp_call hE rel (f:=f) (args':=args.map ρ') ?_ (trOpds_rel hρ has) hs hn hN hK
      simp only [execOp,resolve,Sem.run_bind,hf,Deferred.ofValue,Sem.run_pure,Result.andThen_ok,invoke]
      rw [run_callFunc hb]
      simp
    ·cases ht
   | tmp q=>
    simp only [trOp] at ht
    split at ht
    ·rename_i y as h1 h2
     exact dyn y as h1 h2 (by simpa using ht.symm)
    ·cases ht
   | const q=>
    simp only [trOp] at ht
    split at ht
    ·rename_i y as h1 h2
     exact dyn y as h1 h2 (by simpa using ht.symm)
    ·cases ht
   | global q=>
    simp only [trOp,trOpd] at ht
    cases ht
  | builtin b=>
   cases b <;> simp only [trOp,reduceCtorEq] at ht
   case append=>
    have ht0:=ht
    split at ht
    ·rename_i _ _ s x t u
     have:=vs_app (ty:=type) hρ rel hn (by simpa [trOp] using ht0) hs
     refine wp_of_vs (s:=Builtin.append_ #[t,u] type #[ρ' s,ρ' x]) ?_ this hK
     simp [execOp,resolve,invoke,builtin]
    ·cases ht
   case len=>
    split at ht
    ·rename_i _ _ x t
     split at ht
     ·rename_i y hx hu
      cases ht
      have hv:=hρ x y hx
      simp only [istep] at hs
      split at hs
      ·rename_i s hy
       cases hs;rw [hy] at hv
       refine wp_of_vs (s:=Builtin.len_ #[t] type #[ρ' x]) (by simp [execOp,resolve,invoke,builtin]) (VS.pure rel (v':=.int .i64 s.size) ?_ (.base _ rfl)) hK
       rw [hv.string_left]
       simp [Builtin.len_,run_underlying hu,goInt]
      ·cases hs
     ·rename_i y e hx hu
      cases ht
      have hv:=hρ x y hx
      simp only [istep] at hs
      split at hs
      ·rename_i q l c hy
       cases hs;rw [hy] at hv
       refine wp_of_vs (s:=Builtin.len_ #[t] type #[ρ' x]) (by simp [execOp,resolve,invoke,builtin]) (VS.pure rel (v':=.int .i64 l) ?_ (.base _ rfl)) hK
       have:∃ q' c',ρ' x = .slice q' l c':=by
        cases hv2:ρ' x <;> rw [hv2] at hv <;> cases hv <;> exact ⟨_,_,rfl⟩
       obtain ⟨q',c',hv'⟩:=this
       rw [hv']
       simp [Builtin.len_,run_underlying hu,goInt]
      ·cases hs
     ·rename_i y m e hx hu
      cases ht
      simp only [istep,Option.some.injEq] at hs;subst hs
      refine wp_of_vs (s:=Builtin.len_ #[t] type #[ρ' x]) (by simp [execOp,resolve,invoke,builtin]) (VS.pure rel (v':=.int .i64 m) ?_ (.base _ rfl)) hK
      cases ρ' x <;> simp [Builtin.len_,run_underlying hu,goInt]
     ·cases ht
    ·cases ht
   case cap=>
    split at ht
    ·rename_i _ _ x t
     split at ht
     ·rename_i y e hx hu
      cases ht
      have hv:=hρ x y hx
      simp only [istep] at hs
      split at hs
      ·rename_i hy
       cases hs;rw [hy] at hv
       refine wp_of_vs (s:=Builtin.cap_ #[t] type #[ρ' x]) (by simp [execOp,resolve,invoke,builtin]) (VS.pure rel (v':=.int .i64 0) ?_ (.base _ rfl)) hK
       have:ρ' x = .slice none 0 0:=by
        cases hv2:ρ' x <;> rw [hv2] at hv <;> cases hv <;> rfl
       rw [this]
       simp [Builtin.cap_,run_underlying hu,goInt]
      ·cases hs
     ·cases ht
    ·cases ht
   case clear=>
    split at ht
    ·rename_i _ _ x t
     split at ht
     ·rename_i y e hx hu
      split at ht
      ·rename_i z hz
       split at ht
       ·rename_i hz0
        cases ht
        exact wp_of_vs (s:=Builtin.clear_ #[t] type #[ρ' x]) (by simp [execOp,resolve,invoke,builtin]) (vs_clr (s:=undef) rel hu hz hz0 (hρ x y hx) hs) hK
       ·cases ht
      ·cases ht
     ·cases ht
    ·cases ht
   case max=>
    split at ht
    ·rename_i _ x y
     split at ht
     ·rename_i x' y' hx hy
      cases ht
      have hv:=hρ x x' hx
      have hv2:=hρ y y' hy
      simp only [istep] at hs
      split at hs
      ·rename_i k p k' q hp hq
       split at hs
       ·rename_i hk;subst hk
        cases hs
        rw [hp] at hv;rw [hq] at hv2
        refine wp_of_vs (s:=Builtin.max_ ⟨argTypes⟩ type #[ρ' x,ρ' y]) (by simp [execOp,resolve,invoke,builtin]) (VS.pure rel (v':=.int k (if p < q then q else p)) ?_ (.base _ rfl)) hK
        rw [hv.int_left,hv2.int_left,run_max_int2]
       ·cases hs
      ·cases hs
     ·cases ht
    ·cases ht
   case min=>
    split at ht
    ·rename_i _ x y
     split at ht
     ·rename_i x' y' hx hy
      cases ht
      have hv:=hρ x x' hx
      have hv2:=hρ y y' hy
      simp only [istep] at hs
      split at hs
      ·rename_i k p k' q hp hq
       split at hs
       ·rename_i hk;subst hk
        cases hs
        rw [hp] at hv;rw [hq] at hv2
        refine wp_of_vs (s:=Builtin.min_ ⟨argTypes⟩ type #[ρ' x,ρ' y]) (by simp [execOp,resolve,invoke,builtin]) (VS.pure rel (v':=.int k (if q < p then q else p)) ?_ (.base _ rfl)) hK
        rw [hv.int_left,hv2.int_left,run_min_int2]
       ·cases hs
      ·cases hs
     ·cases ht
    ·cases ht
 all_goals (simp [trOp] at ht;done)
end
end Go.Eng
end
section
namespace Go.Eng
structure ROp where
 dst:Option Nat
 g:Option (Nat × Bool)
 op:IOp
structure DOp where
 dst:Option Nat
 g:Option (Nat × Bool)
 um:List Nat
 op:IOp
inductive ICode where
 | skip
 | ret
 | seq (a b:ICode)
 | cond (c:Opd) (a b:ICode)
 | block (id:Nat) (a:ICode)
 | loop (a:ICode)
 | exit (id:Nat)
 | reg (ops:List ROp)
 | dreg (ops:List DOp)
 | fail
inductive IExit where
 | normal
 | exit (id:Nat)
 | ret
structure St where
 tm:List (Nat × Value)
 hp:Heap
 nx:Nat
def putT (dst:Option Nat) (v:Value) (tm:List (Nat × Value)):List (Nat × Value):=
 match dst with
 | some d=>(d,v) :: tm
 | none=>tm
def wantedI (g:Option (Nat × Bool)) (tm:List (Nat × Value)):Bool:=
 match g with
 | none=>true
 | some (t,want)=>match tmget tm t with | .bool b=>b == want | _=>false
def after (dst:Option Nat) (s:St) (K:St -> Prop):Option Out -> Prop
 | some (v,δ,m)=>K ⟨putT dst v s.tm,δ ++ s.hp,s.nx+m⟩
 | none=>False
def guarded (g:Option (Nat × Bool)) (tm:List (Nat × Value)) (yes no:Prop):Prop:=
 match g with
 | none=>yes
 | some (t,want)=>match tmget tm t with
  | .bool b=>(b=want -> yes) /\ (b ≠ want -> no)
  | .chan _=>False
  | _=>no
def wpR (E:Env) (K:St -> Prop):List ROp -> St -> Prop
 | [],s=>K s
 | o :: r,s=>guarded o.g s.tm (after o.dst s (wpR E K r) (istep E (ev s.tm) s.hp s.nx o.op)) (wpR E K r ⟨putT o.dst undef s.tm,s.hp,s.nx⟩)
abbrev Log:=List (Nat × Heap)
def lget:Log -> Nat -> Heap
 | [],_=>[]
 | (i,δ) :: r,j=>if i=j then δ else lget r j
def maskH (um:List Nat) (log:Log):Heap:=um.flatMap fun i=>(lget log i).map fun x=>(x.1,none)
def isCall:IOp -> Bool
 | .call _ _ | .callv _ _=>true
 | _=>false
def freshOnly (δ:Heap) (n m:Nat):Prop:=∀ x ∈ δ,n <= x.1 /\ x.1 < n+m
def rdH (v:Value):Heap:=match v with | .pointer (some ⟨k,_,none⟩)=>[(k,none)] | _=>[]
def rdL (j:Nat) (ρ:Opd -> Value) (op:IOp) (log:Log):Log:=
 match op with
 | .load _ _ a=>(1000+j,rdH (ρ a)) :: log
 | _=>log
def afterD (o:DOp) (j:Nat) (log:Log) (s:St) (K:Log -> St -> Prop):Option Out -> Prop
 | some (v,δ,m)=>(isCall o.op=true -> freshOnly δ s.nx m) /\ K ((j,δ) :: rdL j (ev s.tm) o.op log) ⟨putT o.dst v s.tm,δ ++ s.hp,s.nx+m⟩
 | none=>False
def wpD (E:Env) (K:St -> Prop):List DOp -> Nat -> Log -> St -> Prop
 | [],_,_,s=>K s
 | o :: r,j,log,s=>guarded o.g s.tm (afterD o j log s (wpD E K r (j+1)) (istep E (ev s.tm) (maskH o.um log ++ s.hp) s.nx o.op)) (wpD E K r (j+1) log ⟨putT o.dst undef s.tm,s.hp,s.nx⟩)
def thenQ (next:St -> Prop) (Q:IExit -> St -> Prop):IExit -> St -> Prop
 | .normal,s=>next s
 | e,s=>Q e s
def blockQ (id:Nat) (Q:IExit -> St -> Prop):IExit -> St -> Prop
 | .exit id',s=>if id'=id then Q .normal s else Q (.exit id') s
 | e,s=>Q e s
def loopN (body:(IExit -> St -> Prop) -> St -> Prop) (Q:IExit -> St -> Prop):Nat -> St -> Prop
 | 0,_=>False
 | n+1,s=>body (thenQ (loopN body Q n) Q) s
def wpI (E:Env):ICode -> (IExit -> St -> Prop) -> St -> Prop
 | .skip,Q,s=>Q .normal s
 | .ret,Q,s=>Q .ret s
 | .seq a b,Q,s=>wpI E a (thenQ (wpI E b Q) Q) s
 | .cond c a b,Q,s=>match ev s.tm c with | .bool t=>(t=true -> wpI E a Q s) /\ (t=false -> wpI E b Q s) | _=>False
 | .block id a,Q,s=>wpI E a (blockQ id Q) s
 | .loop a,Q,s=>∃ n,loopN (wpI E a) Q n s
 | .exit id,Q,s=>Q (.exit id) s
 | .reg ops,Q,s=>wpR E (Q .normal) ops s
 | .dreg ops,Q,s=>wpD E (Q .normal) ops 0 [] s
 | .fail,_,_=>False
theorem wpI_mono {E:Env}:∀ (c:ICode) {Q Q':IExit -> St -> Prop} {s:St},(∀ e s,Q e s -> Q' e s) -> wpI E c Q s -> wpI E c Q' s:=by
 have reg:∀ (ops:List ROp) (K K':St -> Prop) (s:St),(∀ s,K s -> K' s) -> wpR E K ops s -> wpR E K' ops s:=by
  intro ops
  induction ops with
  | nil=>intro K K' s h hh;exact h s hh
  | cons o r ih=>
   intro K K' s h hh
   simp only [wpR] at hh ⊢
   have step:∀ out,after o.dst s (wpR E K r) out -> after o.dst s (wpR E K' r) out:=by
    intro out hout
    unfold after at hout ⊢
    split at hout
    ·exact ih K K' _ h hout
    ·exact hout
   unfold guarded at hh ⊢
   split at hh
   ·exact step _ hh
   ·split at hh
    ·rename_i heq
     exact ⟨fun e=>step _ (hh.1 e),fun e=>ih K K' _ h (hh.2 e)⟩
    ·exact hh.elim
    ·exact ih K K' _ h hh
 have dreg:∀ (ops:List DOp) (K K':St -> Prop) (j:Nat) (log:Log) (s:St),(∀ s,K s -> K' s) -> wpD E K ops j log s -> wpD E K' ops j log s:=by
  intro ops
  induction ops with
  | nil=>intro K K' j log s h hh;exact h s hh
  | cons o r ih=>
   intro K K' j log s h hh
   simp only [wpD] at hh ⊢
   have step:∀ out,afterD o j log s (wpD E K r (j+1)) out -> afterD o j log s (wpD E K' r (j+1)) out:=by
    intro out hout
    unfold afterD at hout ⊢
    split at hout
    ·exact ⟨hout.1,ih K K' _ _ _ h hout.2⟩
    ·exact hout
   unfold guarded at hh ⊢
   split at hh
   ·exact step _ hh
   ·split at hh
    ·exact ⟨fun e=>step _ (hh.1 e),fun e=>ih K K' _ _ _ h (hh.2 e)⟩
    ·exact hh.elim
    ·exact ih K K' _ _ _ h hh
 intro c
 induction c with
 | skip=>intro Q Q' s h hh;exact h _ _ hh
 | ret=>intro Q Q' s h hh;exact h _ _ hh
 | seq a b iha ihb=>
  intro Q Q' s h hh
  refine iha ?_ hh
  intro e s' he
  cases e <;> simp only [thenQ] at he ⊢
  ·exact ihb h he
  ·exact h _ _ he
  ·exact h _ _ he
 | cond c a b iha ihb=>
  intro Q Q' s h hh
  simp only [wpI] at hh ⊢
  split at hh
  ·exact ⟨fun e=>iha h (hh.1 e),fun e=>ihb h (hh.2 e)⟩
  ·exact hh
 | block id a iha=>
  intro Q Q' s h hh
  refine iha ?_ hh
  intro e s' he
  cases e <;> simp only [blockQ] at he ⊢
  ·exact h _ _ he
  ·split at he
   ·rename_i e;rw [if_pos e];exact h _ _ he
   ·rename_i e;rw [if_neg e];exact h _ _ he
  ·exact h _ _ he
 | loop a iha=>
  intro Q Q' s h hh
  obtain ⟨n,hn⟩:=hh
  refine ⟨n,?_⟩
  induction n generalizing s with
  | zero=>exact hn
  | succ n ih=>
   simp only [loopN] at hn ⊢
   refine iha ?_ hn
   intro e s' he
   cases e <;> simp only [thenQ] at he ⊢
   ·exact ih he
   ·exact h _ _ he
   ·exact h _ _ he
 | exit id=>intro Q Q' s h hh;exact h _ _ hh
 | reg ops=>intro Q Q' s h hh;exact reg ops _ _ s (h _) hh
 | dreg ops=>intro Q Q' s h hh;exact dreg ops _ _ 0 [] s (h _) hh
 | fail=>intro Q Q' s h hh;exact hh
def dstOK (dst:Option Nat) (nt:Nat):Bool:=
 match dst with
 | some d=>decide (d < nt)
 | none=>true
def trOper (P:Program) (nt:Nat) (ops:List Oper) (o:Oper):Option ROp:=
 if dstOK o.dst nt=true then
  match trOp P o.op with
  | some i=>
   match o.guard with
   | none=>some ⟨o.dst,none,i⟩
   | some (j,want)=>match (ops[j]?).bind (·.dst) with
    | some t=>if t < nt then some ⟨o.dst,some (t,want),i⟩ else none
    | none=>none
  | none=>none
 else none
def trOpers (P:Program) (nt:Nat) (ops:List Oper):List Oper -> Option (List ROp)
 | []=>some []
 | o :: r=>match trOper P nt ops o,trOpers P nt ops r with | some x,some y=>some (x :: y) | _,_=>none
def ancBits:List Oper -> List Nat -> List Nat
 | [],acc=>acc
 | o :: r,acc=>ancBits r (acc ++ [o.after.toList.foldl (fun s e=>if Region.binds .any e then s ||| 2 ^ e.on ||| acc.getD e.on 0 else s) 0])
def capable:IOp -> Bool
 | .alloc .. | .box .. | .bslice .. | .mkslice .. | .call .. | .callv .. | .store .. | .app .. | .appz .. | .clr ..=>true
 | _=>false
def writes:IOp -> Bool
 | .store .. | .app .. | .clr ..=>true
 | _=>false
def isStore:IOp -> Bool
 | .store ..=>true
 | _=>false
def isLoad:IOp -> Bool
 | .load ..=>true
 | _=>false
def blind:IOp -> Bool
 | .load .. | .b2s .. | .slarr .. | .call .. | .callv .. | .store .. | .app .. | .clr ..=>false
 | _=>true
def edgesOK:List Oper -> Nat -> Bool
 | [],_=>true
 | o :: r,j=>o.after.toList.all (fun e=>!Region.binds .any e || decide (e.on < j)) && edgesOK r (j+1)
def pairOK (ops:List Oper) (bits:List Nat) (irs:List ROp) (i j:Nat):Bool:=
 (bits.getD j 0).testBit i ||
 match ops[i]?,ops[j]?,irs[i]?,irs[j]? with
 | some oi,some oj,some ri,some rj=>oi.apart ops.toArray oj && (!writes rj.op || blind ri.op || isStore ri.op || isLoad ri.op)
 | _,_,_,_=>false
def allPairs (ops:List Oper) (bits:List Nat) (irs:List ROp):Bool:=
 (List.range ops.length).all fun j=>(List.range j).all fun i=>pairOK ops bits irs i j
def umW (bits:List Nat) (irs:List ROp) (j:Nat):List Nat:=
 (List.range j).filter fun i=>!(bits.getD j 0).testBit i && (match irs[i]? with | some r=>capable r.op | none=>true) && (match irs[j]? with | some r=>!blind r.op | none=>true)
def umOf (bits:List Nat) (irs:List ROp) (j:Nat):List Nat:=
 umW bits irs j ++ (((List.range j).filter fun i=>!(bits.getD j 0).testBit i && (match irs[i]? with | some r=>isLoad r.op | none=>false) && (match irs[j]? with | some r=>writes r.op | none=>false)).map (1000+·))
def toD (bits:List Nat) (irs:List ROp):List ROp -> Nat -> List DOp
 | [],_=>[]
 | r :: rs,j=>⟨r.dst,r.g,umOf bits irs j,r.op⟩ :: toD bits irs rs (j+1)
def trDraw (P:Program) (nt:Nat) (ops:List Oper):Option (List DOp):=
 match trOpers P nt ops ops with
 | some irs=>
  let bits:=ancBits ops []
  if edgesOK ops 0 && allPairs ops bits irs && decide (ops.length <= 1000) then some (toD bits irs irs 0) else none
 | none=>none
def trCode (P:Program) (nt:Nat):Code -> Option ICode
 | .skip=>some .skip
 | .ret=>some .ret
 | .seq a b=>match trCode P nt a,trCode P nt b with | some a,some b=>some (.seq a b) | _,_=>none
 | .cond c a b=>match trOpd c,trCode P nt a,trCode P nt b with | some c,some a,some b=>some (.cond c a b) | _,_,_=>none
 | .block id a=>(trCode P nt a).map (.block id)
 | .loop a=>(trCode P nt a).map .loop
 | .exit id=>some (.exit id)
 | .region _ ops false=>match trOpers P nt ops.toList ops.toList with | some l=>some (.reg l) | none=>some .fail
 | .region _ ops true=>match trDraw P nt ops.toList with | some l=>some (.dreg l) | none=>some .fail
 | _=>some .fail
end Go.Eng
end
section
namespace Go.Eng
structure SR (dd:List Deferred) (β0:Emb) (h0:Heap) (w0:World) (nt N0:Nat) (β:Emb) (s:St) (a:Act) (w:World):Prop where
 tm:∀ t,VR β (tmget s.tm t) (a.tmps.getD t undef)
 sz:a.tmps.size=nt
 rel:Rel β s.hp w
 fr:Fr β0 h0 w0 β s.hp w
 dom:∀ k,β k ≠ none -> k < s.nx
 defs:a.defers=dd
 lo:N0 <= s.nx
 new:∀ k,β k ≠ none -> β0 k ≠ none \/ N0 <= k
section
variable {dd:List Deferred} {P:Program} {E:Env} {β0:Emb} {h0:Heap} {w0:World} {nt N0:Nat}
theorem opd_of {β:Emb} {tm:List (Nat × Value)} {a:Act} (h:∀ t,VR β (tmget tm t) (a.tmps.getD t undef)):∀ x y,trOpd x=some y -> VR β (ev tm y) (a.eval x):=by
 intro x y e
 cases x with
 | tmp t=>simp [trOpd] at e;subst e;exact h t
 | const v=>
  simp only [trOpd] at e
  split at e
  ·rename_i hc;cases e;exact closed_vr hc
  ·cases e
 | global g=>simp [trOpd] at e
 | func f=>simp [trOpd] at e;subst e;exact .fn _ _ _ _ _ .nil .nil
theorem put_tm {β:Emb} {tm:List (Nat × Value)} {a:Act} {dst:Option Nat} {v v':Value} (h:∀ t,VR β (tmget tm t) (a.tmps.getD t undef)) (hd:dstOK dst a.tmps.size=true) (hv:VR β v v') :
  ∀ t,VR β (tmget (putT dst v tm) t) ((a.put dst v').tmps.getD t undef):=by
 intro t
 cases dst with
 | none=>exact h t
 | some d=>
  simp only [dstOK,decide_eq_true_eq] at hd
  simp only [putT,tmget,Act.put]
  by_cases e:d=t
  ·subst e
   rw [if_pos rfl]
   simp [hd,hv]
  ·rw [if_neg e]
   have:=h t
   simpa [Array.getElem?_setIfInBounds,e] using this
theorem put_size {a:Act} {dst:Option Nat} {v:Value}:(a.put dst v).tmps.size=a.tmps.size:=by
 cases dst <;> simp [Act.put]
theorem put_defers {a:Act} {dst:Option Nat} {v:Value}:(a.put dst v).defers=a.defers:=by
 cases dst <;> simp [Act.put]
theorem undef_vr (β:Emb):VR β undef undef:=.tup [] [] .nil
theorem SR.step {β β':Emb} {s:St} {a:Act} {w w':World} {dst:Option Nat} {v v':Value} {δ:Heap} {m:Nat} (r:SR dd β0 h0 w0 nt N0 β s a w) (hd:dstOK dst nt=true) (hv:VR β' v v')
  (hr:Rel β' (δ ++ s.hp) w') (hf:Fr β s.hp w β' (δ ++ s.hp) w') (hdom:∀ k,β' k ≠ none -> β k ≠ none \/ (s.nx <= k /\ k < s.nx+m)) :
  SR dd β0 h0 w0 nt N0 β' ⟨putT dst v s.tm,δ ++ s.hp,s.nx+m⟩ (a.put dst v') w':=
 ⟨put_tm (fun t=>(r.tm t).mono hf.ext) (by rw [r.sz];exact hd) hv,by rw [put_size];exact r.sz,hr,r.fr.trans hf,fun k hk=>by
  simp only
  rcases hdom k hk with h | ⟨h1,h2⟩
  ·have:=r.dom k h;omega
  ·exact h2,by rw [put_defers];exact r.defs,Nat.le_trans r.lo (Nat.le_add_right _ _),fun k hk=>by
  rcases hdom k hk with h | ⟨h1,h2⟩
  ·exact r.new k h
  ·exact .inr (Nat.le_trans r.lo h1)⟩
theorem SR.skip {β:Emb} {s:St} {a:Act} {w:World} {dst:Option Nat} (r:SR dd β0 h0 w0 nt N0 β s a w) (hd:dstOK dst nt=true) :
  SR dd β0 h0 w0 nt N0 β ⟨putT dst undef s.tm,s.hp,s.nx⟩ (a.put dst undef) w:=
 ⟨put_tm r.tm (by rw [r.sz];exact hd) (undef_vr _),by rw [put_size];exact r.sz,r.rel,r.fr,r.dom,by rw [put_defers];exact r.defs,r.lo,r.new⟩
def ncG (g:Option (Nat × Bool)) (tm:List (Nat × Value)):Prop:=∀ t want c,g=some (t,want) -> tmget tm t ≠ .chan c
theorem guarded_nc {g:Option (Nat × Bool)} {tm:List (Nat × Value)} {yes no:Prop} (h:guarded g tm yes no):ncG g tm:=by
 rintro t want c rfl e
 unfold guarded at h
 simp only [e] at h
theorem wanted_eq {ops:List Oper} {o:Oper} {r:ROp} {β:Emb} {tm:List (Nat × Value)} {a:Act} (ht:trOper P a.tmps.size ops o=some r) (h:∀ t,VR β (tmget tm t) (a.tmps.getD t undef)) (hn:ncG r.g tm) :
  Region.wanted o (yielded ops.toArray a.tmps)=wantedI r.g tm /\ r.dst=o.dst /\ trOp P o.op=some r.op /\ dstOK o.dst a.tmps.size=true:=by
 unfold trOper at ht
 split at ht
 ·rename_i hd
  split at ht
  ·rename_i i hi
   split at ht
   ·rename_i hg
    cases ht
    exact ⟨by simp [Region.wanted,hg,wantedI],rfl,hi,hd⟩
   ·rename_i j want hg
    split at ht
    ·rename_i t hj
     split at ht
     ·rename_i hlt
      cases ht
      refine ⟨?_,rfl,hi,hd⟩
      simp only [Region.wanted,hg,wantedI,yielded,List.getElem?_toArray,hj,Option.bind_some]
      have hv:=h t
      have hnc:=fun c=>hn t want c rfl
      rw [Array.getD_eq_getD_getElem?,Array.getElem?_eq_getElem hlt,Option.getD_some] at hv
      rw [Array.getElem?_eq_getElem hlt]
      generalize a.tmps[t]=u at hv ⊢
      generalize tmget tm t=v at hv hnc ⊢
      cases hv with
      | junk c _ _=>exact absurd rfl (hnc c)
      | base _ hb=>cases u <;> simp [isBase] at hb <;> simp <;> (try (rename_i b;cases b <;> cases want <;> rfl))
      | _=>simp
     ·cases ht
    ·cases ht
  ·cases ht
 ·cases ht
theorem guarded_cases {g:Option (Nat × Bool)} {tm:List (Nat × Value)} {yes no:Prop} (h:guarded g tm yes no):(wantedI g tm=true -> yes) /\ (wantedI g tm=false -> no):=by
 unfold guarded at h
 unfold wantedI
 split at h
 ·exact ⟨fun _=>h,fun e=>by simp at e⟩
 ·rename_i t want
  generalize tmget tm t=v at h ⊢
  cases v with
  | bool b=>exact ⟨fun e=>h.1 (by simpa using e),fun e=>h.2 (by simpa using e)⟩
  | chan c=>exact h.elim
  | _=>exact ⟨fun e=>(by cases e),fun _=>h⟩
def FRo (ro:Option Nat):Fence:={ Fence.wide with round:=ro }
theorem callsIn_FR {ro:Option Nat} {n:Nat} {f:FuncId} {args:Array Value} {w:World} {R:Ending -> World -> Prop} (h:Calls P f args w R):CallsIn (FRo ro) n P f args w R:=
 (callsIn_wide.2 h:CallsIn Fence.wide n P f args w R)
theorem rowsIn_FR {ro:Option Nat} {n:Nat} {row:String} {args:Array Value} {w:World} {R:Value -> World -> Prop} (h:Rows P row args w R):RowsIn (FRo ro) n P row args w R:=by
 intro c cs _
 obtain ⟨v,w',r,s⟩:=h c cs
 exact ⟨v,w',r,stepsIn_wide.2 s⟩
theorem OWP_in {ro:Option Nat} {n:Nat} {o:Oper} {a:Act} {w:World} {K:Act -> World -> Prop} {Q:Exit -> Act -> World -> Prop} (hd:∀ c,o.op ≠ .defer c) (h:OWP P o a.eval a w K Q):o.wpIn (FRo ro) n P a w K Q:=by
 refine ⟨fun f _=>trivial,?_⟩
 rw [Oper.semAt_eq _ a.eval o hd]
 unfold OWP at h
 generalize (execOp a.eval o).run P w=r at h ⊢
 cases r with
 | ok x w'=>
  cases x <;> simp only [Oper.upon,Oper.uponIn] at h ⊢ <;> first | exact h | exact h.elim | exact ⟨(fun e=>by cases e),callsIn_FR h⟩ | exact ⟨(fun e=>by cases e),rowsIn_FR h⟩
 | halt x w'=>cases x <;> simp only [Oper.upon,Oper.uponIn] at h ⊢ <;> exact h
theorem no_defer {op:Op} {i:IOp} (h:trOp P op=some i):∀ c,op ≠ .defer c:=by
 rintro c rfl
 cases h
theorem reg_sound {ro:Option Nat} {n:Nat} (hE:EnvOK P E) {opsA:List Oper} {Q:Exit -> Act -> World -> Prop} {K:St -> Prop} (hQ:∀ β s a w,K s -> SR dd β0 h0 w0 nt N0 β s a w -> Q .normal a w) :
  ∀ (ops:List Oper) (irs:List ROp),trOpers P nt opsA ops=some irs -> ∀ {β:Emb} {s:St} {a:Act} {w:World},wpR E K irs s -> SR dd β0 h0 w0 nt N0 β s a w -> wpListIn (FRo ro) n P opsA.toArray Q ops a w
 | [],irs,e,β,s,a,w,hk,r=>by
  simp [trOpers] at e;subst e
  exact hQ β s a w hk r
 | o :: ops,irs,e,β,s,a,w,hk,r=>by
  unfold trOpers at e
  split at e
  ·rename_i x y h1 h2
   cases e
   have hsz:=r.sz
   obtain ⟨g1,g2,g3,g4⟩:=wanted_eq (by rw [hsz];exact h1) r.tm (guarded_nc (by simp only [wpR] at hk;exact hk))
   rw [hsz] at g4
   simp only [wpR] at hk
   have hc:=guarded_cases hk
   unfold wpListIn
   rw [g1]
   cases hw:wantedI x.g s.tm with
   | true=>
    rw [if_pos rfl]
    have hk1:=hc.1 hw
    cases hout:istep E (ev s.tm) s.hp s.nx x.op with
    | none=>rw [hout] at hk1;exact hk1.elim
    | some out=>
     rw [hout] at hk1
     simp only [after] at hk1
     refine OWP_in (no_defer g3) (op_sound (a:=a) (ρ':=a.eval) hE r.rel (opd_of r.tm) (fun _=>rfl) g3 hout (fun k h1 h2=>?_) ⟨s.nx,r.dom⟩ ?_)
     ·cases hb:β k with
      | none=>rfl
      | some L=>have:=r.dom k (by rw [hb];simp);omega
     ·intro v' β' w' q1 q2 q3 q4
      rw [g2] at hk1
      exact reg_sound hE hQ ops y h2 hk1 (r.step g4 q1 q2 q3 q4)
   | false=>
    rw [if_neg (by simp)]
    have hk1:=hc.2 hw
    rw [g2] at hk1
    exact ⟨fun _ _=>trivial,reg_sound hE hQ ops y h2 hk1 (r.skip g4)⟩
  ·cases e
end
end Go.Eng
end
section
namespace Go.Eng
def optL:Option Opd -> List Opd
 | none=>[]
 | some x=>[x]
def iopds:IOp -> List Opd
 | .mv x=>[x]
 | .pick c a b=>[c,a,b]
 | .alloc ..=>[]
 | .box _ _ x=>[x]
 | .build _ ps=>ps.map (·.2.2)
 | .bslice _ _ _ _ ps=>ps.map (·.2.2)
 | .load _ _ a=>[a]
 | .store _ a x=>[a,x]
 | .nilchk x=>[x]
 | .bin _ x y=>[x,y]
 | .eqb _ x y=>[x,y]
 | .eqa _ _ x y=>[x,y]
 | .nils _ x y=>[x,y]
 | .un _ x=>[x]
 | .conv _ x=>[x]
 | .b2s x=>[x]
 | .mkfn _ cap=>cap
 | .mkslice _ _ _ _ l c=>[l,c]
 | .slstr x lo hi=>x :: (optL lo ++ optL hi)
 | .slarr _ _ x lo hi=>x :: (optL lo ++ optL hi)
 | .slsl _ x lo hi=>x :: (optL lo ++ optL hi)
 | .faddr _ x=>[x]
 | .fld _ _ _ x=>[x]
 | .ixarr _ _ x i=>[x,i]
 | .ixsl _ x i=>[x,i]
 | .idarr _ _ _ x i=>[x,i]
 | .idstr x i=>[x,i]
 | .ext x _=>[x]
 | .call _ args=>args
 | .callv x args=>x :: args
 | .lens x=>[x]
 | .lensl x=>[x]
 | .lena _=>[]
 | .app _ _ _ s x=>[s,x]
 | .mxmn _ x y=>[x,y]
 | .capz x=>[x]
 | .appz _ _ _ _ s x=>[s,x]
 | .clr _ x=>[x]
theorem fillI_congr {ρ ρ':Opd -> Value}:∀ (ps:List (Nat × Nat × Opd)) (z:List Value),(∀ y ∈ ps.map (·.2.2),ρ y=ρ' y) -> fillI ρ z ps=fillI ρ' z ps
 | [],z,_=>rfl
 | (off,sz,x) :: r,z,h=>by
  have hx:ρ x=ρ' x:=h x (by simp)
  simp only [fillI,hx]
  split
  ·exact fillI_congr r _ (fun y hy=>h y (by simp at hy ⊢;exact .inr hy))
  ·rfl
theorem bnds_congr {ρ ρ':Opd -> Value} {lo hi:Option Opd} (len cap:Nat) (h:∀ y ∈ optL lo ++ optL hi,ρ y=ρ' y):bnds ρ len cap lo hi=bnds ρ' len cap lo hi:=by
 unfold bnds
 have e1:bhi ρ len cap hi=bhi ρ' len cap hi:=by
  cases hi with
  | none=>rfl
  | some x=>simp only [bhi,h x (by simp [optL])]
 have e2:∀ h0,blo ρ h0 lo=blo ρ' h0 lo:=by
  intro h0
  cases lo with
  | none=>rfl
  | some x=>simp only [blo,h x (by simp [optL])]
 rw [e1]
 split
 ·rfl
 ·rw [e2]
theorem istep_congr {E:Env} {ρ ρ':Opd -> Value} {h:Heap} {n:Nat} {i:IOp} (hh:∀ y ∈ iopds i,ρ y=ρ' y):istep E ρ h n i=istep E ρ' h n i:=by
 cases i <;> simp only [iopds,List.mem_cons,List.not_mem_nil,or_false,forall_eq_or_imp,forall_eq,List.mem_append] at hh <;> simp only [istep]
 case build z ps=>rw [fillI_congr ps z hh]
 case bslice e sz len z ps=>rw [fillI_congr ps z hh]
 case mkfn f cap=>rw [List.map_congr_left hh]
 case slstr x lo hi=>
  rw [hh.1];split
  ·rw [bnds_congr _ _ (by simpa using hh.2)]
  ·rfl
 case slarr m sz x lo hi=>
  rw [hh.1];split
  ·split
   ·rw [bnds_congr _ _ (by simpa using hh.2)]
   ·rfl
  ·rfl
 case slsl sz x lo hi=>
  rw [hh.1];split
  ·rw [bnds_congr _ _ (by simpa using hh.2)]
  ·rw [bnds_congr _ _ (by simpa using hh.2)]
  ·rw [bnds_congr _ _ (by simpa using hh.2)]
  ·rfl
 case call f args=>rw [List.map_congr_left hh]
 case callv x args=>rw [hh.1,List.map_congr_left hh.2]
 all_goals (first | rfl | simp only [hh])
theorem trOpds_mem:∀ {xs:List Operand} {ys:List Opd},trOpds xs=some ys -> ∀ y ∈ ys,∃ x ∈ xs,trOpd x=some y
 | [],ys,e,y,hy=>by simp [trOpds] at e;subst e;simp at hy
 | x :: xs,ys,e,y,hy=>by
  unfold trOpds at e
  split at e
  ·rename_i a b h1 h2
   cases e
   rcases List.mem_cons.1 hy with rfl | hy
   ·exact ⟨x,by simp,h1⟩
   ·obtain ⟨x',m,e'⟩:=trOpds_mem h2 y hy
    exact ⟨x',by simp [m],e'⟩
  ·cases e
theorem trParts_mem {place:Nat -> Option (Nat × Nat)}:∀ {ps:List (Nat × Operand)} {qs:List (Nat × Nat × Opd)},trParts place ps=some qs -> ∀ y ∈ qs.map (·.2.2),∃ x ∈ ps.map (·.2),trOpd x=some y
 | [],qs,e,y,hy=>by simp [trParts] at e;subst e;simp at hy
 | (i,x) :: ps,qs,e,y,hy=>by
  unfold trParts at e
  split at e
  ·rename_i off sz a s h1 h2 h3
   cases e
   simp only [List.map_cons,List.mem_cons] at hy
   rcases hy with rfl | hy
   ·exact ⟨x,by simp,h2⟩
   ·obtain ⟨x',m,e'⟩:=trParts_mem h3 y hy
    exact ⟨x',by simp only [List.map_cons,List.mem_cons];exact .inr m,e'⟩
  ·cases e
theorem trOpt_mem {x:Option Operand} {y:Option Opd} (e:trOpt x=some y):∀ z ∈ optL y,∃ u ∈ x.toList,trOpd u=some z:=by
 cases x with
 | none=>simp [trOpt] at e;subst e;simp [optL]
 | some u=>
  simp only [trOpt,Option.map_eq_some_iff] at e
  obtain ⟨v,h1,rfl⟩:=e
  intro z hz
  simp [optL] at hz;subst hz
  exact ⟨u,by simp,h1⟩
theorem trOp_opds {P:Program} {op:Op} {i:IOp} (e:trOp P op=some i):∀ y ∈ iopds i,∃ x ∈ op.operands,trOpd x=some y:=by
 cases op
 case move x=>simp only [trOp,Option.map_eq_some_iff] at e;obtain ⟨a,h1,rfl⟩:=e;simp [iopds,Op.operands,h1]
 case assign x=>simp only [trOp,Option.map_eq_some_iff] at e;obtain ⟨a,h1,rfl⟩:=e;simp [iopds,Op.operands,h1]
 case pick c x y=>
  simp only [trOp] at e
  split at e
  ·rename_i h1 h2 h3;cases e;simp [iopds,Op.operands,h1,h2,h3]
  ·cases e
 case alloc t=>
  simp only [trOp] at e
  split at e
  ·cases e;simp [iopds]
  ·cases e
 case box t x=>
  simp only [trOp] at e
  split at e
  ·rename_i h1 h2;cases e;simp [iopds,Op.operands,h2]
  ·cases e
 case build t ps=>
  simp only [trOp] at e
  split at e
  ·split at e
   ·rw [Option.map_eq_some_iff] at e
    obtain ⟨q,hq,rfl⟩:=e
    intro y hy
    simpa [Op.operands] using trParts_mem hq y hy
   ·cases e
  ·split at e
   ·rw [Option.map_eq_some_iff] at e
    obtain ⟨q,hq,rfl⟩:=e
    intro y hy
    simpa [Op.operands] using trParts_mem hq y hy
   ·cases e
  ·cases e
 case buildSlice t len ps=>
  simp only [trOp] at e
  split at e
  ·split at e
   ·split at e
    ·rw [Option.map_eq_some_iff] at e
     obtain ⟨q,hq,rfl⟩:=e
     intro y hy
     simpa [Op.operands] using trParts_mem hq y hy
    ·cases e
   ·cases e
  ·cases e
 case load t x=>
  simp only [trOp] at e
  split at e
  ·rename_i h1 h2 h3;cases e;simp [iopds,Op.operands,h3]
  ·cases e
 case store t x y=>
  simp only [trOp] at e
  split at e
  ·rename_i h1 h2 h3;cases e;simp [iopds,Op.operands,h2,h3]
  ·cases e
 case nilCheck x=>simp only [trOp,Option.map_eq_some_iff] at e;obtain ⟨a,h1,rfl⟩:=e;simp [iopds,Op.operands,h1]
 case binOp op t x y yt=>
  simp only [trOp] at e
  split at e
  ·rename_i x' y' h1 h2
   have fin:(∃ o,i = .bin o x' y') \/ (∃ b,i = .eqb b x' y') \/ (∃ b k,i = .eqa b k x' y') \/ (∃ b,i = .nils b x' y'):=by
    split at e
    ·cases e;exact .inl ⟨_,rfl⟩
    ·cases e;exact .inl ⟨_,rfl⟩
    ·split at e <;> cases e <;> exact .inr (.inl ⟨_,rfl⟩)
    ·split at e <;> cases e <;> exact .inr (.inr (.inr ⟨_,rfl⟩))
    ·split at e
     ·cases e
     ·split at e <;> cases e <;> exact .inr (.inr (.inl ⟨_,_,rfl⟩))
    ·split at e
     ·cases e
     ·split at e <;> cases e <;> exact .inr (.inr (.inl ⟨_,_,rfl⟩))
    ·cases e
   rcases fin with ⟨o,rfl⟩ | ⟨b,rfl⟩ | ⟨b,k,rfl⟩ | ⟨b,rfl⟩ <;> simp [iopds,Op.operands,h1,h2]
  ·cases e
 case unOp op t x=>simp only [trOp,Option.map_eq_some_iff] at e;obtain ⟨a,h1,rfl⟩:=e;simp [iopds,Op.operands,h1]
 case convert s d x=>
  simp only [trOp] at e
  split at e
  ·rename_i h1 h2 h3;cases e;simp [iopds,Op.operands,h3]
  ·rename_i h1 h2 h3
   split at e
   ·split at e
    ·cases e;simp [iopds,Op.operands,h3]
    ·cases e
   ·cases e
  ·cases e
 case makeFunc fn first cap=>
  cases fn <;> simp only [trOp,reduceCtorEq] at e
  split at e
  ·rw [Option.map_eq_some_iff] at e
   obtain ⟨q,hq,rfl⟩:=e
   intro y hy
   obtain ⟨x,m,e'⟩:=trOpds_mem hq y hy
   exact ⟨x,by simp [Op.operands];exact .inr (by simpa using m),e'⟩
  ·cases e
 case makeSlice t l c=>
  simp only [trOp] at e
  split at e
  ·rename_i h1 h2 h3
   split at e
   ·split at e
    ·cases e;simp [iopds,Op.operands,h2,h3]
    ·cases e
   ·cases e
  ·cases e
 case slice t x lo hi mx=>
  cases mx with
  | some m=>simp [trOp] at e
  | none=>
   simp only [trOp] at e
   split at e
   ·rename_i x' lo' hi' h1 h2 h3
    have fin:∀ y ∈ (x' :: (optL lo' ++ optL hi')),∃ u ∈ (Op.slice t x lo hi none).operands,trOpd u=some y:=by
     intro y hy
     simp only [List.mem_cons,List.mem_append] at hy
     rcases hy with rfl | hy | hy
     ·exact ⟨x,by simp [Op.operands],h1⟩
     ·obtain ⟨u,m,e'⟩:=trOpt_mem h2 y hy;exact ⟨u,by simp [Op.operands];simp at m;simp [m],e'⟩
     ·obtain ⟨u,m,e'⟩:=trOpt_mem h3 y hy;exact ⟨u,by simp [Op.operands];simp at m;simp [m],e'⟩
    split at e
    ·cases e;exact fin
    ·rw [Option.map_eq_some_iff] at e;obtain ⟨q,hq,rfl⟩:=e;exact fin
    ·rw [Option.map_eq_some_iff] at e;obtain ⟨q,hq,rfl⟩:=e;exact fin
    ·cases e
   ·cases e
 case fieldAddr t x j=>
  simp only [trOp] at e
  split at e
  ·rename_i h1 h2
   split at e
   ·split at e
    ·split at e
     ·cases e
     ·cases e;simp [iopds,Op.operands,h2]
    ·cases e
   ·cases e
  ·cases e
 case field t x j=>
  simp only [trOp] at e
  split at e
  ·rename_i h1 h2
   split at e
   ·split at e
    ·cases e;simp [iopds,Op.operands,h2]
    ·cases e
   ·cases e
  ·cases e
 case indexAddr t x j=>
  simp only [trOp] at e
  split at e
  ·rename_i h1 h2 h3
   rw [Option.map_eq_some_iff] at e;obtain ⟨q,hq,rfl⟩:=e;simp [iopds,Op.operands,h2,h3]
  ·rename_i h1 h2 h3
   rw [Option.map_eq_some_iff] at e;obtain ⟨q,hq,rfl⟩:=e;simp [iopds,Op.operands,h2,h3]
  ·cases e
 case index t x j=>
  simp only [trOp] at e
  split at e
  ·rename_i h1 h2 h3
   split at e
   ·cases e;simp [iopds,Op.operands,h2,h3]
   ·cases e
  ·rename_i h1 h2 h3
   cases e;simp [iopds,Op.operands,h2,h3]
  ·cases e
 case extract x j=>simp only [trOp,Option.map_eq_some_iff] at e;obtain ⟨a,h1,rfl⟩:=e;simp [iopds,Op.operands,h1]
 case call c=>
  obtain ⟨callee,args,argTypes⟩:=c
  have mem:∀ {as:List Opd},trOpds args.toList=some as -> ∀ y ∈ as,∃ x ∈ (Op.call ⟨callee,args,argTypes⟩).operands,trOpd x=some y:=by
   intro as h y hy
   obtain ⟨x,m,e'⟩:=trOpds_mem h y hy
   exact ⟨x,by simp [Op.operands,Call.operands];exact .inr (by simpa using m),e'⟩
  cases callee with
  | invoke r m=>simp [trOp] at e
  | value fv=>
   have dyn:(match trOpd fv,trOpds args.toList with | some x,some as=>some (IOp.callv x as) | _,_=>none)=some i -> ∀ y ∈ iopds i,∃ x ∈ (Op.call ⟨.value fv,args,argTypes⟩).operands,trOpd x=some y:=by
    intro e
    split at e
    ·rename_i x as h1 h2
     cases e
     intro y hy
     simp only [iopds,List.mem_cons] at hy
     rcases hy with rfl | hy
     ·exact ⟨fv,by simp [Op.operands,Call.operands],h1⟩
     ·exact mem h2 y hy
    ·cases e
   cases fv with
   | func f=>
    simp only [trOp] at e
    split at e
    ·rw [Option.map_eq_some_iff] at e;obtain ⟨q,hq,rfl⟩:=e
     exact mem hq
    ·cases e
   | tmp q=>exact dyn (by simp only [trOp] at e;exact e)
   | const q=>exact dyn (by simp only [trOp] at e;exact e)
   | global q=>simp [trOp,trOpd] at e
  | builtin b=>
   have two:∀ {x y:Operand} {x' y':Opd},args.toList=[x,y] -> trOpd x=some x' -> trOpd y=some y' -> ∀ u ∈ [x',y'],∃ z ∈ (Op.call ⟨.builtin b,args,argTypes⟩).operands,trOpd z=some u:=by
    intro x y x' y' h1 h2 h3 u hu
    have h0:args=#[x,y]:=by rw [<- Array.toArray_toList (xs:=args),h1]
    subst h0
    simp at hu
    rcases hu with rfl | rfl
    ·exact ⟨x,by simp [Op.operands,Call.operands],h2⟩
    ·exact ⟨y,by simp [Op.operands,Call.operands],h3⟩
   have one:∀ {x:Operand} {x':Opd},args.toList=[x] -> trOpd x=some x' -> ∀ u ∈ [x'],∃ z ∈ (Op.call ⟨.builtin b,args,argTypes⟩).operands,trOpd z=some u:=by
    intro x x' h1 h2 u hu
    have h0:args=#[x]:=by rw [<- Array.toArray_toList (xs:=args),h1]
    subst h0
    simp at hu;subst hu
    exact ⟨x,by simp [Op.operands,Call.operands],h2⟩
   cases b <;> simp only [trOp,reduceCtorEq] at e
   case append=>
    split at e
    ·rename_i h1 h2
     split at e
     ·rename_i g1 g2 g3 g4
      split at e
      ·split at e
       ·cases e;exact two h1 g1 g2
       ·cases e
      ·cases e
     ·rename_i g1 g2 g3 g4
      split at e
      ·split at e
       ·cases e;exact two h1 g1 g2
       ·cases e
      ·cases e
     ·cases e
    ·cases e
   case len=>
    split at e
    ·rename_i h1 h2
     split at e
     ·rename_i g1 g2;cases e;exact one h1 g1
     ·rename_i g1 g2;cases e;exact one h1 g1
     ·cases e;simp [iopds]
     ·cases e
    ·cases e
   case cap=>
    split at e
    ·rename_i h1 h2
     split at e
     ·rename_i g1 g2;cases e;exact one h1 g1
     ·cases e
    ·cases e
   case clear=>
    split at e
    ·rename_i h1 h2
     split at e
     ·rename_i g1 g2
      split at e
      ·split at e
       ·cases e;exact one h1 g1
       ·cases e
      ·cases e
     ·cases e
    ·cases e
   case max=>
    split at e
    ·rename_i h1
     split at e
     ·rename_i g1 g2;cases e;exact two h1 g1 g2
     ·cases e
    ·cases e
   case min=>
    split at e
    ·rename_i h1
     split at e
     ·rename_i g1 g2;cases e;exact two h1 g1 g2
     ·cases e
    ·cases e
 all_goals (simp [trOp] at e;done)
theorem blind_eq {E:Env} {ρ:Opd -> Value} {h h':Heap} {n:Nat} {i:IOp} (hb:blind i=true):istep E ρ h n i=istep E ρ h' n i:=by
 cases i <;> simp [blind] at hb <;> rfl
theorem incapable {E:Env} {ρ:Opd -> Value} {h:Heap} {n:Nat} {i:IOp} {v:Value} {δ:Heap} {m:Nat} (hb:capable i=false) (hs:istep E ρ h n i=some (v,δ,m)):δ=[] /\ m=0:=by
 cases i <;> simp [capable] at hb <;> simp only [istep] at hs
 all_goals (repeat' (split at hs))
 all_goals first
  | (cases hs;done)
  | (simp only [Option.some.injEq,Prod.mk.injEq] at hs;exact ⟨hs.2.1.symm,hs.2.2.symm⟩)
  | (rw [Option.map_eq_some_iff] at hs;obtain ⟨_,_,hq⟩:=hs;simp only [Prod.mk.injEq] at hq;exact ⟨hq.2.1.symm,hq.2.2.symm⟩)
theorem store_only {E:Env} {ρ:Opd -> Value} {h:Heap} {n:Nat} {i:IOp} {v:Value} {δ:Heap} {m:Nat} (hb:isStore i=true) (hs:istep E ρ h n i=some (v,δ,m)) :
  ∃ k b b',hget h k=some b /\ δ=[(k,some b')] /\ m=0 /\ ∀ h',hget h' k=some b -> istep E ρ h' n i=some (v,δ,m):=by
 cases i <;> simp [isStore] at hb
 rename_i sz a x
 simp only [istep] at hs
 split at hs
 ·rename_i k off ha
  split at hs
  ·rename_i blk hk
   split at hs
   ·rename_i hc
    simp only [Option.some.injEq,Prod.mk.injEq] at hs
    obtain ⟨rfl,rfl,rfl⟩:=hs
    refine ⟨k,blk,_,hk,rfl,rfl,fun h' hh'=>?_⟩
    simp only [istep,ha,hh']
    rw [if_pos hc]
   ·cases hs
  ·cases hs
 ·cases hs
theorem istep_mono {P:Program} {E:Env} (hE:EnvOK P E) {ρ:Opd -> Value} {h h':Heap} {n:Nat} {i:IOp} {o:Out} (hl:hle h h') (hs:istep E ρ h n i=some o):istep E ρ h' n i=some o:=by
 cases i
 case load g sz a=>
  simp only [istep] at hs ⊢
  split at hs
  ·rename_i k off ha
   split at hs
   ·rename_i blk hk
    simp only [ha,hl k blk hk];exact hs
   ·cases hs
  ·cases hs
 case store sz a x=>
  simp only [istep] at hs ⊢
  split at hs
  ·rename_i k off ha
   split at hs
   ·rename_i blk hk
    simp only [ha,hl k blk hk];exact hs
   ·cases hs
  ·cases hs
 case b2s x=>
  simp only [istep] at hs ⊢
  split at hs
  ·exact hs
  ·rename_i k off len cap hx
   split at hs
   ·rename_i blk hk
    simp only [hx,hl k blk hk];exact hs
   ·cases hs
  ·cases hs
 case slarr len sz x lo hi=>
  simp only [istep] at hs ⊢
  split at hs
  ·rename_i k off ha
   split at hs
   ·rename_i blk hk
    simp only [ha,hl k blk hk];exact hs
   ·cases hs
  ·cases hs
 case clr z x=>
  simp only [istep] at hs ⊢
  generalize ρ x=v at hs ⊢
  split at hs
  ·exact hs
  ·exact hs
  ·rename_i k off len c h0
   split at hs
   ·rename_i blk hk
    cases len with
    | zero=>exact absurd rfl h0
    | succ len=>simp only [hl _ blk hk];exact hs
   ·cases hs
  ·cases hs
 case call f args=>exact hE.mono f _ h h' n o hl hs
 case callv x args=>
  simp only [istep,callF] at hs ⊢
  split at hs
  ·rename_i f xs cs hx
   exact hE.mono f _ h h' n o hl hs
  ·cases hs
 case app e sz bytes s x=>
  simp only [istep] at hs ⊢
  have hsrc:∀ xl xa src,srcOf h sz xl xa=some src -> srcOf h' sz xl xa=some src:=by
   intro xl xa src e
   unfold srcOf at e ⊢
   split at e
   ·exact e
   ·rename_i k off
    cases hk:hget h k with
    | none=>simp [hk] at e
    | some blk=>rw [hl k blk hk];rw [hk] at e;exact e
   ·exact e
  split at hs
  ·rename_i sv xa xl xc hx
   split at hs
   ·cases hs
   ·rename_i src h1
    rw [hsrc _ _ _ h1]
    simp only
    split at hs
    ·rename_i h0;rw [if_pos h0];exact hs
    ·rename_i h0
     rw [if_neg h0]
     split at hs
     ·rename_i hsv;exact hs
     ·rename_i k off len cap hsv
      cases hk:hget h k with
      | none=>simp [hk] at hs
      | some blk=>
       rw [hk] at hs
       simp only [hsv,hl k blk hk];exact hs
     ·cases hs
  ·cases hs
 all_goals (exact hs)
theorem delta_keys {E:Env} {ρ:Opd -> Value} {h:Heap} {n:Nat} {i:IOp} {v:Value} {δ:Heap} {m:Nat} (hs:istep E ρ h n i=some (v,δ,m)) (hc:isCall i=true -> freshOnly δ n m) :
  ∀ x ∈ δ,(n <= x.1 /\ x.1 < n+m) \/ (writes i=true /\ ∃ b,hget h x.1=some b):=by
 intro x hx
 by_cases hcap:capable i=true
 ·cases i <;> simp [capable] at hcap
  case alloc e sz z=>simp [istep] at hs;obtain ⟨_,rfl,rfl⟩:=hs;simp at hx;subst hx;left;simp
  case box e sz y=>simp [istep] at hs;obtain ⟨_,rfl,rfl⟩:=hs;simp at hx;subst hx;left;simp
  case bslice e sz len z ps=>
   simp only [istep,Option.map_eq_some_iff,Prod.mk.injEq] at hs;obtain ⟨_,_,_,rfl,rfl⟩:=hs;simp at hx;subst hx;left;simp
  case mkslice e sz by_ z l c=>
   simp only [istep] at hs
   split at hs
   ·split at hs
    ·simp at hs;obtain ⟨_,rfl,rfl⟩:=hs;simp at hx;subst hx;left;simp
    ·cases hs
   ·cases hs
  case appz e sz by_ z s y=>
   simp only [istep] at hs
   split at hs
   ·split at hs
    ·simp at hs;obtain ⟨_,rfl,rfl⟩:=hs;simp at hx;subst hx;left;simp
    ·cases hs
   ·cases hs
  case clr z y=>
   simp only [istep] at hs
   split at hs
   ·simp at hs;obtain ⟨_,rfl,rfl⟩:=hs;simp at hx
   ·simp at hs;obtain ⟨_,rfl,rfl⟩:=hs;simp at hx
   ·split at hs
    ·rename_i blk hk
     split at hs
     ·simp at hs;obtain ⟨_,rfl,rfl⟩:=hs;simp at hx;subst hx;exact .inr ⟨rfl,blk,hk⟩
     ·cases hs
    ·cases hs
   ·cases hs
  case call f args=>exact .inl (hc rfl x hx)
  case callv f args=>exact .inl (hc rfl x hx)
  case store sz a y=>
   obtain ⟨k,b,b',h1,rfl,rfl,_⟩:=store_only (i:=.store sz a y) rfl hs
   simp at hx;subst hx
   exact .inr ⟨rfl,b,h1⟩
  case app e sz by_ s y=>
   simp only [istep] at hs
   split at hs
   ·split at hs
    ·cases hs
    ·split at hs
     ·split at hs
      ·split at hs
       ·simp at hs;obtain ⟨_,rfl,rfl⟩:=hs;simp at hx
       ·cases hs
      ·cases hs
     ·split at hs
      ·split at hs
       ·simp at hs;obtain ⟨_,rfl,rfl⟩:=hs;simp at hx;subst hx;left;simp
       ·cases hs
      ·rename_i k off len cap hsv
       cases hk:hget h k with
       | none=>simp [hk] at hs
       | some blk=>
        simp only [hk,Option.bind_some] at hs
        split at hs
        ·split at hs
         ·simp at hs;obtain ⟨_,rfl,rfl⟩:=hs;simp at hx;subst hx;exact .inr ⟨rfl,blk,hk⟩
         ·split at hs
          ·simp at hs;obtain ⟨_,rfl,rfl⟩:=hs;simp at hx
           rcases hx with rfl | rfl
           ·left;simp
           ·exact .inr ⟨rfl,blk,hk⟩
          ·cases hs
        ·split at hs
         ·simp at hs;obtain ⟨_,rfl,rfl⟩:=hs;simp at hx;subst hx;left;simp
         ·cases hs
      ·cases hs
   ·cases hs
 ·obtain ⟨rfl,_⟩:=incapable (by simpa using hcap) hs
  simp at hx
def keys (δ:Heap):List Nat:=δ.map Prod.fst
def StepFact (E : Env) (um : Nat → List Nat) (v : Nat → Value) (δ : Nat → Heap) (m : Nat → Nat) (st : Nat → St) (j : Nat) (r : ROp) : Prop :=
  ((wantedI r.g (st j).tm = true ∧ istep E (ev (st j).tm) ((um j).flatMap (fun i => (δ i).map fun x => (x.1, none)) ++ (st j).hp) (st j).nx r.op = some (v j, δ j, m j) ∧ (isCall r.op = true → freshOnly (δ j) (st j).nx (m j)))
    ∨ (wantedI r.g (st j).tm = false ∧ v j = undef ∧ δ j = [] ∧ m j = 0 ∧ ncG r.g (st j).tm)) ∧
  (∀ g sz a, wantedI r.g (st j).tm = true → r.op = .load g sz a → δ (1000 + j) = rdH (ev (st j).tm a)) ∧
  st (j + 1) = ⟨putT r.dst (v j) (st j).tm, δ j ++ (st j).hp, (st j).nx + m j⟩
theorem umOf_lt {bits:List Nat} {irs:List ROp} {j i:Nat} (h:i ∈ umOf bits irs j):i < j \/ (1000 <= i /\ i < 1000+j):=by
 unfold umOf at h
 rw [List.mem_append] at h
 rcases h with h | h
 ·unfold umW at h;rw [List.mem_filter] at h;exact .inl (by simpa using h.1)
 ·rw [List.mem_map] at h
  obtain ⟨i',h1,rfl⟩:=h
  rw [List.mem_filter] at h1
  have:i' < j:=by simpa using h1.1
  exact .inr ⟨by omega,by omega⟩
theorem lget_rdL {j:Nat} {ρ:Opd -> Value} {op:IOp} {log:Log} {i:Nat} (h:i ≠ 1000+j):lget (rdL j ρ op log) i=lget log i:=by
 unfold rdL
 split
 ·simp only [lget];rw [if_neg (fun e=>h e.symm)]
 ·rfl
theorem trace_of {E:Env} {K:St -> Prop} {bits:List Nat} {irs:List ROp}:∀ (rs:List ROp) (j:Nat) (log:Log) (s:St),j+rs.length <= 1000 -> (∀ i,(j <= i /\ i < 1000) \/ 1000+j <= i -> lget log i=[]) -> wpD E K (toD bits irs rs j) j log s ->
  ∃ v δ m st,st j=s /\ (∀ i,(i < j \/ (1000 <= i /\ i < 1000+j)) -> δ i=lget log i) /\ (∀ i r,rs[i]?=some r -> StepFact E (umOf bits irs) v δ m st (j+i) r) /\ K (st (j+rs.length))
 | [],j,log,s,hj,hl,h=>⟨fun _=>undef,lget log,fun _=>0,fun _=>s,rfl,fun _ _=>rfl,fun i r e=>by simp at e,h⟩
 | r :: rs,j,log,s,hj,hl,h=>by
  simp only [List.length_cons] at hj
  simp only [toD,wpD] at h
  have hc:=guarded_cases h
  have fin:∀ (v0:Value) (δ0:Heap) (m0:Nat) (log':Log),(∀ i,(j+1 <= i /\ i < 1000) \/ 1000+(j+1) <= i -> lget log' i=[]) -> lget log' j=δ0 -> (∀ i,(i < j \/ (1000 <= i /\ i < 1000+j)) -> lget log' i=lget log i) ->
    ((wantedI r.g s.tm=true /\ istep E (ev s.tm) (maskH (umOf bits irs j) log ++ s.hp) s.nx r.op=some (v0,δ0,m0) /\ (isCall r.op=true -> freshOnly δ0 s.nx m0)) \/ (wantedI r.g s.tm=false /\ v0=undef /\ δ0=[] /\ m0=0 /\ ncG r.g s.tm)) ->
    (∀ g sz a,wantedI r.g s.tm=true -> r.op = .load g sz a -> lget log' (1000+j)=rdH (ev s.tm a)) ->
    wpD E K (toD bits irs rs (j+1)) (j+1) log' ⟨putT r.dst v0 s.tm,δ0 ++ s.hp,s.nx+m0⟩ ->
    ∃ v δ m st,st j=s /\ (∀ i,(i < j \/ (1000 <= i /\ i < 1000+j)) -> δ i=lget log i) /\ (∀ i q,(r :: rs)[i]?=some q -> StepFact E (umOf bits irs) v δ m st (j+i) q) /\ K (st (j+(r :: rs).length)):=by
   intro v0 δ0 m0 log' h1 h2 h3 h4 h6 h5
   obtain ⟨v,δ,m,st,e1,e2,e3,e4⟩:=trace_of rs (j+1) log' _ (by omega) h1 h5
   have hδ:δ j=δ0:=by rw [e2 j (by omega),h2]
   refine ⟨fun i=>if i=j then v0 else v i,δ,fun i=>if i=j then m0 else m i,fun i=>if i=j then s else st i,by simp,fun i hi=>by rw [e2 i (by omega),h3 i hi],?_,?_⟩
   ·intro i q hq
    cases i with
    | zero=>
     simp at hq;subst hq
     have hm:(umOf bits irs j).flatMap (fun i=>(δ i).map fun x=>(x.1,(none:Option Blk)))=maskH (umOf bits irs j) log:=by
      unfold maskH
      have:∀ l:List Nat,(∀ i ∈ l,i < j \/ (1000 <= i /\ i < 1000+j)) -> l.flatMap (fun i=>(δ i).map fun x=>(x.1,(none:Option Blk)))=l.flatMap (fun i=>(lget log i).map fun x=>(x.1,none)):=by
       intro l
       induction l with
       | nil=>intro _;rfl
       | cons a l ih=>
        intro hl
        simp only [List.flatMap_cons]
        rw [ih (fun i hi=>hl i (by simp [hi])),e2 a (by have:=hl a (by simp);omega),h3 a (hl a (by simp))]
      exact this _ (fun i hi=>umOf_lt hi)
     unfold StepFact
     simp only [Nat.add_zero,if_true,hδ,hm]
     refine ⟨h4,?_,?_⟩
     ·intro g sz a hw ho
      rw [e2 (1000+j) (by omega)]
      exact h6 g sz a hw ho
     ·rw [if_neg (by omega),e1]
    | succ i=>
     have:=e3 i q (by simpa using hq)
     have e:j+(i+1)=j+1+i:=by omega
     rw [e]
     unfold StepFact at this ⊢
     have ne1:¬ (j+1+i=j):=by omega
     have ne2:¬ (j+1+i+1=j):=by omega
     simp only [if_neg ne1,if_neg ne2]
     exact this
   ·have e:j+(r :: rs).length=j+1+rs.length:=by simp;omega
    rw [e]
    simp only
    rw [if_neg (by omega)]
    exact e4
  cases hw:wantedI r.g s.tm with
  | true=>
   have h1:=hc.1 hw
   cases ho:istep E (ev s.tm) (maskH (umOf bits irs j) log ++ s.hp) s.nx r.op with
   | none=>rw [ho] at h1;exact h1.elim
   | some out=>
    obtain ⟨v0,δ0,m0⟩:=out
    rw [ho] at h1
    simp only [afterD] at h1
    refine fin v0 δ0 m0 ((j,δ0) :: rdL j (ev s.tm) r.op log) (fun i hi=>?_) (by simp [lget]) (fun i hi=>?_) (.inl ⟨hw,ho,h1.1⟩) (fun g sz a _ hop=>?_) h1.2
    ·simp only [lget];rw [if_neg (by omega),lget_rdL (by omega)];exact hl i (by omega)
    ·simp only [lget];rw [if_neg (by omega),lget_rdL (by omega)]
    ·simp only [lget];rw [if_neg (by omega),hop];simp [rdL,lget]
  | false=>
   have h1:=hc.2 hw
   exact fin undef [] 0 log (fun i hi=>hl i (by omega)) (hl j (by omega)) (fun _ _=>rfl) (.inr ⟨hw,rfl,rfl,rfl,guarded_nc h⟩) (fun g sz a hw' _=>by rw [hw] at hw';cases hw') (by simpa using h1)
theorem fold_bit (b:Edge -> Bool) (acc:List Nat) (i:Nat):∀ (l:List Edge) (s:Nat),(l.foldl (fun s e=>if b e then s ||| 2 ^ e.on ||| acc.getD e.on 0 else s) s).testBit i=true ->
  s.testBit i=true \/ ∃ e ∈ l,b e=true /\ (e.on=i \/ (acc.getD e.on 0).testBit i=true)
 | [],s,h => .inl h
 | e :: l,s,h=>by
  simp only [List.foldl_cons] at h
  rcases fold_bit b acc i l _ h with h1 | ⟨e',m,h2⟩
  ·split at h1
   ·rename_i hb
    simp only [Nat.testBit_or,Bool.or_eq_true,Nat.testBit_two_pow,decide_eq_true_eq] at h1
    rcases h1 with (h1 | h1) | h1
    ·exact .inl h1
    ·exact .inr ⟨e,by simp,hb,.inl h1⟩
    ·exact .inr ⟨e,by simp,hb,.inr h1⟩
   ·exact .inl h1
  ·exact .inr ⟨e',by simp [m],h2⟩
theorem ancBits_at:∀ (r:List Oper) (acc:List Nat),(∀ k,k < acc.length -> (ancBits r acc).getD k 0=acc.getD k 0) /\
  ∀ i o,r[i]?=some o -> ∃ acc':List Nat,acc'.length=acc.length+i /\ (∀ k,k < acc.length+i -> (ancBits r acc).getD k 0=acc'.getD k 0) /\
   (ancBits r acc).getD (acc.length+i) 0=o.after.toList.foldl (fun s e=>if Region.binds .any e then s ||| 2 ^ e.on ||| acc'.getD e.on 0 else s) 0
 | [],acc=>⟨fun _ _=>rfl,fun i o e=>by simp at e⟩
 | x :: r,acc=>by
  obtain ⟨h1,h2⟩:=ancBits_at r (acc ++ [x.after.toList.foldl (fun s e=>if Region.binds .any e then s ||| 2 ^ e.on ||| acc.getD e.on 0 else s) 0])
  have pre:∀ k,k < acc.length -> (ancBits (x :: r) acc).getD k 0=acc.getD k 0:=by
   intro k hk
   simp only [ancBits]
   rw [h1 k (by simp;omega),List.getD_eq_getElem?_getD,List.getD_eq_getElem?_getD,List.getElem?_append_left hk]
  refine ⟨pre,?_⟩
  intro i o e
  cases i with
  | zero=>
   simp at e;subst e
   refine ⟨acc,by simp,fun k hk=>pre k (by simpa using hk),?_⟩
   simp only [ancBits,Nat.add_zero]
   rw [h1 acc.length (by simp),List.getD_eq_getElem?_getD,List.getElem?_append_right (Nat.le_refl _)]
   simp
  | succ i=>
   simp at e
   obtain ⟨acc',a1,a2,a3⟩:=h2 i o e
   simp only [List.length_append,List.length_singleton] at a1 a2 a3
   refine ⟨acc',by omega,fun k hk=>a2 k (by omega),?_⟩
   have:acc.length+(i+1)=acc.length+1+i:=by omega
   rw [this]
   exact a3
theorem edgesOK_at:∀ (ops:List Oper) (j:Nat),edgesOK ops j=true -> ∀ i o,ops[i]?=some o -> ∀ e ∈ o.after,Region.binds .any e=true -> e.on < j+i
 | [],j,h,i,o,e=>by simp at e
 | x :: r,j,h,i,o,e=>by
  simp only [edgesOK,Bool.and_eq_true] at h
  cases i with
  | zero=>
   simp at e;subst e
   intro ed hm hb
   have:=List.all_eq_true.1 h.1 ed (by simpa using hm)
   simpa [hb] using this
  | succ i=>
   intro ed hm hb
   have:=edgesOK_at r (j+1) h.2 i o (by simpa using e) ed hm hb
   omega
theorem anc_in {ops:List Oper} (he:edgesOK ops 0=true) {D:Nat -> Prop} (hD:∀ j o,ops[j]?=some o -> D j -> ∀ e ∈ o.after,Region.binds .any e=true -> D e.on) :
  ∀ (j:Nat) (o:Oper),ops[j]?=some o -> (∀ e ∈ o.after,Region.binds .any e=true -> D e.on) -> ∀ i,((ancBits ops []).getD j 0).testBit i=true -> D i:=by
 intro j
 induction j using Nat.strongRecOn with
 | _ j ih=>
  intro o ho hdeps i hi
  obtain ⟨acc',a1,a2,a3⟩:=(ancBits_at ops []).2 j o ho
  simp only [List.length_nil,Nat.zero_add] at a1 a2 a3
  rw [a3] at hi
  rcases fold_bit _ _ _ _ _ hi with h | ⟨e,hm,hb,h⟩
  ·simp at h
  ·have hm':e ∈ o.after:=by simpa using hm
   have hlt:=edgesOK_at ops 0 he j o ho e hm' hb
   simp only [Nat.zero_add] at hlt
   have hDe:=hdeps e hm' hb
   rcases h with rfl | h
   ·exact hDe
   ·rw [<- a2 e.on hlt] at h
    have hlen:e.on < ops.length:=by
     have:j < ops.length:=(List.getElem?_eq_some_iff.1 ho).1
     omega
    exact ih e.on hlt ops[e.on] (List.getElem?_eq_getElem hlen) (hD e.on _ (List.getElem?_eq_getElem hlen) hDe) i h
theorem hget_append_in:∀ {δ h:Heap} {k:Nat},k ∈ keys δ -> hget (δ ++ h) k=hget δ k
 | [],h,k,e=>by simp [keys] at e
 | (k',b) :: δ,h,k,e=>by
  by_cases hk:k'=k
  ·simp [hget,hk]
  ·simp only [List.cons_append,hget,hk,if_false]
   exact hget_append_in (by simpa [keys,Ne.symm hk] using e)
theorem hget_append_out:∀ {δ h:Heap} {k:Nat},k ∉ keys δ -> hget (δ ++ h) k=hget h k
 | [],h,k,e=>rfl
 | (k',b) :: δ,h,k,e=>by
  simp only [keys,List.map_cons,List.mem_cons,not_or] at e
  simp only [List.cons_append,hget]
  rw [if_neg (fun h=>e.1 h.symm)]
  exact hget_append_out e.2
theorem hget_mask:∀ {l:List Nat} {δ:Nat -> Heap} {h:Heap} {k:Nat} {b:Blk},hget (l.flatMap (fun i=>(δ i).map fun x=>(x.1,(none:Option Blk))) ++ h) k=some b -> hget h k=some b /\ ∀ i ∈ l,k ∉ keys (δ i):=by
 intro l δ h k b e
 have mk:∀ (M:Heap),(∀ x ∈ M,x.2=none) -> k ∈ keys M -> hget M k=none:=by
  intro M
  induction M with
  | nil=>intro _ e;simp [keys] at e
  | cons x M ih=>
   obtain ⟨k',b'⟩:=x
   intro hn e
   by_cases hk:k'=k
   ·have hb:b'=none:=hn (k',b') (by simp)
    simp [hget,hk,hb]
   ·simp only [hget,hk,if_false]
    exact ih (fun x hx=>hn x (by simp [hx])) (by simpa [keys,Ne.symm hk] using e)
 by_cases hin:k ∈ keys (l.flatMap (fun i=>(δ i).map fun x=>(x.1,(none:Option Blk))))
 ·rw [hget_append_in hin,mk _ (fun x hx=>by
   simp only [List.mem_flatMap,List.mem_map] at hx
   obtain ⟨_,_,_,_,rfl⟩:=hx;rfl) hin] at e
  cases e
 ·rw [hget_append_out hin] at e
  refine ⟨e,fun i hi hk=>hin ?_⟩
  simp only [keys,List.mem_map,List.mem_flatMap] at hk ⊢
  obtain ⟨x,hx,rfl⟩:=hk
  exact ⟨(x.1,none),⟨i,hi,x,hx,rfl⟩,rfl⟩
end Go.Eng
end
section
namespace Go.Eng
theorem trOpers_at {P:Program} {nt:Nat} {opsA:List Oper}:∀ {ops:List Oper} {irs:List ROp},trOpers P nt opsA ops=some irs -> irs.length=ops.length /\ ∀ (j:Nat) (o:Oper),ops[j]?=some o -> ∃ r,irs[j]?=some r /\ trOper P nt opsA o=some r
 | [],irs,e=>by simp [trOpers] at e;subst e;exact ⟨rfl,fun j o h=>by simp at h⟩
 | x :: ops,irs,e=>by
  unfold trOpers at e
  split at e
  ·rename_i a b h1 h2
   cases e
   obtain ⟨g1,g2⟩:=trOpers_at h2
   refine ⟨by simp [g1],fun j o h=>?_⟩
   cases j with
   | zero=>simp at h;subst h;exact ⟨a,by simp,h1⟩
   | succ j=>simpa using g2 j o (by simpa using h)
  ·cases e
theorem trOper_facts {P:Program} {nt:Nat} {ops:List Oper} {o:Oper} {r:ROp} (e:trOper P nt ops o=some r) :
  r.dst=o.dst /\ trOp P o.op=some r.op /\ dstOK o.dst nt=true /\ (∀ t want,r.g=some (t,want) -> t ∈ o.looksAt ops.toArray) /\ (∀ t,Opd.t t ∈ iopds r.op -> t ∈ o.looksAt ops.toArray) /\ (∀ cs b,o.op ≠ .select cs b):=by
 unfold trOper at e
 split at e
 ·rename_i hd
  split at e
  ·rename_i i hi
   have ho:∀ t,Opd.t t ∈ iopds i -> t ∈ o.looksAt ops.toArray:=by
    intro t ht
    obtain ⟨x,hx,hx2⟩:=trOp_opds hi _ ht
    have:x = .tmp t:=by
     cases x <;> simp [trOpd] at hx2
     exact congrArg _ hx2
    subst this
    unfold Oper.looksAt
    exact List.mem_append_left _ (List.mem_filterMap.2 ⟨.tmp t,by simpa using hx,rfl⟩)
   have hsel:∀ cs b,o.op ≠ .select cs b:=by
    intro cs b h
    rw [h] at hi;simp [trOp] at hi
   split at e
   ·rename_i hg
    cases e
    exact ⟨rfl,hi,hd,fun t want h=>(by cases h),ho,hsel⟩
   ·rename_i j want hg
    split at e
    ·rename_i t hj
     split at e
     ·cases e
      refine ⟨rfl,hi,hd,fun t' want' h=>?_,ho,hsel⟩
      simp only [Option.some.injEq,Prod.mk.injEq] at h
      obtain ⟨rfl,rfl⟩:=h
      unfold Oper.looksAt
      refine List.mem_append_right _ ?_
      simp only [hg,List.getElem?_toArray,hj]
      simp
     ·cases e
    ·cases e
  ·cases e
 ·cases e
section
variable {P:Program} {E:Env} {β0:Emb} {h0:Heap} {w0:World} {nt:Nat}
variable {ops:List Oper} {irs:List ROp} {bits:List Nat} {s0:St} {v:Nat -> Value} {δ:Nat -> Heap} {m:Nat -> Nat} {st:Nat -> St}
structure Text (P:Program) (E:Env) (nt:Nat) (ops:List Oper) (irs:List ROp) (bits:List Nat) (s0:St) (v:Nat -> Value) (δ:Nat -> Heap) (m:Nat -> Nat) (st:Nat -> St):Prop where
 env:EnvOK P E
 bits_eq:bits=ancBits ops []
 edges:edgesOK ops 0=true
 pairs:allPairs ops bits irs=true
 len:irs.length=ops.length
 tr:∀ (j:Nat) (o:Oper),ops[j]?=some o -> ∃ r,irs[j]?=some r /\ trOper P nt ops o=some r
 start:st 0=s0
 step:∀ (i:Nat) (r:ROp),irs[i]?=some r -> StepFact E (umOf bits irs) v δ m st i r
 base:∀ k b,hget s0.hp k=some b -> k < s0.nx
def A (bits:List Nat) (i j:Nat):Prop:=(bits.getD j 0).testBit i=true
theorem Text.pair (T:Text P E nt ops irs bits s0 v δ m st) {i j:Nat} (hij:i < j) (hj:j < ops.length) (hA:¬ A bits i j) :
  ∃ oi oj ri rj,ops[i]?=some oi /\ ops[j]?=some oj /\ irs[i]?=some ri /\ irs[j]?=some rj /\ oi.apart ops.toArray oj=true /\ (writes rj.op=true -> blind ri.op=true \/ isStore ri.op=true \/ isLoad ri.op=true):=by
 have h1:=T.pairs
 unfold allPairs at h1
 rw [List.all_eq_true] at h1
 have h2:=h1 j (by simpa using hj)
 rw [List.all_eq_true] at h2
 have h3:=h2 i (by simpa using hij)
 unfold pairOK at h3
 rw [Bool.or_eq_true] at h3
 rcases h3 with h3 | h3
 ·exact absurd h3 hA
 ·split at h3
  ·rename_i oi oj ri rj e1 e2 e3 e4
   simp only [Bool.and_eq_true,Bool.or_eq_true,Bool.not_eq_true'] at h3
   refine ⟨oi,oj,ri,rj,e1,e2,e3,e4,h3.1,fun hw=>?_⟩
   rcases h3.2 with ((h | h) | h) | h
   ·rw [hw] at h;cases h
   ·exact .inl h
   ·exact .inr (.inl h)
   ·exact .inr (.inr h)
  ·cases h3
theorem Text.nx_succ (T:Text P E nt ops irs bits s0 v δ m st) {j:Nat} (hj:j < ops.length):(st (j+1)).nx=(st j).nx+m j:=by
 have:=T.step j _ (List.getElem?_eq_getElem (by rw [T.len];exact hj))
 rw [this.2.2]
theorem Text.nx_mono (T : Text P E nt ops irs bits s0 v δ m st) {i : Nat} : ∀ {j : Nat}, i ≤ j → j ≤ ops.length → (st i).nx ≤ (st j).nx := by
  intro j hij
  induction j with
  | zero => intro _; have : i = 0 := by omega
            subst this; exact Nat.le_refl _
  | succ j ih =>
    intro hj
    by_cases e : i = j + 1
    · subst e; exact Nat.le_refl _
    · have := ih (by omega) (by omega)
      rw [T.nx_succ (by omega)]; omega
theorem Text.touch (T:Text P E nt ops irs bits s0 v δ m st) {j:Nat} {r:ROp} (hr:irs[j]?=some r) {k:Nat} (hk:k ∈ keys (δ j)) :
  ((st j).nx <= k /\ k < (st j).nx+m j) \/ (writes r.op=true /\ ∃ b,hget ((umOf bits irs j).flatMap (fun i=>(δ i).map fun x=>(x.1,none)) ++ (st j).hp) k=some b):=by
 obtain ⟨h1,_⟩:=T.step j r hr
 rcases h1 with ⟨_,hs,hc⟩ | ⟨_,_,hd,_,_⟩
 ·simp only [keys,List.mem_map] at hk
  obtain ⟨x,hx,rfl⟩:=hk
  exact delta_keys hs hc x hx
 ·rw [hd] at hk;simp [keys] at hk
theorem Text.capable (T:Text P E nt ops irs bits s0 v δ m st) {j:Nat} {r:ROp} (hr:irs[j]?=some r) {k:Nat} (hk:k ∈ keys (δ j)):Eng.capable r.op=true:=by
 obtain ⟨h1,_⟩:=T.step j r hr
 rcases h1 with ⟨_,hs,hc⟩ | ⟨_,_,hd,_,_⟩
 ·cases hcap:Eng.capable r.op with
  | true=>rfl
  | false=>rw [(incapable hcap hs).1] at hk;simp [keys] at hk
 ·rw [hd] at hk;simp [keys] at hk
theorem Text.live (T:Text P E nt ops irs bits s0 v δ m st):∀ {j:Nat},j <= ops.length -> ∀ k b,hget (st j).hp k=some b -> k < (st j).nx
 | 0,_,k,b,h=>by rw [T.start] at h ⊢;exact T.base k b h
 | j+1,hj,k,b,h=>by
  have hr:irs[j]?=some (irs[j]'(by rw [T.len];omega)):=List.getElem?_eq_getElem _
  have hs:=(T.step j _ hr).2.2
  have hn:=T.nx_succ (j:=j) (by omega)
  rw [hn]
  rw [hs] at h
  simp only at h
  by_cases hk:k ∈ keys (δ j)
  ·rcases T.touch hr hk with h1 | ⟨_,b',h1⟩
   ·exact h1.2
   ·have:=T.live (j:=j) (by omega) k b' (hget_mask h1).1
    omega
  ·rw [hget_append_out hk] at h
   have:=T.live (j:=j) (by omega) k b h
   omega
theorem Text.touch_lt (T:Text P E nt ops irs bits s0 v δ m st) {j:Nat} (hj:j < ops.length) {k:Nat} (hk:k ∈ keys (δ j)):k < (st (j+1)).nx:=by
 have hr:irs[j]?=some (irs[j]'(by rw [T.len];omega)):=List.getElem?_eq_getElem _
 rw [T.nx_succ hj]
 rcases T.touch hr hk with h1 | ⟨_,b',h1⟩
 ·exact h1.2
 ·have:=T.live (j:=j) (by omega) k b' (hget_mask h1).1
  omega
theorem mem_um {i j:Nat} {ri rj:ROp} (hij:i < j) (hA:¬ A bits i j) (hi:irs[i]?=some ri) (hc:capable ri.op=true) (hj:irs[j]?=some rj) (hb:blind rj.op=false):i ∈ umOf bits irs j:=by
 unfold umOf
 rw [List.mem_append]
 left
 unfold umW
 rw [List.mem_filter]
 refine ⟨by simpa using hij,?_⟩
 have:(bits.getD j 0).testBit i=false:=by
  cases h:(bits.getD j 0).testBit i with
  | true=>exact absurd h hA
  | false=>rfl
 simp only [this,hi,hc,hj,hb,Bool.not_false,Bool.and_self]
theorem mem_ur {i j:Nat} {ri rj:ROp} (hij:i < j) (hA:¬ A bits i j) (hi:irs[i]?=some ri) (hc:isLoad ri.op=true) (hj:irs[j]?=some rj) (hb:writes rj.op=true):1000+i ∈ umOf bits irs j:=by
 unfold umOf
 rw [List.mem_append]
 right
 rw [List.mem_map]
 refine ⟨i,?_,rfl⟩
 rw [List.mem_filter]
 refine ⟨by simpa using hij,?_⟩
 have:(bits.getD j 0).testBit i=false:=by
  cases h:(bits.getD j 0).testBit i with
  | true=>exact absurd h hA
  | false=>rfl
 simp only [this,hi,hc,hj,hb,Bool.not_false,Bool.and_self]
theorem writes_sees {i:IOp} (h:writes i=true):blind i=false:=by
 cases i <;> simp [writes] at h <;> rfl
theorem Text.both (T:Text P E nt ops irs bits s0 v δ m st) {i j:Nat} (hij:i < j) (hj:j < ops.length) {k:Nat} (hki:k ∈ keys (δ i)) (hkj:k ∈ keys (δ j)):A bits i j:=by
 by_cases hA:A bits i j
 ·exact hA
 ·exfalso
  have hri:irs[i]?=some (irs[i]'(by rw [T.len];omega)):=List.getElem?_eq_getElem _
  have hrj:irs[j]?=some (irs[j]'(by rw [T.len];omega)):=List.getElem?_eq_getElem _
  have hlt:=T.touch_lt (by omega) hki
  have hmono:=T.nx_mono (i:=i+1) (j:=j) (by omega) (by omega)
  rcases T.touch hrj hkj with h1 | ⟨hw,b',h1⟩
  ·omega
  ·exact (hget_mask h1).2 i (mem_um hij hA hri (T.capable hri hki) hrj (writes_sees hw)) hki
theorem Text.slot (T:Text P E nt ops irs bits s0 v δ m st) (t:Nat):∀ {j:Nat},j <= ops.length ->
  ((∀ (i:Nat) (r:ROp),i < j -> irs[i]?=some r -> r.dst ≠ some t) /\ tmget (st j).tm t=tmget s0.tm t) \/
  (∃ (i:Nat) (r:ROp),i < j /\ irs[i]?=some r /\ r.dst=some t /\ (∀ (i':Nat) (r':ROp),i < i' -> i' < j -> irs[i']?=some r' -> r'.dst ≠ some t) /\ tmget (st j).tm t=v i)
 | 0,_ => .inl ⟨fun i r h=>by omega,by rw [T.start]⟩
 | j+1,hj=>by
  have hr:irs[j]?=some (irs[j]'(by rw [T.len];omega)):=List.getElem?_eq_getElem _
  have hs:=(T.step j _ hr).2.2
  generalize irs[j]'(by rw [T.len];omega)=r at hr hs
  rw [hs]
  by_cases hd:r.dst=some t
  ·exact .inr ⟨j,r,by omega,hr,hd,fun i' r' h1 h2=>by omega,by simp [hd,putT,tmget]⟩
  ·have e1:tmget (putT r.dst (v j) (st j).tm) t=tmget (st j).tm t:=by
    cases hdd:r.dst with
    | none=>rfl
    | some d=>
     simp only [putT,tmget]
     rw [if_neg (fun e=>hd (by rw [hdd,e]))]
   rw [e1]
   rcases T.slot t (j:=j) (by omega) with ⟨h1,h2⟩ | ⟨i,ri,h1,h2,h3,h4,h5⟩
   ·refine .inl ⟨fun i ri hi hri=>?_,h2⟩
    by_cases e:i=j
    ·subst e;rw [hr] at hri;cases hri;exact hd
    ·exact h1 i ri (by omega) hri
   ·refine .inr ⟨i,ri,by omega,h2,h3,fun i' r' g1 g2 g3=>?_,h5⟩
    by_cases e:i'=j
    ·subst e;rw [hr] at g3;cases g3;exact hd
    ·exact h4 i' r' g1 (by omega) g3
theorem Text.block (T:Text P E nt ops irs bits s0 v δ m st) (k:Nat):∀ {j:Nat},j <= ops.length ->
  ((∀ i,i < j -> k ∉ keys (δ i)) /\ hget (st j).hp k=hget s0.hp k) \/
  (∃ i,i < j /\ k ∈ keys (δ i) /\ (∀ i',i < i' -> i' < j -> k ∉ keys (δ i')) /\ hget (st j).hp k=hget (δ i) k)
 | 0,_ => .inl ⟨fun i h=>by omega,by rw [T.start]⟩
 | j+1,hj=>by
  have hr:irs[j]?=some (irs[j]'(by rw [T.len];omega)):=List.getElem?_eq_getElem _
  have hs:=(T.step j _ hr).2.2
  rw [hs]
  simp only
  by_cases hd:k ∈ keys (δ j)
  ·exact .inr ⟨j,by omega,hd,fun i' h1 h2=>by omega,hget_append_in hd⟩
  ·rw [hget_append_out hd]
   rcases T.block k (j:=j) (by omega) with ⟨h1,h2⟩ | ⟨i,h1,h2,h3,h4⟩
   ·refine .inl ⟨fun i hi=>?_,h2⟩
    by_cases e:i=j
    ·subst e;exact hd
    ·exact h1 i (by omega)
   ·refine .inr ⟨i,by omega,h2,fun i' g1 g2=>?_,h4⟩
    by_cases e:i'=j
    ·subst e;exact hd
    ·exact h3 i' g1 (by omega)
end
end Go.Eng
end
section
namespace Go.Eng
section
variable {dd:List Deferred} {P:Program} {E:Env} {β0:Emb} {h0:Heap} {w0:World} {nt N0:Nat}
variable {ops:List Oper} {irs:List ROp} {bits:List Nat} {s0:St} {v:Nat -> Value} {δ:Nat -> Heap} {m:Nat -> Nat} {st:Nat -> St}
structure Inv (dd:List Deferred) (β0:Emb) (h0:Heap) (w0:World) (nt N0:Nat) (irs:List ROp) (bits:List Nat) (s0:St) (v:Nat -> Value) (δ:Nat -> Heap) (m:Nat -> Nat) (st:Nat -> St) (D:Nat -> Prop) (β:Emb) (a:Act) (w:World):Prop where
 sz:a.tmps.size=nt
 defs:a.defers=dd
 old:∀ t,(∀ (i:Nat) (r:ROp),irs[i]?=some r -> D i -> r.dst ≠ some t) -> VR β (tmget s0.tm t) (a.tmps.getD t undef)
 new:∀ t (i:Nat) (r:ROp),irs[i]?=some r -> D i -> r.dst=some t -> (∀ (i':Nat) (r':ROp),irs[i']?=some r' -> D i' -> r'.dst=some t -> i'=i \/ A bits i' i) -> VR β (v i) (a.tmps.getD t undef)
 heap:∃ hD,Rel β hD w /\ Fr β0 h0 w0 β hD w /\ (∀ k,(∀ i,i < irs.length -> D i -> k ∉ keys (δ i)) -> hget hD k=hget s0.hp k) /\
  (∀ k i,i < irs.length -> D i -> k ∈ keys (δ i) -> (∀ i',i' < irs.length -> D i' -> k ∈ keys (δ i') -> i'=i \/ A bits i' i) -> hget hD k=hget (δ i) k)
 dom:∀ k,β k ≠ none -> k < s0.nx \/ ∃ i,i < irs.length /\ D i /\ (st i).nx <= k /\ k < (st i).nx+m i
 lo:N0 <= s0.nx
 fresh:∀ k,β k ≠ none -> β0 k ≠ none \/ N0 <= k
theorem apart_sym {ops:Array Oper} {x y:Oper} (h:x.apart ops y=true):(∀ d,x.dst=some d -> d ∉ y.looksAt ops) /\ (∀ d,x.dst=some d -> y.dst ≠ some d) /\ (∀ d,y.dst=some d -> d ∉ x.looksAt ops):=Oper.apart_spec h
theorem slots_ok (T:Text P E nt ops irs bits s0 v δ m st) {D:Nat -> Prop} {β:Emb} {a:Act} {w:World} (I:Inv dd β0 h0 w0 nt N0 irs bits s0 v δ m st D β a w)
  {j:Nat} {oj:Oper} {rj:ROp} (hj:ops[j]?=some oj) (hrj:irs[j]?=some rj) (hjD:¬ D j) (hanc:∀ i,A bits i j -> D i) (hclosed:∀ i,D i -> i < ops.length -> ∀ i',A bits i' i -> D i') (t:Nat) (ht:t ∈ oj.looksAt ops.toArray) :
  VR β (tmget (st j).tm t) (a.tmps.getD t undef):=by
 have hjl:j < ops.length:=(List.getElem?_eq_some_iff.1 hj).1
 have early:∀ (i:Nat) (r:ROp),i < j -> irs[i]?=some r -> r.dst=some t -> A bits i j:=by
  intro i r hij hr hd
  by_cases hA:A bits i j
  ·exact hA
  ·exfalso
   obtain ⟨oi,oj',ri,rj',e1,e2,e3,e4,hap,_⟩:=T.pair hij hjl hA
   rw [hj] at e2;cases e2
   rw [hr] at e3;cases e3
   obtain ⟨r2,hr2,htr⟩:=T.tr i oi e1
   rw [hr] at hr2;cases hr2
   exact (apart_sym hap).1 t (by rw [<- (trOper_facts htr).1];exact hd) ht
 have late:∀ (i:Nat) (r:ROp),j < i -> irs[i]?=some r -> D i -> r.dst ≠ some t:=by
  intro i r hij hr hDi hd
  have hil:i < ops.length:=by rw [<- T.len];exact (List.getElem?_eq_some_iff.1 hr).1
  by_cases hA:A bits j i
  ·exact hjD (hclosed i hDi hil j hA)
  ·obtain ⟨oj',oi,rj',ri,e1,e2,e3,e4,hap,_⟩:=T.pair hij hil hA
   rw [hj] at e1;cases e1
   rw [hr] at e4;cases e4
   obtain ⟨r2,hr2,htr⟩:=T.tr i oi e2
   rw [hr] at hr2;cases hr2
   exact (apart_sym hap).2.2 t (by rw [<- (trOper_facts htr).1];exact hd) ht
 rcases T.slot t (j:=j) (by omega) with ⟨h1,h2⟩ | ⟨i,ri,h1,h2,h3,h4,h5⟩
 ·rw [h2]
  refine I.old t fun i r hr hDi hd=>?_
  rcases Nat.lt_trichotomy i j with h | h | h
  ·exact h1 i r h hr hd
  ·subst h;exact hjD hDi
  ·exact late i r h hr hDi hd
 ·rw [h5]
  refine I.new t i ri h2 (hanc i (early i ri h1 h2 h3)) h3 fun i' r' hr' hD' hd'=>?_
  rcases Nat.lt_trichotomy i' j with h | h | h
  ·rcases Nat.lt_trichotomy i' i with g | g | g
   ·right
    by_cases hA:A bits i' i
    ·exact hA
    ·exfalso
     have hil:i < ops.length:=by omega
     obtain ⟨oi',oi,ri',ri2,e1,e2,e3,e4,hap,_⟩:=T.pair g hil hA
     obtain ⟨q1,hq1,htr1⟩:=T.tr i' oi' e1
     obtain ⟨q2,hq2,htr2⟩:=T.tr i oi e2
     rw [hr'] at hq1;cases hq1
     rw [h2] at hq2;cases hq2
     exact (apart_sym hap).2.1 t (by rw [<- (trOper_facts htr1).1];exact hd') (by rw [<- (trOper_facts htr2).1];exact h3)
   ·exact .inl g
   ·exact absurd hd' (h4 i' r' g h hr')
  ·subst h;exact absurd hD' hjD
  ·exact absurd hd' (late i' r' h hr' hD')
theorem heap_ok (T:Text P E nt ops irs bits s0 v δ m st) {D:Nat -> Prop} {hD:Heap}
  (old:∀ k,(∀ i,i < irs.length -> D i -> k ∉ keys (δ i)) -> hget hD k=hget s0.hp k)
  (new:∀ k i,i < irs.length -> D i -> k ∈ keys (δ i) -> (∀ i',i' < irs.length -> D i' -> k ∈ keys (δ i') -> i'=i \/ A bits i' i) -> hget hD k=hget (δ i) k)
  {j:Nat} {rj:ROp} (hrj:irs[j]?=some rj) (hjD:¬ D j) (hanc:∀ i,A bits i j -> D i) (hclosed:∀ i,D i -> i < ops.length -> ∀ i',A bits i' i -> D i') {k:Nat} {b:Blk}
  (hk:hget ((umOf bits irs j).flatMap (fun i=>(δ i).map fun x=>(x.1,none)) ++ (st j).hp) k=some b) (hblind:blind rj.op=false) (hno:∀ i,j < i -> i < ops.length -> D i -> k ∉ keys (δ i)):hget hD k=some b:=by
 have hjl:j < ops.length:=by rw [<- T.len];exact (List.getElem?_eq_some_iff.1 hrj).1
 obtain ⟨hk1,hk2⟩:=hget_mask hk
 have early:∀ i,i < j -> k ∈ keys (δ i) -> A bits i j:=by
  intro i hij hki
  by_cases hA:A bits i j
  ·exact hA
  ·exfalso
   have hri:irs[i]?=some (irs[i]'(by rw [T.len];omega)):=List.getElem?_eq_getElem _
   exact hk2 i (mem_um hij hA hri (T.capable hri hki) hrj hblind) hki
 rw [<- hk1]
 rcases T.block k (j:=j) (by omega) with ⟨h1,h2⟩ | ⟨i,h1,h2,h3,h4⟩
 ·rw [h2]
  refine old k fun i hi hDi hki=>?_
  rcases Nat.lt_trichotomy i j with h | h | h
  ·exact h1 i h hki
  ·subst h;exact hjD hDi
  ·exact hno i h (by rw [<- T.len];exact hi) hDi hki
 ·rw [h4]
  refine new k i (by rw [T.len];omega) (hanc i (early i h1 h2)) h2 fun i' hi' hD' hk'=>?_
  rcases Nat.lt_trichotomy i' j with h | h | h
  ·rcases Nat.lt_trichotomy i' i with g | g | g
   ·exact .inr (T.both g (by omega) hk' h2)
   ·exact .inl g
   ·exact absurd hk' (h3 i' g h)
  ·subst h;exact absurd hD' hjD
  ·exact absurd hk' (hno i' h (by rw [<- T.len];exact hi') hD')
theorem load_only {E:Env} {ρ:Opd -> Value} {h:Heap} {n:Nat} {i:IOp} {v:Value} {δ:Heap} {m:Nat} (hb:isLoad i=true) (hs:istep E ρ h n i=some (v,δ,m)) :
  ∃ k b g sz x,hget h k=some b /\ i = .load g sz x /\ rdH (ρ x)=[(k,none)] /\ ∀ h',hget h' k=some b -> istep E ρ h' n i=some (v,δ,m):=by
 cases i <;> simp [isLoad] at hb
 rename_i g sz a
 have hs0:=hs
 simp only [istep] at hs
 split at hs
 ·rename_i k off ha
  split at hs
  ·rename_i blk hk
   refine ⟨k,blk,g,sz,a,hk,rfl,by rw [ha];rfl,fun h' hh'=>?_⟩
   rw [<- hs0]
   simp only [istep,ha,hh',hk]
  ·cases hs
 ·cases hs
theorem same_step (T:Text P E nt ops irs bits s0 v δ m st) {D:Nat -> Prop} {hD:Heap}
  (old:∀ k,(∀ i,i < irs.length -> D i -> k ∉ keys (δ i)) -> hget hD k=hget s0.hp k)
  (new:∀ k i,i < irs.length -> D i -> k ∈ keys (δ i) -> (∀ i',i' < irs.length -> D i' -> k ∈ keys (δ i') -> i'=i \/ A bits i' i) -> hget hD k=hget (δ i) k)
  {j:Nat} {rj:ROp} (hrj:irs[j]?=some rj) (hjD:¬ D j) (hanc:∀ i,A bits i j -> D i) (hclosed:∀ i,D i -> i < ops.length -> ∀ i',A bits i' i -> D i')
  (hs:istep E (ev (st j).tm) ((umOf bits irs j).flatMap (fun i=>(δ i).map fun x=>(x.1,none)) ++ (st j).hp) (st j).nx rj.op=some (v j,δ j,m j)) (hc:isCall rj.op=true -> freshOnly (δ j) (st j).nx (m j)) (hwt:wantedI rj.g (st j).tm=true) :
  istep E (ev (st j).tm) hD (st j).nx rj.op=some (v j,δ j,m j):=by
 have hjl:j < ops.length:=by rw [<- T.len];exact (List.getElem?_eq_some_iff.1 hrj).1
 have late:∀ {k:Nat} {b:Blk},hget ((umOf bits irs j).flatMap (fun i=>(δ i).map fun x=>(x.1,none)) ++ (st j).hp) k=some b -> ∀ i,j < i -> i < ops.length -> D i -> k ∈ keys (δ i) ->
   ∃ ri,irs[i]?=some ri /\ writes ri.op=true /\ ¬ A bits j i:=by
  intro k b hk i hji hi hDi hki
  have hri:irs[i]?=some (irs[i]'(by rw [T.len];omega)):=List.getElem?_eq_getElem _
  refine ⟨_,hri,?_,fun hA=>hjD (hclosed i hDi hi j hA)⟩
  rcases T.touch hri hki with h1 | h1
  ·have:=T.live (j:=j) (by omega) k b (hget_mask hk).1
   have:=T.nx_mono (i:=j) (j:=i) (by omega) (by omega)
   omega
  ·exact h1.1
 by_cases hb:blind rj.op=true
 ·rw [blind_eq hb (h':=(umOf bits irs j).flatMap (fun i=>(δ i).map fun x=>(x.1,none)) ++ (st j).hp)];exact hs
 ·by_cases hst:isStore rj.op=true
  ·obtain ⟨k,b,b',h1,h2,h3,h4⟩:=store_only hst hs
   refine h4 hD (heap_ok T old new hrj hjD hanc hclosed h1 (by simpa using hb) fun i hji hi hDi hki=>?_)
   obtain ⟨ri,hri,hw,hA⟩:=late h1 i hji hi hDi hki
   have hkj:k ∈ keys (δ j):=by rw [h2];simp [keys]
   exact hA (T.both hji hi hkj hki)
  ·by_cases hld:isLoad rj.op=true
   ·obtain ⟨k,b,g,sz,x,h1,h2,h3,h4⟩:=load_only hld hs
    refine h4 hD (heap_ok T old new hrj hjD hanc hclosed h1 (by simpa using hb) fun i hji hi hDi hki=>?_)
    obtain ⟨ri,hri,hw,hA⟩:=late h1 i hji hi hDi hki
    have hrd:δ (1000+j)=[(k,none)]:=by rw [(T.step j rj hrj).2.1 g sz x hwt h2];exact h3
    rcases T.touch hri hki with g1 | ⟨_,b',g1⟩
    ·have:=T.live (j:=j) (by omega) k b (hget_mask h1).1
     have:=T.nx_mono (i:=j) (j:=i) (by omega) (by omega)
     omega
    ·refine (hget_mask g1).2 (1000+j) (mem_ur hji hA hrj hld hri hw) ?_
     rw [hrd];simp [keys]
   ·refine istep_mono T.env (fun k b hk=>?_) hs
    refine heap_ok T old new hrj hjD hanc hclosed hk (by simpa using hb) fun i hji hi hDi hki=>?_
    obtain ⟨ri,hri,hw,hA⟩:=late hk i hji hi hDi hki
    obtain ⟨oj',oi,rj',ri',e1,e2,e3,e4,_,hH⟩:=T.pair hji hi hA
    rw [hrj] at e3;cases e3
    rw [hri] at e4;cases e4
    rcases hH hw with h | h | h
    ·exact hb h
    ·exact hst h
    ·exact hld h
end
end Go.Eng
end
section
namespace Go.Eng
section
variable {dd:List Deferred} {P:Program} {E:Env} {β0:Emb} {h0:Heap} {w0:World} {nt N0:Nat}
variable {ops:List Oper} {irs:List ROp} {bits:List Nat} {s0:St} {v:Nat -> Value} {δ:Nat -> Heap} {m:Nat -> Nat} {st:Nat -> St}
theorem Inv.next (T:Text P E nt ops irs bits s0 v δ m st) {D:Nat -> Prop} {β β':Emb} {a:Act} {w w':World} (I:Inv dd β0 h0 w0 nt N0 irs bits s0 v δ m st D β a w) {hD:Heap}
  (old:∀ k,(∀ i,i < irs.length -> D i -> k ∉ keys (δ i)) -> hget hD k=hget s0.hp k)
  (new:∀ k i,i < irs.length -> D i -> k ∈ keys (δ i) -> (∀ i',i' < irs.length -> D i' -> k ∈ keys (δ i') -> i'=i \/ A bits i' i) -> hget hD k=hget (δ i) k) (hfr0:Fr β0 h0 w0 β hD w)
  {j:Nat} {oj:Oper} {rj:ROp} (hj:ops[j]?=some oj) (hrj:irs[j]?=some rj) (htr:trOper P nt ops oj=some rj) (hjD:¬ D j) (hclosed:∀ i,D i -> i < ops.length -> ∀ i',A bits i' i -> D i') {v':Value}
  (hv:VR β' (v j) v') (hr:Rel β' (δ j ++ hD) w') (hf:Fr β hD w β' (δ j ++ hD) w') (hdom:∀ k,β' k ≠ none -> β k ≠ none \/ ((st j).nx <= k /\ k < (st j).nx+m j)) :
  Inv dd β0 h0 w0 nt N0 irs bits s0 v δ m st (fun i=>D i \/ i=j) β' (a.put oj.dst v') w':=by
 obtain ⟨f1,f2,f3,f4,f5,f6⟩:=trOper_facts htr
 have hjl:j < irs.length:=(List.getElem?_eq_some_iff.1 hrj).1
 have hdst:dstOK oj.dst a.tmps.size=true:=by rw [I.sz];exact f3
 have getput:∀ t,(oj.dst=some t -> (a.put oj.dst v').tmps.getD t undef=v') /\ (oj.dst ≠ some t -> (a.put oj.dst v').tmps.getD t undef=a.tmps.getD t undef):=by
  intro t
  cases hd:oj.dst with
  | none=>exact ⟨fun h=>(by cases h),fun _=>rfl⟩
  | some d=>
   rw [hd] at hdst
   simp only [dstOK,decide_eq_true_eq] at hdst
   refine ⟨fun h=>?_,fun h=>?_⟩
   ·cases h;simp [Act.put,hdst]
   ·have:d ≠ t:=fun e=>h (by rw [e])
    simp [Act.put,Array.getElem?_setIfInBounds,this]
 refine ⟨by rw [put_size];exact I.sz,by rw [put_defers];exact I.defs,?_,?_,⟨δ j ++ hD,hr,hfr0.trans hf,?_,?_⟩,?_,I.lo,?_⟩
 ·intro t h
  have h1:oj.dst ≠ some t:=by rw [<- f1];exact h j rj hrj (.inr rfl)
  rw [(getput t).2 h1]
  exact (I.old t fun i r hi hDi=>h i r hi (.inl hDi)).mono hf.ext
 ·intro t i r hi hDi hd hlast
  by_cases e:oj.dst=some t
  ·rw [(getput t).1 e]
   by_cases hij:i=j
   ·subst hij;exact hv
   ·
    exfalso
    have hDi':D i:=hDi.resolve_right hij
    rcases hlast j rj hrj (.inr rfl) (by rw [f1];exact e) with h | h
    ·exact hij h.symm
    ·exact hjD (hclosed i hDi' (by rw [<- T.len];exact (List.getElem?_eq_some_iff.1 hi).1) j h)
  ·rw [(getput t).2 e]
   have hij:i ≠ j:=fun h=>by
    subst h
    rw [hi] at hrj;cases hrj
    exact e (by rw [<- f1];exact hd)
   exact (I.new t i r hi (hDi.resolve_right hij) hd fun i' r' hi' hD' hd'=>hlast i' r' hi' (.inl hD') hd').mono hf.ext
 ·intro k h
  rw [hget_append_out (h j hjl (.inr rfl))]
  exact old k fun i hi hDi=>h i hi (.inl hDi)
 ·intro k i hi hDi hk hlast
  by_cases e:k ∈ keys (δ j)
  ·rw [hget_append_in e]
   by_cases hij:i=j
   ·rw [hij]
   ·exfalso
    have hDi':D i:=hDi.resolve_right hij
    rcases hlast j hjl (.inr rfl) e with h | h
    ·exact hij h.symm
    ·exact hjD (hclosed i hDi' (by rw [<- T.len];exact hi) j h)
  ·rw [hget_append_out e]
   have hij:i ≠ j:=fun h=>by subst h;exact e hk
   exact new k i hi (hDi.resolve_right hij) hk fun i' hi' hD' hk'=>hlast i' hi' (.inl hD') hk'
 ·intro k hk
  rcases hdom k hk with h | h
  ·rcases I.dom k h with h | ⟨i,h1,h2,h3⟩
   ·exact .inl h
   ·exact .inr ⟨i,h1,.inl h2,h3⟩
  ·exact .inr ⟨j,hjl,.inr rfl,h⟩
 ·intro k hk
  rcases hdom k hk with h | h
  ·exact I.fresh k h
  ·have:=T.nx_mono (i:=0) (j:=j) (by omega) (by rw [<- T.len];omega)
   rw [T.start] at this
   exact .inr (Nat.le_trans I.lo (Nat.le_trans this h.1))
theorem countP_lt {p p':Nat -> Bool}:∀ {l:List Nat},(∀ i ∈ l,p' i=true -> p i=true) -> ∀ {j},j ∈ l -> p j=true -> p' j=false -> l.countP p' < l.countP p
 | [],_,j,hj,_,_=>by simp at hj
 | x :: l,h,j,hj,h1,h2=>by
  have hle:l.countP p' <= l.countP p:=by
   apply List.countP_mono_left
   intro i hi
   exact h i (by simp [hi])
  simp only [List.countP_cons]
  rcases List.mem_cons.1 hj with rfl | hj
  ·simp [h1,h2];omega
  ·have:=countP_lt (fun i hi=>h i (by simp [hi])) hj h1 h2
   have hx:=h x (by simp)
   cases hp':p' x with
   | false=>simp;cases p x <;> simp <;> omega
   | true=>simp [hx hp'];omega
theorem draw_any {ro:Option Nat} {n:Nat} (T:Text P E nt ops irs bits s0 v δ m st) {Q:Exit -> Act -> World -> Prop}
  (hQ:∀ β a w,SR dd β0 h0 w0 nt N0 β (st ops.length) a w -> Q .normal a w) :
  ∀ (fuel:Nat) (listed:Array Bool) (β:Emb) (a:Act) (w:World),listed.size=ops.length -> (List.range ops.length).countP (fun i=>!listed.getD i false) <= fuel ->
   (∀ (j:Nat) (o:Oper),ops[j]?=some o -> listed.getD j false=true -> ∀ e ∈ o.after,Region.binds .any e=true -> listed.getD e.on false=true) ->
   Inv dd β0 h0 w0 nt N0 irs bits s0 v δ m st (fun i=>listed.getD i false=true) β a w -> wpAnyIn (FRo ro) n P .any ops.toArray Q fuel listed a w:=by
 intro fuel
 have allListed:∀ (listed:Array Bool),listed.size=ops.length -> Region.ready .any ops.toArray listed=[] -> ∀ j,j < ops.length -> listed.getD j false=true:=by
  intro listed hsz hr j
  induction j using Nat.strongRecOn with
  | _ j ih=>
   intro hj
   cases hl:listed.getD j false with
   | true=>rfl
   | false=>
    exfalso
    have:j ∈ Region.ready .any ops.toArray listed:=by
     unfold Region.ready
     rw [List.mem_filter]
     refine ⟨by simpa using hj,?_⟩
     have hlt:j < listed.size:=by omega
     have h1:listed.getD j true=false:=by
      simp [Array.getD_eq_getD_getElem?,hlt] at hl ⊢;exact hl
     simp only [h1,Bool.not_false,Bool.true_and,List.getElem?_toArray,List.getElem?_eq_getElem hj,Option.map_some,Option.getD_some]
     rw [Array.all_eq_true]
     intro i hi
     have hm:ops[j].after[i] ∈ ops[j].after:=Array.getElem_mem hi
     cases hb:Region.binds .any ops[j].after[i] with
     | false=>rfl
     | true=>
      have hlt:=edgesOK_at ops 0 T.edges j _ (List.getElem?_eq_getElem hj) _ hm hb
      simp only [Nat.zero_add] at hlt
      simpa using ih _ hlt (by omega)
    rw [hr] at this;cases this
 have done:∀ (listed:Array Bool) (β:Emb) (a:Act) (w:World),(∀ j,j < ops.length -> listed.getD j false=true) -> Inv dd β0 h0 w0 nt N0 irs bits s0 v δ m st (fun i=>listed.getD i false=true) β a w -> Q .normal a w:=by
  intro listed β a w hall I
  apply hQ β a w
  obtain ⟨hD,hrel,hfr,hold,hnew⟩:=I.heap
  have heq:∀ k,hget (st ops.length).hp k=hget hD k:=by
   intro k
   rcases T.block k (j:=ops.length) (Nat.le_refl _) with ⟨h1,h2⟩ | ⟨i,h1,h2,h3,h4⟩
   ·rw [h2,hold k fun i hi _=>h1 i (by rw [<- T.len];exact hi)]
   ·rw [h4,hnew k i (by rw [T.len];exact h1) (hall i h1) h2 fun i' hi' _ hk'=>?_]
    rcases Nat.lt_trichotomy i' i with g | g | g
    ·exact .inr (T.both g h1 hk' h2)
    ·exact .inl g
    ·exact absurd hk' (h3 i' g (by rw [<- T.len];exact hi'))
  refine ⟨fun t=>?_,I.sz,hrel.congr heq,hfr.congr heq,fun k hk=>?_,I.defs,by
   have:=T.nx_mono (i:=0) (j:=ops.length) (by omega) (Nat.le_refl _)
   rw [T.start] at this;exact Nat.le_trans I.lo this,I.fresh⟩
  ·rcases T.slot t (j:=ops.length) (Nat.le_refl _) with ⟨h1,h2⟩ | ⟨i,ri,h1,h2,h3,h4,h5⟩
   ·rw [h2]
    exact I.old t fun i r hr _=>h1 i r (by rw [<- T.len];exact (List.getElem?_eq_some_iff.1 hr).1) hr
   ·rw [h5]
    refine I.new t i ri h2 (hall i h1) h3 fun i' r' hr' _ hd'=>?_
    have hi'l:i' < ops.length:=by rw [<- T.len];exact (List.getElem?_eq_some_iff.1 hr').1
    rcases Nat.lt_trichotomy i' i with g | g | g
    ·right
     by_cases hA:A bits i' i
     ·exact hA
     ·exfalso
      obtain ⟨oi',oi,ri',ri2,e1,e2,e3,e4,hap,_⟩:=T.pair g h1 hA
      obtain ⟨q1,hq1,htr1⟩:=T.tr i' oi' e1
      obtain ⟨q2,hq2,htr2⟩:=T.tr i oi e2
      rw [hr'] at hq1;cases hq1
      rw [h2] at hq2;cases hq2
      exact (apart_sym hap).2.1 t (by rw [<- (trOper_facts htr1).1];exact hd') (by rw [<- (trOper_facts htr2).1];exact h3)
    ·exact .inl g
    ·exact absurd hd' (h4 i' r' g hi'l hr')
  ·rcases I.dom k hk with h | ⟨i,h1,_,h3,h4⟩
   ·have:=T.nx_mono (i:=0) (j:=ops.length) (by omega) (Nat.le_refl _)
    rw [T.start] at this;omega
   ·rw [T.len] at h1
    have:=T.nx_mono (i:=i+1) (j:=ops.length) (by omega) (Nat.le_refl _)
    rw [T.nx_succ h1] at this;omega
 induction fuel with
 | zero=>
  intro listed β a w hsz hcnt hcl I
  have hall:∀ j,j < ops.length -> listed.getD j false=true:=by
   intro j hj
   cases hl:listed.getD j false with
   | true=>rfl
   | false=>
    have:0 < (List.range ops.length).countP (fun i=>!listed.getD i false):=List.countP_pos_iff.2 ⟨j,by simpa using hj,by simp [hl]⟩
    omega
  refine ⟨?_,done listed β a w hall I⟩
  unfold Region.ready
  rw [List.filter_eq_nil_iff]
  intro j hj
  have hj':j < ops.length:=by simpa using hj
  have:=hall j hj'
  have hlt:j < listed.size:=by omega
  simp [Array.getD_eq_getD_getElem?,hlt] at this ⊢
  simp [this]
 | succ fuel ih=>
  intro listed β a w hsz hcnt hcl I
  refine ⟨fun hr=>done listed β a w (allListed listed hsz hr) I,fun j hjr=>?_⟩
  unfold Region.ready at hjr
  rw [List.mem_filter] at hjr
  obtain ⟨hjm,hj2⟩:=hjr
  have hjl:j < ops.length:=by simpa using hjm
  have hlt:j < listed.size:=by omega
  simp only [List.getElem?_toArray,List.getElem?_eq_getElem hjl,Option.map_some,Option.getD_some,Bool.and_eq_true,Bool.not_eq_true'] at hj2
  obtain ⟨hun,hdeps⟩:=hj2
  have hjD:listed.getD j false=false:=by
   simp [Array.getD_eq_getD_getElem?,hlt] at hun ⊢;exact hun
  have hd:∀ e ∈ ops[j].after,Region.binds .any e=true -> listed.getD e.on false=true:=by
   intro e he hb
   rw [Array.all_eq_true'] at hdeps
   have:=hdeps e he
   simpa [hb] using this
  have hanc:∀ i,A bits i j -> listed.getD i false=true:=by
   intro i hA
   unfold A at hA
   rw [T.bits_eq] at hA
   exact anc_in (D:=fun i=>listed.getD i false=true) T.edges hcl j ops[j] (List.getElem?_eq_getElem hjl) hd i hA
  have hclosed:∀ i,listed.getD i false=true -> i < ops.length -> ∀ i',A bits i' i -> listed.getD i' false=true:=by
   intro i hi hil i' hA
   unfold A at hA
   rw [T.bits_eq] at hA
   exact anc_in (D:=fun i=>listed.getD i false=true) T.edges hcl i ops[i] (List.getElem?_eq_getElem hil) (hcl i _ (List.getElem?_eq_getElem hil) hi) i' hA
  obtain ⟨rj,hrj,htr⟩:=T.tr j ops[j] (List.getElem?_eq_getElem hjl)
  obtain ⟨f1,f2,f3,f4,f5,f6⟩:=trOper_facts htr
  have hslots:=fun t ht=>slots_ok T I (List.getElem?_eq_getElem hjl) hrj (by simp [hjD]) hanc hclosed t ht
  obtain ⟨hD,hrel,hfr,hold,hnew⟩:=I.heap
  have rest:∀ (β':Emb) (v':Value) (w':World),VR β' (v j) v' -> Rel β' (δ j ++ hD) w' -> Fr β hD w β' (δ j ++ hD) w' -> (∀ k,β' k ≠ none -> β k ≠ none \/ ((st j).nx <= k /\ k < (st j).nx+m j)) ->
    wpAnyIn (FRo ro) n P .any ops.toArray Q fuel (listed.setIfInBounds j true) (a.put ops[j].dst v') w':=by
   intro β' v' w' q1 q2 q3 q4
   have I':=I.next T hold hnew hfr (List.getElem?_eq_getElem hjl) hrj htr (by simp [hjD]) hclosed q1 q2 q3 q4
   have same:∀ i,(listed.setIfInBounds j true).getD i false=true ↔ (listed.getD i false=true \/ i=j):=by
    intro i
    by_cases e:i=j
    ·subst e;simp [hlt]
    ·simp [Array.getD_eq_getD_getElem?,Array.getElem?_setIfInBounds,Ne.symm e,e]
   refine ih (listed.setIfInBounds j true) β' _ w' (by simpa using hsz) ?_ ?_ ?_
   ·have:=countP_lt (l:=List.range ops.length) (p:=fun i=>!listed.getD i false) (p':=fun i=>!(listed.setIfInBounds j true).getD i false) (fun i _ h=>?_) (j:=j) (by simpa using hjl) (by simp [hjD]) (by have:=(same j).2 (.inr rfl);simp only [this];rfl)
    ·omega
    ·cases hh:listed.getD i false with
     | false=>rfl
     | true=>have:=(same i).2 (.inl hh);simp only [this] at h;cases h
   ·intro i o ho hi e he hb
    rw [same] at hi ⊢
    rcases hi with hi | rfl
    ·exact .inl (hcl i o ho hi e he hb)
    ·rw [List.getElem?_eq_getElem hjl] at ho;cases ho
     exact .inl (hd e he hb)
   ·have e:(fun i=>(listed.setIfInBounds j true).getD i false=true)=(fun i=>listed.getD i false=true \/ i=j):=funext fun i=>propext (same i)
    rw [e];exact I'
  unfold wpOpIn
  simp only [List.getElem?_toArray,List.getElem?_eq_getElem hjl]
  have hnc:ncG rj.g (st j).tm:=by
   obtain ⟨hstep,_⟩:=T.step j rj hrj
   rcases hstep with ⟨hw,_,_⟩ | ⟨_,_,_,_,hn⟩
   ·rintro t want c e e2
    rw [e] at hw
    simp only [wantedI,e2] at hw
    cases hw
   ·exact hn
  have hg:Region.wanted ops[j] (yielded ops.toArray a.tmps)=wantedI rj.g (st j).tm:=by
   have htr':=htr
   unfold trOper at htr'
   rw [if_pos f3,f2] at htr'
   simp only at htr'
   split at htr'
   ·rename_i hgn
    have hgr:rj.g=none:=by rw [Option.some.injEq] at htr';rw [<- htr']
    simp [Region.wanted,hgn,wantedI,hgr]
   ·rename_i g want hgs
    split at htr'
    ·rename_i t hjt
     split at htr'
     ·rename_i htlt
      have hgr:rj.g=some (t,want):=by rw [Option.some.injEq] at htr';rw [<- htr']
      simp only [Region.wanted,hgs,wantedI,yielded,List.getElem?_toArray,hjt,Option.bind_some,hgr]
      have hv:=hslots t (f4 t want hgr)
      have hnc:=fun c=>hnc t want c hgr
      have htlt':t < a.tmps.size:=by rw [I.sz];exact htlt
      rw [Array.getD_eq_getD_getElem?,Array.getElem?_eq_getElem htlt',Option.getD_some] at hv
      rw [Array.getElem?_eq_getElem htlt']
      generalize a.tmps[t]=u at hv ⊢
      generalize tmget (st j).tm t=x at hv hnc ⊢
      cases hv with
      | junk c _ _=>exact absurd rfl (hnc c)
      | base _ hb=>cases u <;> simp [isBase] at hb <;> simp <;> (try (rename_i b;cases b <;> cases want <;> rfl))
      | _=>simp
     ·cases htr'
    ·cases htr'
  rw [hg]
  obtain ⟨hstep,_⟩:=T.step j rj hrj
  rcases hstep with ⟨hw,hs,hc⟩ | ⟨hw,hv0,hd0,hm0,_⟩
  ·rw [hw,if_pos rfl]
   refine OWP_in (no_defer f2) ?_
   have hs':=same_step T hold hnew hrj (by simp [hjD]) hanc hclosed hs hc hw
   let looks:=ops[j].looksAt ops.toArray
   let ρ':Operand -> Value:=fun x=>match x with
    | .tmp t=>if t ∈ looks then a.tmps.getD t undef else undef
    | x=>a.eval x
   let tm':List (Nat × Value):=looks.map fun t=>(t,tmget (st j).tm t)
   have htm':∀ t,tmget tm' t=if t ∈ looks then tmget (st j).tm t else undef:=by
    intro t
    have:∀ l:List Nat,tmget (l.map fun t=>(t,tmget (st j).tm t)) t=if t ∈ l then tmget (st j).tm t else undef:=by
     intro l
     induction l with
     | nil=>simp [tmget]
     | cons x l ih=>
      simp only [List.map_cons,tmget,ih]
      by_cases e:x=t
      ·subst e;simp
      ·simp [e,Ne.symm e]
    exact this looks
   have hρ:∀ x y,trOpd x=some y -> VR β (ev tm' y) (ρ' x):=by
    intro x y e
    cases x with
    | tmp t=>
     simp [trOpd] at e;subst e
     simp only [ev,htm',ρ']
     split
     ·rename_i ht;exact hslots t ht
     ·exact undef_vr _
    | const c=>
     simp only [trOpd] at e
     split at e
     ·rename_i hc;cases e;exact closed_vr hc
     ·cases e
    | global g=>simp [trOpd] at e
    | func f=>simp [trOpd] at e;subst e;exact .fn _ _ _ _ _ .nil .nil
   have he:execOp a.eval ops[j]=execOp ρ' ops[j]:=by
    refine execOp_congr ops[j] f6 fun x hx=>?_
    cases x with
    | tmp t=>
     have:t ∈ looks:=List.mem_append_left _ (List.mem_filterMap.2 ⟨.tmp t,by simpa using hx,rfl⟩)
     simp only [ρ',if_pos this]
     rfl
    | _=>rfl
   have hs2:istep E (ev tm') hD (st j).nx rj.op=some (v j,δ j,m j):=by
    rw [<- hs']
    refine istep_congr fun y hy=>?_
    cases y with
    | t t=>simp only [ev,htm',if_pos (f5 t hy)];rw [if_pos (f5 t hy)]
    | c c=>rfl
   have bound:∃ N,∀ k,β k ≠ none -> k < N:=by
    refine ⟨(st ops.length).nx,fun k hk=>?_⟩
    rcases I.dom k hk with h | ⟨i,h1,_,h3,h4⟩
    ·have:=T.nx_mono (i:=0) (j:=ops.length) (by omega) (Nat.le_refl _)
     rw [T.start] at this;omega
    ·rw [T.len] at h1
     have:=T.nx_mono (i:=i+1) (j:=ops.length) (by omega) (Nat.le_refl _)
     rw [T.nx_succ h1] at this;omega
   have hop:=op_sound (a:=a) (ρ':=ρ') (Q:=Q) (K:=wpAnyIn (FRo ro) n P .any ops.toArray Q fuel (listed.setIfInBounds j true)) T.env hrel hρ (fun _=>rfl) f2 hs2 (fun k h1 h2=>?_) bound (fun v' β' w' q1 q2 q3 q4=>rest β' v' w' q1 q2 q3 q4)
   ·unfold OWP at hop ⊢
    rw [he];exact hop
   ·cases hb:β k with
    | none=>rfl
    | some L=>
     exfalso
     simp only at h2
     rcases I.dom k (by rw [hb];simp) with h | ⟨i,g1,g2,g3,g4⟩
     ·have:=T.nx_mono (i:=0) (j:=j) (by omega) (by omega)
      rw [T.start] at this;omega
     ·rw [T.len] at g1
      have hij:i ≠ j:=fun e=>by subst e;rw [hjD] at g2;cases g2
      rcases Nat.lt_or_gt_of_ne hij with h | h
      ·have:=T.nx_mono (i:=i+1) (j:=j) (by omega) (by omega)
       rw [T.nx_succ g1] at this;omega
      ·have:=T.nx_mono (i:=j+1) (j:=i) (by omega) (by omega)
       rw [T.nx_succ hjl] at this;omega
  ·rw [hw,if_neg (by simp)]
   refine ⟨fun _ _=>trivial,?_⟩
   refine rest β undef w (by rw [hv0];exact undef_vr _) (by rw [hd0];exact hrel) (by rw [hd0];exact Fr.refl _ _ _) (fun k hk => .inl hk)
theorem draw_sound {ro:Option Nat} {n:Nat} (hE:EnvOK P E) (hm:P.follows .mixedOrders=true) {id:Nat} {opsA:Array Oper} {ds:List DOp} (ht:trDraw P nt opsA.toList=some ds) {Q:Exit -> Act -> World -> Prop} {K:St -> Prop}
  (hQ:∀ β s a w,K s -> SR dd β0 h0 w0 nt N0 β s a w -> Q .normal a w) {β:Emb} {s:St} {a:Act} {w:World} (hk:wpD E K ds 0 [] s) (r:SR dd β0 h0 w0 nt N0 β s a w):(Code.region id opsA true).wpIn (FRo ro) n P Q a w:=by
 unfold trDraw at ht
 split at ht
 ·rename_i irs hirs
  simp only at ht
  split at ht
  ·rename_i hok
   rw [Bool.and_eq_true,Bool.and_eq_true,decide_eq_true_eq] at hok
   obtain ⟨hok,hsmall⟩:=hok
   cases ht
   obtain ⟨hlen,htr⟩:=trOpers_at hirs
   obtain ⟨v,δ,m,st,e1,e2,e3,e4⟩:=trace_of irs 0 [] s (by rw [hlen];omega) (fun _ _=>rfl) hk
   have T:Text P E nt opsA.toList irs (ancBits opsA.toList []) s v δ m st:=
    ⟨hE,rfl,hok.1,hok.2,hlen,htr,e1,fun i q hq=>by simpa using e3 i q hq,fun k b hb=>by
     obtain ⟨L,_,_,hL,_⟩:=r.rel.live k b hb
     exact r.dom k (by rw [hL];simp)⟩
   refine wpIn_region_any hm ?_
   have hkf:K (st opsA.toList.length):=by rw [hlen] at e4;simpa using e4
   have:=draw_any (ro:=ro) (n:=n) T (Q:=Q) (fun β a w hr=>hQ β _ a w hkf hr) opsA.size (Array.replicate opsA.size false) β a { w with drawn:=w.drawn+1 } (by simp)
    (Nat.le_trans List.countP_le_length (by simp)) (fun j o _ h=>by simp [Array.getD_eq_getD_getElem?,Array.getElem?_replicate] at h;split at h <;> simp at h) ?_
   ·simpa using this
   ·have none:∀ i,¬ (Array.replicate opsA.size false).getD i false=true:=by
     intro i h;simp [Array.getD_eq_getD_getElem?,Array.getElem?_replicate] at h;split at h <;> simp at h
    have fw:Fr β s.hp w β s.hp { w with drawn:=w.drawn+1 }:=Fr.world rfl rfl rfl
    exact ⟨r.sz,r.defs,fun t _=>r.tm t,fun t i q hq h=>absurd h (none i),⟨s.hp,r.rel.world rfl,r.fr.trans fw,fun k _=>rfl,fun k i _ h=>absurd h (none i)⟩,fun k hk => .inl (r.dom k hk),r.lo,r.new⟩
  ·cases ht
 ·cases ht
end
end Go.Eng
end
section
namespace Go.Eng
section
variable {dd:List Deferred} {P:Program} {E:Env} {β0:Emb} {h0:Heap} {w0:World} {nt N0:Nat}
def liftQ (dd:List Deferred) (β0:Emb) (h0:Heap) (w0:World) (nt N0:Nat) (K:IExit -> St -> Prop):Exit -> Act -> World -> Prop
 | .normal,a,w=>∃ β s,K .normal s /\ SR dd β0 h0 w0 nt N0 β s a w
 | .exit id,a,w=>∃ β s,K (.exit id) s /\ SR dd β0 h0 w0 nt N0 β s a w
 | .ret,a,w=>∃ β s,K .ret s /\ SR dd β0 h0 w0 nt N0 β s a w
 | _,_,_=>False
theorem code_sound {ro:Option Nat} {n:Nat} (hE:EnvOK P E) (hm:P.follows .mixedOrders=true):∀ (c:Code) (ic:ICode),trCode P nt c=some ic -> ∀ (K:IExit -> St -> Prop) (β:Emb) (s:St) (a:Act) (w:World),wpI E ic K s -> SR dd β0 h0 w0 nt N0 β s a w ->
  c.wpIn (FRo ro) n P (liftQ dd β0 h0 w0 nt N0 K) a w:=by
 intro c
 induction c with
 | skip=>intro ic e K β s a w hk r;simp [trCode] at e;subst e;exact wpIn_skip ⟨β,s,hk,r⟩
 | ret=>intro ic e K β s a w hk r;simp [trCode] at e;subst e;exact wpIn_ret ⟨β,s,hk,r⟩
 | exit id=>intro ic e K β s a w hk r;simp [trCode] at e;subst e;exact wpIn_exit ⟨β,s,hk,r⟩
 | seq x y ihx ihy=>
  intro ic e K β s a w hk r
  simp only [trCode] at e
  split at e
  ·rename_i ix iy h1 h2
   cases e
   refine wpIn_seq (wpIn_mono (ihx ix h1 _ β s a w hk r) ?_)
   intro e a' w' he
   cases e <;> simp only [liftQ] at he <;> simp only [Exit.then,liftQ]
   ·obtain ⟨β',s',hk',r'⟩:=he;exact ihy iy h2 K β' s' a' w' hk' r'
   ·obtain ⟨β',s',hk',r'⟩:=he;exact ⟨β',s',hk',r'⟩
   ·obtain ⟨β',s',hk',r'⟩:=he;exact ⟨β',s',hk',r'⟩
  ·cases e
 | cond c x y ihx ihy=>
  intro ic e K β s a w hk r
  simp only [trCode] at e
  split at e
  ·rename_i ic' ix iy h0 h1 h2
   cases e
   simp only [wpI] at hk
   split at hk
   ·rename_i t ht
    have hv:=opd_of r.tm c ic' h0
    rw [ht] at hv
    refine wpIn_cond_split hv.bool_left (fun e=>ihx ix h1 K β s a w (hk.1 e) r) (fun e=>ihy iy h2 K β s a w (hk.2 e) r)
   ·exact hk.elim
  ·cases e
 | block id x ihx=>
  intro ic e K β s a w hk r
  simp only [trCode,Option.map_eq_some_iff] at e
  obtain ⟨ix,h1,rfl⟩:=e
  refine wpIn_block (wpIn_mono (ihx ix h1 _ β s a w hk r) ?_)
  intro e a' w' he
  cases e <;> simp only [liftQ] at he <;> simp only [Exit.inBlock,liftQ]
  ·exact he
  ·obtain ⟨β',s',hk',r'⟩:=he
   simp only [blockQ] at hk'
   split at hk'
   ·rename_i e;rw [if_pos e];exact ⟨β',s',hk',r'⟩
   ·rename_i e;rw [if_neg e];exact ⟨β',s',hk',r'⟩
  ·exact he
 | loop x ihx=>
  intro ic e K β s a w hk r
  simp only [trCode,Option.map_eq_some_iff] at e
  obtain ⟨ix,h1,rfl⟩:=e
  obtain ⟨n,hn⟩:=hk
  refine wpIn_loop_rounds n ?_
  induction n generalizing β s a w with
  | zero=>exact hn.elim
  | succ n ih=>
   rw [roundsIn_succ]
   refine wpIn_mono (ihx ix h1 _ β s a w hn r) ?_
   intro e a' w' he
   cases e <;> simp only [liftQ] at he <;> simp only [Exit.then,liftQ]
   ·obtain ⟨β',s',hk',r'⟩:=he;exact ih β' s' a' w' r' hk'
   ·obtain ⟨β',s',hk',r'⟩:=he;exact ⟨β',s',hk',r'⟩
   ·obtain ⟨β',s',hk',r'⟩:=he;exact ⟨β',s',hk',r'⟩
 | region id ops draw=>
  intro ic e K β s a w hk r
  cases draw with
  | false=>
   simp only [trCode] at e
   split at e
   case h_2=>cases e;exact hk.elim
   rename_i irs h1
   cases e
   refine wpIn_region_list ?_
   have:=reg_sound (ro:=ro) (n:=n) (opsA:=ops.toList) (Q:=liftQ dd β0 h0 w0 nt N0 K) hE (fun β s a w hk r=>⟨β,s,hk,r⟩) ops.toList irs h1 hk r
   simpa using this
  | true=>
   simp only [trCode] at e
   split at e
   case h_2=>cases e;exact hk.elim
   rename_i ds h1
   cases e
   exact draw_sound hE hm h1 (fun β s a w hk r=>⟨β,s,hk,r⟩) hk r
 | _=>intro ic e K β s a w hk r;simp [trCode] at e;subst e;exact hk.elim
end
inductive IRes where
 | t (t:Nat)
 | cell (t:Nat) (g:Bool) (sz:Nat)
structure IFun where
 nt:Nat
 res:List IRes
 code:ICode
def res1 (s:St):IRes -> Option Value
 | .t t=>some (tmget s.tm t)
 | .cell t g sz=>match tmget s.tm t with
  | .pointer (some ⟨k,off,none⟩)=>match hget s.hp k with
   | some blk=>if g then (if off+sz <= blk.cells.length then some (.agg ⟨(blk.cells.drop off).take sz⟩) else none) else blk.cells[off]?
   | none=>none
  | _=>none
def resL (s:St):List IRes -> Option (List Value)
 | []=>some []
 | r :: rs=>match res1 s r,resL s rs with | some v,some l=>some (v :: l) | _,_=>none
def one:List Value -> Value
 | [v]=>v
 | l => .tuple ⟨l⟩
def trRes (P:Program) (nt:Nat):List ResultVar -> Option (List IRes)
 | []=>some []
 | .tmp t :: r=>match trRes P nt r with | some l=>if t < nt then some (.t t :: l) else none | none=>none
 | .cell t ty :: r=>match trRes P nt r,tyAgg P ty,szOf P ty with | some l,some g,some sz=>if t < nt then some (.cell t g sz :: l) else none | _,_,_=>none
def trFun (P:Program) (f:Nat):Option IFun:=
 match P.funcs[f]? with
 | some fn=>match fn.body with
  | some c => if (fn.name == "runtime.NumGoroutine") = false then
    match trCode P fn.ntmps c,trRes P fn.ntmps fn.results.toList with
    | some ic,some r=>some ⟨fn.ntmps,r,ic⟩
    | _,_=>none
   else none
  | none=>none
 | none=>none
def resSem (tmps:Array Value) (x:ResultVar):Sem Value:=
 match x with
 | .tmp t=>pure (tmps.getD t undef)
 | .cell ad t=>do loadVar t (<- asAddr (tmps.getD ad undef))
theorem resSem_tmp (P:Program) (tmps:Array Value) (t:Nat) (w:World):(resSem tmps (.tmp t)).run P w = .ok (tmps.getD t undef) w:=rfl
theorem resSem_cell (P:Program) (tmps:Array Value) (ad:Nat) (t:TypeId) (a:Addr) (u:Value) (w:World) (h:tmps.getD ad undef = .pointer (some a)) (hu:(loadVar t a).run P w = .ok u w):(resSem tmps (.cell ad t)).run P w = .ok u w:=by
 simp only [resSem,h,asAddr,Sem.run_bind,Sem.run_pure,Result.andThen_ok,hu]
theorem res_run {P:Program} {β:Emb} {s:St} {a:Act} {w:World} (htm:∀ t,VR β (tmget s.tm t) (a.tmps.getD t undef)) (rel:Rel β s.hp w) {nt:Nat}:∀ (rs:List ResultVar) (irs:List IRes) (vs:List Value),trRes P nt rs=some irs -> resL s irs=some vs ->
  ∃ vs',VRs β vs vs' /\ (rs.mapM (m:=Sem) (resSem a.tmps)).run P w = .ok vs' w
 | [],irs,vs,e,h=>by
  simp [trRes] at e;subst e;simp [resL] at h;subst h
  exact ⟨[],.nil,rfl⟩
 | .tmp t :: rs,irs,vs,e,h=>by
  simp only [trRes] at e
  split at e
  ·rename_i l hl
   split at e
   ·cases e
    simp only [resL,res1] at h
    split at h
    ·rename_i v l' h1 h2
     cases h;cases h1
     obtain ⟨vs',g1,g2⟩:=res_run htm rel rs l l' hl h2
     refine ⟨_,.cons _ _ _ _ (htm t) g1,?_⟩
     simp only [List.mapM_cons,Sem.run_bind,resSem_tmp,Sem.run_pure,Result.andThen_ok,g2]
    ·cases h
   ·cases e
  ·cases e
 | .cell ad ty :: rs,irs,vs,e,h=>by
  simp only [trRes] at e
  split at e
  ·rename_i l g sz hl hg hsz
   split at e
   ·cases e
    simp only [resL] at h
    split at h
    ·rename_i v l' h1 h2
     cases h
     obtain ⟨vs',g1,g2⟩:=res_run htm rel rs l l' hl h2
     simp only [res1] at h1
     split at h1
     ·rename_i k off hp
      have hv:=htm ad
      rw [hp] at hv
      obtain ⟨L,hL,hv'⟩:=hv.ptr_left
      split at h1
      ·rename_i blk hk
       obtain ⟨L',ds,fr,a1,a2,a3,a4,a5,a6⟩:=rel.live k blk hk
       rw [hL] at a1;cases a1
       have hrun:∃ u,(loadVar ty ⟨L.b,off,none⟩).run P w = .ok u w /\ VR β v u:=by
        cases g with
        | true=>
         simp only [if_true] at h1
         split at h1
         ·rename_i hle
          cases h1
          have hlen:=a4.length
          have:=run_loadCells P a2 (off:=off) (n:=sz) (by simp;omega)
          rw [List.drop_append_of_le_length (by omega),List.take_append_of_le_length (by simp;omega)] at this
          exact ⟨.agg ⟨(ds.drop off).take sz⟩,by simp [loadVar,run_agg hg,run_size hsz,this],.agg _ _ ((a4.drop off).take sz)⟩
         ·cases h1
        | false=>
         simp only [Bool.false_eq_true,if_false] at h1
         obtain ⟨u',b1,b2⟩:=a4.get h1
         have:w.cell? ⟨L.b,off,none⟩=some u':=by
          rw [cell_of a2,List.getElem?_append_left (by rcases List.getElem?_eq_some_iff.1 b1 with ⟨x,_⟩;exact x)];exact b1
         exact ⟨u',by simp [loadVar,run_agg hg,this],b2⟩
       obtain ⟨u2,hu,hvu⟩:=hrun
       refine ⟨_,.cons _ _ _ _ hvu g1,?_⟩
       simp only [List.mapM_cons,Sem.run_bind,resSem_cell P _ _ _ _ _ w hv' hu,Sem.run_pure,Result.andThen_ok,g2]
      ·cases h1
     ·cases h1
    ·cases h
   ·cases e
  ·cases e
theorem VRs.one {β:Emb} {vs vs':List Value} (h:VRs β vs vs'):VR β (one vs) (if h:vs'.length=1 then vs'[0] else .tuple ⟨vs'⟩):=by
 cases h with
 | nil=>exact .tup _ _ .nil
 | cons v v' r r' h h'=>
  cases h' with
  | nil=>exact h
  | cons u u' q q' g g'=>
   simp only [Eng.one]
   rw [dif_neg (by simp)]
   exact .tup _ _ (.cons _ _ _ _ h (.cons _ _ _ _ g g'))
theorem results_run {P:Program} {β:Emb} {s:St} {a:Act} {w:World} {fn:Func} (htm:∀ t,VR β (tmget s.tm t) (a.tmps.getD t undef)) (rel:Rel β s.hp w) {nt:Nat} {irs:List IRes} {vs:List Value}
  (e:trRes P nt fn.results.toList=some irs) (h:resL s irs=some vs):∃ v',VR β (one vs) v' /\ (results fn a.tmps).run P w = .ok v' w:=by
 obtain ⟨vs',g1,g2⟩:=res_run htm rel fn.results.toList irs vs e h
 refine ⟨_,g1.one,?_⟩
 have e1:results fn a.tmps=(do
   let vs <- fn.results.mapM (resSem a.tmps)
   pure (if h:vs.size=1 then vs[0] else .tuple vs)):=rfl
 have e2:(fn.results.mapM (m:=Sem) (resSem a.tmps)).run P w = .ok ⟨vs'⟩ w:=by
  rw [<- Array.toArray_toList (xs:=fn.results),List.mapM_toArray]
  simp only [Sem.run_map,g2,Result.andThen_ok]
 rw [e1]
 simp only [Sem.run_bind,e2,Result.andThen_ok,Sem.run_pure]
 try rfl
def iotaE (ι:List (Nat × Nat)) (N:Nat):Emb:=fun k=>
 match ι.find? (fun p=>p.1 == k) with
 | some p=>some ⟨p.2,0,[]⟩
 | none=>if k < N then some ⟨k,0,[]⟩ else none
def FC (h:Heap) (n N:Nat) (o:Out) (hp:Heap) (v'':Value):Prop:=
 ∃ ι:List (Nat × Nat),(∀ p ∈ ι,n <= p.1 /\ p.1 < n+o.2.2) /\ VR (iotaE ι N) o.1 v'' /\
  (∀ k blk,hget (o.2.1 ++ h) k=some blk -> (k < N /\ hget h k=some blk /\ hget hp k=some blk) \/ ∃ L blk'',iotaE ι N k=some L /\ hget hp L.b=some blk'' /\ blk''.elem=blk.elem /\ blk''.sz=blk.sz /\ (blk.x=true -> blk''.x=true) /\ VRs (iotaE ι N) blk.cells blk''.cells) /\
  (∀ k k' L L',hget (o.2.1 ++ h) k ≠ none -> hget (o.2.1 ++ h) k' ≠ none -> iotaE ι N k=some L -> iotaE ι N k'=some L' -> L.b=L'.b -> k=k')
mutual
theorem VR.restrict {β β':Emb} (hb:β.le β') {v d0 d:Value} (h1:VR β v d0) (h2:VR β' v d):VR β v d:=by
 cases h1 with
 | base _ hb=>rw [h2.base_left hb];exact .base _ hb
 | ptr k off L hL=>
  obtain ⟨M,hM,rfl⟩:=h2.ptr_left
  rw [hb k L hL] at hM;cases hM
  exact .ptr _ _ _ hL
 | sl k off len cap L hL=>
  obtain ⟨M,hM,rfl⟩:=h2.sl_left
  rw [hb k L hL] at hM;cases hM
  exact .sl _ _ _ _ _ hL
 | slz k off c L hL=>
  obtain ⟨M,o',c',hM,rfl⟩:=h2.slz_left
  rw [hb k L hL] at hM;cases hM
  exact .slz _ _ _ _ hL
 | sle a c=>
  cases h2 with
  | base _ hb=>simp [isBase] at hb
  | sle a' c'=>exact .sle _ _
 | fn f xs xs' cs cs' g g'=>
  cases h2 with
  | base _ hb=>simp [isBase] at hb
  | fn _ _ ys _ ds q q'=>exact .fn _ _ _ _ _ (VRs.restrict hb g q) (VRs.restrict hb g' q')
 | ifc t u u' g=>
  cases h2 with
  | base _ hb=>simp [isBase] at hb
  | ifc _ _ y q=>exact .ifc _ _ _ (VR.restrict hb g q)
 | agg cs ds g=>
  obtain ⟨es,q,rfl⟩:=h2.agg_left
  exact .agg _ _ (VRs.restrict hb g q)
 | junk c _ g=>exact .junk c _ h2.okCell
 | tup cs ds g=>
  obtain ⟨es,q,rfl⟩:=h2.tup_left
  exact .tup _ _ (VRs.restrict hb g q)
theorem VRs.restrict {β β':Emb} (hb:β.le β') {v d0 d:List Value} (h1:VRs β v d0) (h2:VRs β' v d):VRs β v d:=by
 cases h1 with
 | nil=>cases h2;exact .nil
 | cons a b r r' g g'=>
  cases h2 with
  | cons _ c _ q k k'=>exact .cons _ _ _ _ (VR.restrict hb g k) (VRs.restrict hb g' k')
end
mutual
theorem VR.comp {β1 β2 β3:Emb} (hc:∀ k L M,β1 k=some L -> β2 L.b=some M -> L.ex=0 /\ β3 k=some M) {v v'' v':Value} (h1:VR β1 v v'') (h2:VR β2 v'' v'):VR β3 v v':=by
 cases h1 with
 | base _ hb=>rw [h2.base_left hb];exact .base _ hb
 | ptr k off L hL=>
  obtain ⟨M,hM,rfl⟩:=h2.ptr_left
  exact .ptr _ _ _ (hc k L M hL hM).2
 | sl k off len cap L hL=>
  obtain ⟨M,hM,rfl⟩:=h2.sl_left
  obtain ⟨e,h3⟩:=hc k L M hL hM
  rw [e,Nat.add_zero]
  exact .sl _ _ _ _ _ h3
 | slz k off c L hL=>
  obtain ⟨M,hM,rfl⟩:=h2.sl_left
  exact .slz _ _ _ _ (hc k L M hL hM).2
 | sle a c=>
  cases h2 with
  | base _ hb=>exact .sle _ _
  | sl k off len cap L hL=>exact .sle _ _
  | slz k off c L hL=>exact .sle _ _
  | sle a' c'=>exact .sle _ _
 | fn f xs xs' cs cs' g g'=>
  cases h2 with
  | base _ hb=>simp [isBase] at hb
  | fn _ _ ys _ ds q q'=>exact .fn _ _ _ _ _ (VRs.comp hc g q) (VRs.comp hc g' q')
 | ifc t u u' g=>
  cases h2 with
  | base _ hb=>simp [isBase] at hb
  | ifc _ _ y q=>exact .ifc _ _ _ (VR.comp hc g q)
 | agg cs ds g=>
  obtain ⟨es,q,rfl⟩:=h2.agg_left
  exact .agg _ _ (VRs.comp hc g q)
 | junk c _ g=>exact .junk c _ (h2.okCell.trans g)
 | tup cs ds g=>
  obtain ⟨es,q,rfl⟩:=h2.tup_left
  exact .tup _ _ (VRs.comp hc g q)
theorem VRs.comp {β1 β2 β3:Emb} (hc:∀ k L M,β1 k=some L -> β2 L.b=some M -> L.ex=0 /\ β3 k=some M) {v v'' v':List Value} (h1:VRs β1 v v'') (h2:VRs β2 v'' v'):VRs β3 v v':=by
 cases h1 with
 | nil=>cases h2;exact .nil
 | cons a b r r' g g'=>
  cases h2 with
  | cons _ c _ q k k'=>exact .cons _ _ _ _ (VR.comp hc g k) (VRs.comp hc g' k')
end
def initT (args:List Value):List (Nat × Value):=args.zipIdx.map fun x=>(x.2,x.1)
def isEnd:IExit -> Prop
 | .normal | .ret=>True
 | _=>False
structure SpecOK (P:Program) (f:Nat) (S:List Value -> Heap -> Nat -> Option Out):Prop where
 ok:∀ args h n o,S args h n=some o -> CallOK P f args h n o
 body:hasBody P f=true
 mono:∀ args h h' n o,hle h h' -> S args h n=some o -> S args h' n=some o
theorem tmget_init:∀ (args:List Value) (i t:Nat),tmget ((args.zipIdx i).map fun x=>(x.2,x.1)) t=if i <= t then (args[t - i]?).getD undef else undef
 | [],i,t=>by simp [tmget]
 | v :: args,i,t=>by
  simp only [List.zipIdx_cons,List.map_cons,tmget]
  rw [tmget_init args (i+1) t]
  by_cases h1:i=t
  ·subst h1;simp
  ·rw [if_neg h1]
   by_cases h2:i <= t
   ·have:t - i=(t - (i+1))+1:=by omega
    rw [if_pos h2,if_pos (by omega),this];simp
   ·rw [if_neg h2,if_neg (by omega)]
theorem maxKey:∀ (h:Heap),∃ N,∀ k b,hget h k=some b -> k < N
 | []=>⟨0,fun k b e=>by simp [hget] at e⟩
 | (k0,b0) :: h=>by
  obtain ⟨N,hN⟩:=maxKey h
  refine ⟨max N (k0+1),fun k b e=>?_⟩
  by_cases hk:k0=k
  ·omega
  ·rw [hget_cons_other _ _ hk] at e
   have:=hN k b e;omega
theorem fc_fin {P:Program} {fn:Func} {irs:List IRes} {nt:Nat} {dd:List Deferred} {β β':Emb} {h:Heap} {w w':World} {a':Act} {n N m:Nat} {v:Value} {δ:Heap} {s':St} {vs:List Value} (hirs:trRes P nt fn.results.toList=some irs) (rel:Rel β h w) (hfresh:∀ k,n <= k -> k < n+m -> β k=none)
  (hvs:resL s' irs=some vs) (hfc:FC h n N (v,δ,m) s'.hp (one vs)) (r:SR dd β h w nt N β' s' a' w') :
  ∃ u,(results fn a'.tmps).run P w' = .ok u w' /\ ∃ β2 v',Ending.returned u = .returned v' /\ VR β2 v v' /\ Rel β2 (δ ++ h) w' /\ Fr β h w β2 (δ ++ h) w' /\ ∀ k,β2 k ≠ none -> β k ≠ none \/ (n <= k /\ k < n+m):=by
 obtain ⟨ι,hι,hv,hb,hinj⟩:=hfc
 obtain ⟨u,hu1,hu2⟩:=results_run r.tm r.rel hirs hvs
 refine ⟨u,hu2,?_⟩
 let β2:Emb:=fun k=>if (β k).isSome then β k else (match ι.find? (fun p=>p.1 == k) with | some p=>β' p.2 | none=>none)
 have β2old:∀ k L,β k=some L -> β2 k=some L:=fun k L e=>by simp only [β2,e];rfl
 have hkey:∀ k p,ι.find? (fun p=>p.1 == k)=some p -> n <= k /\ k < n+m /\ β k=none:=by
  intro k p e
  have h1:=List.find?_some e
  have h2:=List.mem_of_find?_eq_some e
  have h3:=hι p h2
  simp only [beq_iff_eq] at h1
  subst h1
  exact ⟨h3.1,h3.2,hfresh _ h3.1 h3.2⟩
 have comp:∀ k L M,iotaE ι N k=some L -> β' L.b=some M -> L.ex=0 /\ β2 k=some M:=by
  intro k L M e1 e2
  unfold iotaE at e1
  split at e1
  ·rename_i p hp
   cases e1
   refine ⟨rfl,?_⟩
   obtain ⟨_,_,hno⟩:=hkey k p hp
   simp only [β2,hno,Option.isSome_none,Bool.false_eq_true,if_false,hp]
   exact e2
  ·split at e1
   ·rename_i hlt
    cases e1
    refine ⟨rfl,?_⟩
    simp only at e2
    cases hbk:β k with
    | some L0=>
     rw [r.fr.ext k L0 hbk] at e2
     cases e2
     exact β2old k _ hbk
    | none=>
     exfalso
     rcases r.new k (by rw [e2];simp) with h | h
     ·exact h hbk
     ·omega
   ·cases e1
 have bnd2:∀ k M,β2 k=some M -> ∃ k',β' k'=some M:=by
  intro k M e
  simp only [β2] at e
  split at e
  ·exact ⟨k,r.fr.ext k M e⟩
  ·split at e
   ·exact ⟨_,e⟩
   ·cases e
 have blocks:∀ k blk,hget (δ ++ h) k=some blk -> ∃ L blk'' M ds fr,iotaE ι N k=some L /\ (hget s'.hp L.b=some blk'' /\ blk''.sz=blk.sz) /\ β' L.b=some M /\ β2 k=some M /\ w'.heap[M.b]?=some (.cells ⟨ds ++ M.sp⟩ blk.elem fr) /\
   (blk.sz ≠ 0 -> fr.2 <= fr.1 \/ (ds ++ M.sp).length <= fr.1) /\ VRs β2 blk.cells ds /\ M.sp.length=M.ex * blk.sz /\ (blk.x=true -> M.ex=0):=by
  intro k blk hk
  rcases hb k blk hk with ⟨hlt,hk1,hk2⟩ | ⟨L,blk'',c1,c2,c3,c4,c5,c6⟩
  ·obtain ⟨M0,ds0,fr0,b1,b2,b3,b4,b5⟩:=rel.live k blk hk1
   have hno:ι.find? (fun p=>p.1 == k)=none:=by
    cases hh:ι.find? (fun p=>p.1 == k) with
    | none=>rfl
    | some p=>have:=(hkey k p hh).2.2;rw [b1] at this;cases this
   have hi:iotaE ι N k=some ⟨k,0,[]⟩:=by simp [iotaE,hno,hlt]
   obtain ⟨M,ds,fr,d1,d2,d3,d4,d5,d6⟩:=r.rel.live k blk hk2
   have hM:M=M0:=by rw [r.fr.ext k M0 b1] at d1;cases d1;rfl
   subst hM
   exact ⟨_,blk,M,ds,fr,hi,⟨hk2,rfl⟩,d1,β2old k M b1,d2,d3,(VRs.restrict r.fr.ext b4 d4).mono β2old,d5,d6⟩
  obtain ⟨M,ds,fr,d1,d2,d3,d4,d5,d6⟩:=r.rel.live L.b blk'' c2
  exact ⟨L,blk'',M,ds,fr,c1,⟨c2,c4⟩,d1,(comp k L M c1 d1).2,by rw [<- c3];exact d2,by rw [<- c4];exact d3,VRs.comp comp c6 d4,by rw [<- c4];exact d5,fun e=>d6 (c5 e)⟩
 have ne_live:∀ k,hget (δ ++ h) k ≠ none -> ∃ L,iotaE ι N k=some L /\ hget s'.hp L.b ≠ none /\ β' L.b=β2 k:=by
  intro k hk
  cases hh:hget (δ ++ h) k with
  | none=>exact absurd hh hk
  | some blk=>
   obtain ⟨L,blk'',M,ds,fr,c1,c2,c3,c4,_⟩:=blocks k blk hh
   exact ⟨L,c1,by rw [c2.1];simp,by rw [c3,c4]⟩
 refine ⟨β2,u,rfl,VR.comp comp hv hu1,⟨?_,?_,?_⟩,⟨fun k L e=>β2old k L e,r.fr.size,r.fr.os,r.fr.out,r.fr.keep,?_⟩,?_⟩
 ·intro k blk hk
  obtain ⟨L,blk'',M,ds,fr,c1,c2,c3,c4,c5⟩:=blocks k blk hk
  exact ⟨M,ds,fr,c4,c5⟩
 ·intro k k' M M' a1 a2 b1 b2 e
  obtain ⟨L,l1,l2,l3⟩:=ne_live k a1
  obtain ⟨L',l1',_,l3'⟩:=ne_live k' a2.ne
  have l2':wr s'.hp L'.b:=by
   obtain ⟨blk,e1,e2⟩:=a2
   obtain ⟨L2,blk'',M2,ds,fr,c1,c2,_⟩:=blocks k' blk e1
   rw [l1'] at c1;cases c1
   exact ⟨blk'',c2.1,by rw [c2.2];exact e2⟩
  have:=r.rel.inj L.b L'.b M M' l2 l2' (by rw [l3];exact b1) (by rw [l3'];exact b2) e
  exact hinj k k' L L' a1 a2.ne l1 l1' this
 ·intro k M e
  obtain ⟨k',e'⟩:=bnd2 k M e
  exact r.rel.bnd k' M e'
 ·intro k M a1 b1 hlt
  obtain ⟨blk,e1,e2⟩:=a1
  obtain ⟨L,blk'',M2,ds,fr,c1,c2,c3,c4,c5⟩:=blocks k blk e1
  exact r.fr.own L.b M ⟨blk'',c2.1,by rw [c2.2];exact e2⟩ (by rw [c3,<- c4];exact b1) hlt
 ·intro k hk
  simp only [β2] at hk
  split at hk
  ·exact .inl hk
  ·split at hk
   ·rename_i p hp
    have:=hkey k p hp
    exact .inr ⟨this.1,this.2.1⟩
   ·exact absurd rfl hk
theorem spec_ok {P:Program} {E:Env} (hE:EnvOK P E) (hm:P.follows .mixedOrders=true) {f:Nat} {F:IFun} (ht:trFun P f=some F) {S:List Value -> Heap -> Nat -> Option Out}
  (mono:∀ args h h' n o,hle h h' -> S args h n=some o -> S args h' n=some o)
  (hrun:∀ args h n v δ m N,S args h n=some (v,δ,m) -> n+m <= N -> (∀ k b,hget h k=some b -> k < N) -> (∀ k,n <= k -> k < n+m -> hget h k=none) -> args.length <= F.nt /\
   wpI E F.code (fun e s=>isEnd e /\ ∃ vs,resL s F.res=some vs /\ FC h n N (v,δ,m) s.hp (one vs)) ⟨initT args,h,N⟩):SpecOK P f S:=by
 unfold trFun at ht
 split at ht
 ·rename_i fn hfn
  split at ht
  ·rename_i c hc
   split at ht
   ·rename_i hname
    split at ht
    ·rename_i ic irs hic hirs
     cases ht
     refine ⟨?_,by simp [hasBody,hfn,hc,hname],mono⟩
     intro args h n o hS β w args' hargs rel hfresh ⟨N0,hN0⟩
     obtain ⟨v,δ,m⟩:=o
     obtain ⟨N1,hN1⟩:=maxKey h
     let N:=max (max N0 N1) (n+m)
     obtain ⟨hal,hwp⟩:=hrun args h n v δ m N hS (Nat.le_max_right _ _) (fun k b e=>by have:=hN1 k b e;omega) (fun k h1 h2=>rel.fresh (hfresh k h1 h2))
     simp only at hal hwp
     have hlen:=hargs.length
     refine calls_of_wp hfn hc ?_
     refine wp_mono (wpIn_wide.1 (code_sound (ro:=none) (n:=0) (dd:=[]) (β0:=β) (h0:=h) (w0:=w) (nt:=fn.ntmps) (N0:=N) hE hm c ic hic _ β ⟨initT args,h,N⟩ _ w hwp ?_)) ?_
     ·refine ⟨fun t=>?_,?_,rel,Fr.refl _ _ _,fun k hk=>by have:=hN0 k hk;simp only;omega,rfl,Nat.le_refl _,fun k hk => .inl hk⟩
      ·simp only [initT]
       rw [tmget_init args 0 t,if_pos (Nat.zero_le _),Nat.sub_zero]
       rw [Array.getD_eq_getD_getElem?]
       cases ha:args[t]? with
       | some u=>
        obtain ⟨u',g1,g2⟩:=hargs.get ha
        have hlt:t < args'.length:=(List.getElem?_eq_some_iff.1 g1).1
        rw [Array.getElem?_append_left (by simpa using hlt)]
        simp [g1,g2]
       | none=>
        have hge:args.length <= t:=List.getElem?_eq_none_iff.1 ha
        rw [Array.getElem?_append_right (by simp;omega)]
        simp only [Option.getD_none]
        by_cases hh:t - args'.length < fn.ntmps - args'.length
        ·simp [Array.getElem?_replicate,hh];exact undef_vr _
        ·simp [Array.getElem?_replicate,hh];exact undef_vr _
      ·simp;omega
     ·intro e a' w' he
      have fin:∀ (β':Emb) (s':St),(∃ vs,resL s' irs=some vs /\ FC h n N (v,δ,m) s'.hp (one vs)) -> SR [] β h w fn.ntmps N β' s' a' w' ->
        a'.defers=[] /\ ∃ u,(results fn a'.tmps).run P w' = .ok u w' /\ ∃ β2 v',Ending.returned u = .returned v' /\ VR β2 v v' /\ Rel β2 (δ ++ h) w' /\ Fr β h w β2 (δ ++ h) w' /\ ∀ k,β2 k ≠ none -> β k ≠ none \/ (n <= k /\ k < n+m):=by
       intro β' s' ⟨vs,hvs,hfc⟩ r
       exact ⟨r.defs,fc_fin hirs rel hfresh hvs hfc r⟩
      cases e <;> simp only [liftQ] at he
      ·obtain ⟨β',s',⟨_,hk⟩,r⟩:=he
       obtain ⟨d,u,hu,hh⟩:=fin β' s' hk r
       exact ⟨d,u,hu,hh⟩
      ·obtain ⟨β',s',⟨hk0,_⟩,r⟩:=he
       exact hk0.elim
      ·obtain ⟨β',s',⟨_,hk⟩,r⟩:=he
       obtain ⟨d,u,hu,hh⟩:=fin β' s' hk r
       exact ⟨d,u,hu,hh⟩
    ·cases ht
   ·cases ht
  ·cases ht
 ·cases ht
end Go.Eng
end
section
namespace Go.Eng
abbrev Spec:=List Value -> Heap -> Nat -> Option Out
def mkEnv:List (Nat × Spec) -> Env
 | [],_,_,_,_=>none
 | (f,S) :: r,g,args,h,n=>if f=g then S args h n else mkEnv r g args h n
theorem env_nil (P:Program):EnvOK P (mkEnv []):=
 ⟨fun _ _ _ _ _ e=>by simp [mkEnv] at e,fun _ _ _ _ _ e=>by simp [mkEnv] at e,fun _ _ _ _ _ _ _ e=>by simp [mkEnv] at e⟩
theorem env_cons {P:Program} {f:Nat} {S:Spec} {r:List (Nat × Spec)} (h:SpecOK P f S) (hr:EnvOK P (mkEnv r)):EnvOK P (mkEnv ((f,S) :: r)) where
 ok g args hp n o e:=by
  simp only [mkEnv] at e
  split at e
  ·rename_i hh;subst hh;exact h.ok args hp n o e
  ·exact hr.ok g args hp n o e
 body g args hp n o e:=by
  simp only [mkEnv] at e
  split at e
  ·rename_i hh;subst hh;exact h.body
  ·exact hr.body g args hp n o e
 mono g args hp hp' n o hl e:=by
  simp only [mkEnv] at e ⊢
  split at e
  ·rename_i hh;rw [if_pos hh];exact h.mono args hp hp' n o hl e
  ·rename_i hh;rw [if_neg hh];exact hr.mono g args hp hp' n o hl e
def flatV:Value -> Bool
 | .agg ⟨l⟩ | .tuple ⟨l⟩=>l.all isBase
 | v=>isBase v
def flatW:Value -> Bool
 | .tuple ⟨l⟩=>l.all flatV
 | v=>flatV v
theorem flatV_vr {β:Emb} {v:Value} (h:flatV v=true):VR β v v:=by
 match v,h with
 | .agg ⟨l⟩,h=>exact .agg _ _ (VRs.of_base h)
 | .tuple ⟨l⟩,h=>exact .tup _ _ (VRs.of_base h)
 | .bool _,h=>exact .base _ h
 | .int _ _,h=>exact .base _ h
 | .float _ _,h=>exact .base _ h
 | .complex _ _ _,h=>exact .base _ h
 | .string _,h=>exact .base _ h
 | .pointer _,h=>exact .base _ h
 | .slice _ _ _,h=>exact .base _ h
 | .map _,h=>exact .base _ h
 | .chan _,h=>exact .base _ h
 | .func _ _ _,h=>exact .base _ h
 | .nilFunc,h=>exact .base _ h
 | .iface _ _,h=>exact .base _ h
 | .nilIface,h=>exact .base _ h
theorem flatL_vr {β:Emb}:∀ {l:List Value},l.all flatV=true -> VRs β l l
 | [],_ => .nil
 | v :: l,h=>by simp only [List.all_cons,Bool.and_eq_true] at h;exact .cons _ _ _ _ (flatV_vr h.1) (flatL_vr h.2)
theorem flatW_vr {β:Emb} {v:Value} (h:flatW v=true):VR β v v:=by
 match v,h with
 | .tuple ⟨l⟩,h=>exact .tup _ _ (flatL_vr h)
 | .agg ⟨l⟩,h=>exact flatV_vr (v:=.agg ⟨l⟩) h
 | .bool _,h=>exact .base _ h
 | .int _ _,h=>exact .base _ h
 | .float _ _,h=>exact .base _ h
 | .complex _ _ _,h=>exact .base _ h
 | .string _,h=>exact .base _ h
 | .pointer _,h=>exact .base _ h
 | .slice _ _ _,h=>exact .base _ h
 | .map _,h=>exact .base _ h
 | .chan _,h=>exact .base _ h
 | .func _ _ _,h=>exact .base _ h
 | .nilFunc,h=>exact .base _ h
 | .iface _ _,h=>exact .base _ h
 | .nilIface,h=>exact .base _ h
def flat (F:List Value -> Option Value):Spec:=fun args h n=>(F args).map fun v=>(v,[],0)
theorem fc_flat {h hp:Heap} {n N:Nat} {v v'':Value} (hv:flatW v=true) (he:v''=v) (hN:∀ k b,hget h k=some b -> k < N) (hh:∀ k,k < N -> hget hp k=hget h k):FC h n N (v,[],0) hp v'':=by
 subst he
 refine ⟨[],fun p hp=>by simp at hp,flatW_vr hv,?_,?_⟩
 ·intro k blk hk
  simp only [List.nil_append] at hk
  have hlt:=hN k blk hk
  exact .inl ⟨hlt,hk,by rw [hh k hlt];exact hk⟩
 ·intro k k' L L' a a' b b' e
  simp [iotaE] at b b'
  obtain ⟨_,rfl⟩:=b
  obtain ⟨_,rfl⟩:=b'
  exact e
theorem flat_mono {F:List Value -> Option Value}:∀ args h h' n o,hle h h' -> flat F args h n=some o -> flat F args h' n=some o:=fun _ _ _ _ _ _ e=>e
theorem flat_ok {P:Program} {E:Env} (hE:EnvOK P E) (hm:P.follows .mixedOrders=true) {f:Nat} {F:IFun} (ht:trFun P f=some F) {G:List Value -> Option Value}
  (hrun:∀ args v h N,G args=some v -> flatW v=true /\ args.length <= F.nt /\
   wpI E F.code (fun e s=>isEnd e /\ ∃ vs,resL s F.res=some vs /\ one vs=v /\ ∀ k,k < N -> hget s.hp k=hget h k) ⟨initT args,h,N⟩):SpecOK P f (flat G):=by
 refine spec_ok hE hm ht flat_mono ?_
 intro args h n v δ m N e hn hN _
 simp only [flat,Option.map_eq_some_iff,Prod.mk.injEq] at e
 obtain ⟨v0,e1,rfl,rfl,rfl⟩:=e
 obtain ⟨h1,h2,h3⟩:=hrun args v0 h N e1
 refine ⟨h2,wpI_mono _ ?_ h3⟩
 rintro e s ⟨he,vs,hvs,hv,hh⟩
 exact ⟨he,vs,hvs,fc_flat h1 hv hN hh⟩
theorem after_det {dst:Option Nat} {s:St} {K:St -> Prop} {out:Option Out} (h:after dst s K out):∃ s1,K s1 /\ ∀ K':St -> Prop,K' s1 -> after dst s K' out:=by
 unfold after at h ⊢
 split at h
 ·exact ⟨_,h,fun K' h'=>h'⟩
 ·exact h.elim
theorem guarded_det {g:Option (Nat × Bool)} {tm:List (Nat × Value)} {yes no:Prop} (h:guarded g tm yes no):(yes /\ ∀ yes' no':Prop,yes' -> guarded g tm yes' no') \/ (no /\ ∀ yes' no':Prop,no' -> guarded g tm yes' no'):=by
 unfold guarded at h ⊢
 split at h
 ·exact .inl ⟨h,fun _ _ h'=>h'⟩
 ·rename_i t want
  split at h
  ·rename_i b hb
   by_cases e:b=want
   ·exact .inl ⟨h.1 e,fun _ _ h'=>⟨fun _=>h',fun h=>absurd e h⟩⟩
   ·exact .inr ⟨h.2 e,fun _ _ h'=>⟨fun h=>absurd h e,fun _=>h'⟩⟩
  ·exact h.elim
  ·exact .inr ⟨h,fun _ _ h'=>h'⟩
theorem wpR_det {E:Env}:∀ (ops:List ROp) {K:St -> Prop} {s:St},wpR E K ops s -> ∃ s1,K s1 /\ ∀ K':St -> Prop,K' s1 -> wpR E K' ops s
 | [],K,s,h=>⟨s,h,fun K' h'=>h'⟩
 | o :: r,K,s,h=>by
  simp only [wpR] at h ⊢
  rcases guarded_det h with ⟨h1,h2⟩ | ⟨h1,h2⟩
  ·obtain ⟨s1,g1,g2⟩:=after_det h1
   obtain ⟨s2,k1,k2⟩:=wpR_det r g1
   exact ⟨s2,k1,fun K' h'=>h2 _ _ (g2 _ (k2 K' h'))⟩
  ·obtain ⟨s2,k1,k2⟩:=wpR_det r h1
   exact ⟨s2,k1,fun K' h'=>h2 _ _ (k2 K' h')⟩
theorem wpD_det {E:Env}:∀ (ops:List DOp) {K:St -> Prop} {j:Nat} {log:Log} {s:St},wpD E K ops j log s -> ∃ s1,K s1 /\ ∀ K':St -> Prop,K' s1 -> wpD E K' ops j log s
 | [],K,j,log,s,h=>⟨s,h,fun K' h'=>h'⟩
 | o :: r,K,j,log,s,h=>by
  simp only [wpD] at h ⊢
  rcases guarded_det h with ⟨h1,h2⟩ | ⟨h1,h2⟩
  ·cases hh:istep E (ev s.tm) (maskH o.um log ++ s.hp) s.nx o.op with
   | some out=>
    obtain ⟨v,δ,m⟩:=out
    rw [hh] at h1
    simp only [afterD] at h1
    obtain ⟨s2,k1,k2⟩:=wpD_det r h1.2
    refine ⟨s2,k1,fun K' h'=>h2 _ _ ?_⟩
    simp only [afterD]
    exact ⟨h1.1,k2 K' h'⟩
   | none=>rw [hh] at h1;exact h1.elim
  ·obtain ⟨s2,k1,k2⟩:=wpD_det r h1
   exact ⟨s2,k1,fun K' h'=>h2 _ _ (k2 K' h')⟩
theorem wpI_det {E:Env}:∀ (c:ICode) {Q:IExit -> St -> Prop} {s:St},wpI E c Q s -> ∃ e s1,Q e s1 /\ ∀ Q':IExit -> St -> Prop,Q' e s1 -> wpI E c Q' s:=by
 intro c
 induction c with
 | skip=>intro Q s h;exact ⟨.normal,s,h,fun Q' h'=>h'⟩
 | ret=>intro Q s h;exact ⟨.ret,s,h,fun Q' h'=>h'⟩
 | exit id=>intro Q s h;exact ⟨.exit id,s,h,fun Q' h'=>h'⟩
 | seq a b iha ihb=>
  intro Q s h
  obtain ⟨e,s1,h1,h2⟩:=iha h
  cases e with
  | normal=>
   obtain ⟨e2,s2,g1,g2⟩:=ihb h1
   exact ⟨e2,s2,g1,fun Q' h'=>h2 _ (g2 Q' h')⟩
  | exit id=>exact ⟨.exit id,s1,h1,fun Q' h'=>h2 _ h'⟩
  | ret=>exact ⟨.ret,s1,h1,fun Q' h'=>h2 _ h'⟩
 | cond c a b iha ihb=>
  intro Q s h
  simp only [wpI] at h ⊢
  split at h
  ·rename_i t ht
   cases t with
   | true=>
    obtain ⟨e,s1,h1,h2⟩:=iha (h.1 rfl)
    exact ⟨e,s1,h1,fun Q' h'=>⟨fun _=>h2 Q' h',fun e=>(by cases e)⟩⟩
   | false=>
    obtain ⟨e,s1,h1,h2⟩:=ihb (h.2 rfl)
    exact ⟨e,s1,h1,fun Q' h'=>⟨fun e=>(by cases e),fun _=>h2 Q' h'⟩⟩
  ·exact h.elim
 | block id a iha=>
  intro Q s h
  obtain ⟨e,s1,h1,h2⟩:=iha h
  cases e with
  | normal=>exact ⟨.normal,s1,h1,fun Q' h'=>h2 _ h'⟩
  | ret=>exact ⟨.ret,s1,h1,fun Q' h'=>h2 _ h'⟩
  | exit id'=>
   simp only [blockQ] at h1
   by_cases e:id'=id
   ·rw [if_pos e] at h1
    exact ⟨.normal,s1,h1,fun Q' h'=>h2 _ (by simp only [blockQ];rw [if_pos e];exact h')⟩
   ·rw [if_neg e] at h1
    exact ⟨.exit id',s1,h1,fun Q' h'=>h2 _ (by simp only [blockQ];rw [if_neg e];exact h')⟩
 | loop a iha=>
  intro Q s h
  obtain ⟨n,hn⟩:=h
  have key:∀ n s,loopN (wpI E a) Q n s -> ∃ e s1,Q e s1 /\ ∀ Q':IExit -> St -> Prop,Q' e s1 -> loopN (wpI E a) Q' n s:=by
   intro n
   induction n with
   | zero=>intro s h;exact h.elim
   | succ n ih=>
    intro s h
    obtain ⟨e,s1,h1,h2⟩:=iha h
    cases e with
    | normal=>
     obtain ⟨e2,s2,g1,g2⟩:=ih s1 h1
     exact ⟨e2,s2,g1,fun Q' h'=>h2 _ (g2 Q' h')⟩
    | exit id=>exact ⟨.exit id,s1,h1,fun Q' h'=>h2 _ h'⟩
    | ret=>exact ⟨.ret,s1,h1,fun Q' h'=>h2 _ h'⟩
  obtain ⟨e,s1,h1,h2⟩:=key n s hn
  exact ⟨e,s1,h1,fun Q' h'=>⟨n,h2 Q' h'⟩⟩
 | reg ops=>intro Q s h;obtain ⟨s1,h1,h2⟩:=wpR_det ops h;exact ⟨.normal,s1,h1,fun Q' h'=>h2 _ h'⟩
 | fail=>intro Q s h;exact h.elim
 | dreg ops=>intro Q s h;obtain ⟨s1,h1,h2⟩:=wpD_det ops h;exact ⟨.normal,s1,h1,fun Q' h'=>h2 _ h'⟩
theorem loop_step {E:Env} {a:ICode} {Q:IExit -> St -> Prop} {s:St} (h:wpI E a (thenQ (wpI E (.loop a) Q) Q) s):wpI E (.loop a) Q s:=by
 obtain ⟨e,s1,h1,h2⟩:=wpI_det a h
 cases e with
 | normal=>
  obtain ⟨n,hn⟩:=h1
  exact ⟨n+1,h2 _ hn⟩
 | exit id=>exact ⟨1,h2 _ h1⟩
 | ret=>exact ⟨1,h2 _ h1⟩
theorem loop_inv {E:Env} {a:ICode} {Q:IExit -> St -> Prop} (I:Nat -> St -> Prop) (hr:∀ m s,I m s -> wpI E a (thenQ (fun s'=>∃ m',m' < m /\ I m' s') Q) s):∀ m s,I m s -> wpI E (.loop a) Q s:=by
 intro m
 induction m using Nat.strongRecOn with
 | _ m ih=>
  intro s hs
  refine loop_step (wpI_mono a ?_ (hr m s hs))
  intro e s' he
  cases e with
  | normal=>obtain ⟨m',h1,h2⟩:=he;exact ih m' h1 s' h2
  | exit id=>exact he
  | ret=>exact he
end Go.Eng
end
