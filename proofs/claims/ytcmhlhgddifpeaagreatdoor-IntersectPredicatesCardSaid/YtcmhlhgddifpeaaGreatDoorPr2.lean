/-
  A part of the proof: the machine, the contracts of the functions and the plain laws, merged from smaller texts.
-/
import Derived.Test.YtcmhlhgddifpeaaGreatDoorPr1
import Derived.LoopN
import Derived.IntWalk
import Derived.Test.YtcmhlhgddifpeaaGreatDoorProg
import Derived.KernelRfl
section
set_option linter.unusedVariables false
set_option linter.unusedSimpArgs false
set_option linter.unusedSectionVars false
namespace Go.Eng
section
variable {P : Program} {E : Env} {β0 : Emb} {h0 : Heap} {w0 : World} {nt N0 : Nat}
def liftQ (β0 : Emb) (h0 : Heap) (w0 : World) (nt N0 : Nat) (K : IExit → St → Prop) : Exit → Act → World → Prop
  | .normal, a, w => ∃ β s, K .normal s ∧ SR β0 h0 w0 nt N0 β s a w
  | .exit id, a, w => ∃ β s, K (.exit id) s ∧ SR β0 h0 w0 nt N0 β s a w
  | .ret, a, w => ∃ β s, K .ret s ∧ SR β0 h0 w0 nt N0 β s a w
  | _, _, _ => False
theorem code_sound (hE : EnvOK P E) (hm : P.follows .mixedOrders = true) : ∀ (c : Code) (ic : ICode), trCode P nt c = some ic → ∀ (K : IExit → St → Prop) (β : Emb) (s : St) (a : Act) (w : World), wpI E ic K s → SR β0 h0 w0 nt N0 β s a w →
    c.wp P (liftQ β0 h0 w0 nt N0 K) a w := by
  intro c
  induction c with
  | skip => intro ic e K β s a w hk r; simp [trCode] at e; subst e; exact wp_skip ⟨β, s, hk, r⟩
  | ret => intro ic e K β s a w hk r; simp [trCode] at e; subst e; exact wp_ret ⟨β, s, hk, r⟩
  | exit id => intro ic e K β s a w hk r; simp [trCode] at e; subst e; exact wp_exit ⟨β, s, hk, r⟩
  | seq x y ihx ihy =>
    intro ic e K β s a w hk r
    simp only [trCode] at e
    split at e
    · rename_i ix iy h1 h2
      cases e
      refine wp_seq (wp_mono (ihx ix h1 _ β s a w hk r) ?_)
      intro e a' w' he
      cases e <;> simp only [liftQ] at he <;> simp only [Exit.then, liftQ]
      · obtain ⟨β', s', hk', r'⟩ := he; exact ihy iy h2 K β' s' a' w' hk' r'
      · obtain ⟨β', s', hk', r'⟩ := he; exact ⟨β', s', hk', r'⟩
      · obtain ⟨β', s', hk', r'⟩ := he; exact ⟨β', s', hk', r'⟩
    · cases e
  | cond c x y ihx ihy =>
    intro ic e K β s a w hk r
    simp only [trCode] at e
    split at e
    · rename_i ic' ix iy h0 h1 h2
      cases e
      simp only [wpI] at hk
      split at hk
      · rename_i t ht
        have hv := opd_of r.tm c ic' h0
        rw [ht] at hv
        refine wp_cond_split hv.bool_left (fun e => ihx ix h1 K β s a w (hk.1 e) r) (fun e => ihy iy h2 K β s a w (hk.2 e) r)
      · exact hk.elim
    · cases e
  | block id x ihx =>
    intro ic e K β s a w hk r
    simp only [trCode, Option.map_eq_some_iff] at e
    obtain ⟨ix, h1, rfl⟩ := e
    refine wp_block (wp_mono (ihx ix h1 _ β s a w hk r) ?_)
    intro e a' w' he
    cases e <;> simp only [liftQ] at he <;> simp only [Exit.inBlock, liftQ]
    · exact he
    · obtain ⟨β', s', hk', r'⟩ := he
      simp only [blockQ] at hk'
      split at hk'
      · rename_i e; rw [if_pos e]; exact ⟨β', s', hk', r'⟩
      · rename_i e; rw [if_neg e]; exact ⟨β', s', hk', r'⟩
    · exact he
  | loop x ihx =>
    intro ic e K β s a w hk r
    simp only [trCode, Option.map_eq_some_iff] at e
    obtain ⟨ix, h1, rfl⟩ := e
    obtain ⟨n, hn⟩ := hk
    refine wp_loop_rounds n ?_
    induction n generalizing β s a w with
    | zero => exact hn.elim
    | succ n ih =>
      rw [rounds_succ]
      refine wp_mono (ihx ix h1 _ β s a w hn r) ?_
      intro e a' w' he
      cases e <;> simp only [liftQ] at he <;> simp only [Exit.then, liftQ]
      · obtain ⟨β', s', hk', r'⟩ := he; exact ih β' s' a' w' r' hk'
      · obtain ⟨β', s', hk', r'⟩ := he; exact ⟨β', s', hk', r'⟩
      · obtain ⟨β', s', hk', r'⟩ := he; exact ⟨β', s', hk', r'⟩
  | region id ops draw =>
    intro ic e K β s a w hk r
    cases draw with
    | false =>
      simp only [trCode] at e
      split at e
      case h_2 => cases e; exact hk.elim
      rename_i irs h1
      cases e
      refine wp_region_list ?_
      have := reg_sound (opsA := ops.toList) (Q := liftQ β0 h0 w0 nt N0 K) hE (fun β s a w hk r => ⟨β, s, hk, r⟩) ops.toList irs h1 hk r
      simpa using this
    | true =>
      simp only [trCode] at e
      split at e
      case h_2 => cases e; exact hk.elim
      rename_i ds h1
      cases e
      exact draw_sound hE hm h1 (fun β s a w hk r => ⟨β, s, hk, r⟩) hk r
  | _ => intro ic e K β s a w hk r; simp [trCode] at e; subst e; exact hk.elim
end
inductive IRes where
  | t (t : Nat)
  | cell (t : Nat) (g : Bool) (sz : Nat)
structure IFun where
  nt : Nat
  res : List IRes
  code : ICode
def res1 (s : St) : IRes → Option Value
  | .t t => some (tmget s.tm t)
  | .cell t g sz => match tmget s.tm t with
    | .pointer (some ⟨k, off, none⟩) => match hget s.hp k with
      | some blk => if g then (if off + sz ≤ blk.cells.length then some (.agg ⟨(blk.cells.drop off).take sz⟩) else none) else blk.cells[off]?
      | none => none
    | _ => none
def resL (s : St) : List IRes → Option (List Value)
  | [] => some []
  | r :: rs => match res1 s r, resL s rs with | some v, some l => some (v :: l) | _, _ => none
def one : List Value → Value
  | [v] => v
  | l => .tuple ⟨l⟩
def trRes (P : Program) (nt : Nat) : List ResultVar → Option (List IRes)
  | [] => some []
  | .tmp t :: r => match trRes P nt r with | some l => if t < nt then some (.t t :: l) else none | none => none
  | .cell t ty :: r => match trRes P nt r, tyAgg P ty, szOf P ty with | some l, some g, some sz => if t < nt then some (.cell t g sz :: l) else none | _, _, _ => none
def trFun (P : Program) (f : Nat) : Option IFun :=
  match P.funcs[f]? with
  | some fn => match fn.body with
    | some c => if (fn.name == "runtime.NumGoroutine") = false then
        match trCode P fn.ntmps c, trRes P fn.ntmps fn.results.toList with
        | some ic, some r => some ⟨fn.ntmps, r, ic⟩
        | _, _ => none
      else none
    | none => none
  | none => none
def resSem (tmps : Array Value) (x : ResultVar) : Sem Value :=
  match x with
  | .tmp t => pure (tmps.getD t undef)
  | .cell ad t => do loadVar t (← asAddr (tmps.getD ad undef))
theorem resSem_tmp (P : Program) (tmps : Array Value) (t : Nat) (w : World) : (resSem tmps (.tmp t)).run P w = .ok (tmps.getD t undef) w := rfl
theorem resSem_cell (P : Program) (tmps : Array Value) (ad : Nat) (t : TypeId) (a : Addr) (u : Value) (w : World) (h : tmps.getD ad undef = .pointer (some a)) (hu : (loadVar t a).run P w = .ok u w) : (resSem tmps (.cell ad t)).run P w = .ok u w := by
  simp only [resSem, h, asAddr, Sem.run_bind, Sem.run_pure, Result.andThen_ok, hu]
theorem res_run {P : Program} {β : Emb} {s : St} {a : Act} {w : World} (htm : ∀ t, VR β (tmget s.tm t) (a.tmps.getD t undef)) (rel : Rel β s.hp w) {nt : Nat} : ∀ (rs : List ResultVar) (irs : List IRes) (vs : List Value), trRes P nt rs = some irs → resL s irs = some vs →
    ∃ vs', VRs β vs vs' ∧ (rs.mapM (m := Sem) (resSem a.tmps)).run P w = .ok vs' w
  | [], irs, vs, e, h => by
    simp [trRes] at e; subst e; simp [resL] at h; subst h
    exact ⟨[], .nil, rfl⟩
  | .tmp t :: rs, irs, vs, e, h => by
    simp only [trRes] at e
    split at e
    · rename_i l hl
      split at e
      · cases e
        simp only [resL, res1] at h
        split at h
        · rename_i v l' h1 h2
          cases h; cases h1
          obtain ⟨vs', g1, g2⟩ := res_run htm rel rs l l' hl h2
          refine ⟨_, .cons _ _ _ _ (htm t) g1, ?_⟩
          simp only [List.mapM_cons, Sem.run_bind, resSem_tmp, Sem.run_pure, Result.andThen_ok, g2]
        · cases h
      · cases e
    · cases e
  | .cell ad ty :: rs, irs, vs, e, h => by
    simp only [trRes] at e
    split at e
    · rename_i l g sz hl hg hsz
      split at e
      · cases e
        simp only [resL] at h
        split at h
        · rename_i v l' h1 h2
          cases h
          obtain ⟨vs', g1, g2⟩ := res_run htm rel rs l l' hl h2
          simp only [res1] at h1
          split at h1
          · rename_i k off hp
            have hv := htm ad
            rw [hp] at hv
            obtain ⟨L, hL, hv'⟩ := hv.ptr_left
            split at h1
            · rename_i blk hk
              obtain ⟨L', ds, fr, a1, a2, a3, a4, a5, a6⟩ := rel.live k blk hk
              rw [hL] at a1; cases a1
              have hrun : ∃ u, (loadVar ty ⟨L.b, off, none⟩).run P w = .ok u w ∧ VR β v u := by
                cases g with
                | true =>
                  simp only [if_true] at h1
                  split at h1
                  · rename_i hle
                    cases h1
                    have hlen := a4.length
                    have := run_loadCells P a2 (off := off) (n := sz) (by simp; omega)
                    rw [List.drop_append_of_le_length (by omega), List.take_append_of_le_length (by simp; omega)] at this
                    exact ⟨.agg ⟨(ds.drop off).take sz⟩, by simp [loadVar, run_agg hg, run_size hsz, this], .agg _ _ ((a4.drop off).take sz)⟩
                  · cases h1
                | false =>
                  simp only [Bool.false_eq_true, if_false] at h1
                  obtain ⟨u', b1, b2⟩ := a4.get h1
                  have : w.cell? ⟨L.b, off, none⟩ = some u' := by
                    rw [cell_of a2, List.getElem?_append_left (by rcases List.getElem?_eq_some_iff.1 b1 with ⟨x, _⟩; exact x)]; exact b1
                  exact ⟨u', by simp [loadVar, run_agg hg, this], b2⟩
              obtain ⟨u2, hu, hvu⟩ := hrun
              refine ⟨_, .cons _ _ _ _ hvu g1, ?_⟩
              simp only [List.mapM_cons, Sem.run_bind, resSem_cell P _ _ _ _ _ w hv' hu, Sem.run_pure, Result.andThen_ok, g2]
            · cases h1
          · cases h1
        · cases h
      · cases e
    · cases e
theorem VRs.one {β : Emb} {vs vs' : List Value} (h : VRs β vs vs') : VR β (one vs) (if h : vs'.length = 1 then vs'[0] else .tuple ⟨vs'⟩) := by
  cases h with
  | nil => exact .tup _ _ .nil
  | cons v v' r r' h h' =>
    cases h' with
    | nil => exact h
    | cons u u' q q' g g' =>
      simp only [Eng.one]
      rw [dif_neg (by simp)]
      exact .tup _ _ (.cons _ _ _ _ h (.cons _ _ _ _ g g'))
theorem results_run {P : Program} {β : Emb} {s : St} {a : Act} {w : World} {fn : Func} (htm : ∀ t, VR β (tmget s.tm t) (a.tmps.getD t undef)) (rel : Rel β s.hp w) {nt : Nat} {irs : List IRes} {vs : List Value}
    (e : trRes P nt fn.results.toList = some irs) (h : resL s irs = some vs) : ∃ v', VR β (one vs) v' ∧ (results fn a.tmps).run P w = .ok v' w := by
  obtain ⟨vs', g1, g2⟩ := res_run htm rel fn.results.toList irs vs e h
  refine ⟨_, g1.one, ?_⟩
  have e1 : results fn a.tmps = (do
      let vs ← fn.results.mapM (resSem a.tmps)
      pure (if h : vs.size = 1 then vs[0] else .tuple vs)) := rfl
  have e2 : (fn.results.mapM (m := Sem) (resSem a.tmps)).run P w = .ok ⟨vs'⟩ w := by
    rw [← Array.toArray_toList (xs := fn.results), List.mapM_toArray]
    simp only [Sem.run_map, g2, Result.andThen_ok]
  rw [e1]
  simp only [Sem.run_bind, e2, Result.andThen_ok, Sem.run_pure]
  try rfl
def iotaE (ι : List (Nat × Nat)) (N : Nat) : Emb := fun k =>
  match ι.find? (fun p => p.1 == k) with
  | some p => some ⟨p.2, 0, []⟩
  | none => if k < N then some ⟨k, 0, []⟩ else none
def FC (h : Heap) (n N : Nat) (o : Out) (hp : Heap) (v'' : Value) : Prop :=
  ∃ ι : List (Nat × Nat), (∀ p ∈ ι, n ≤ p.1 ∧ p.1 < n + o.2.2) ∧ VR (iotaE ι N) o.1 v'' ∧
    (∀ k blk, hget (o.2.1 ++ h) k = some blk → (k < N ∧ hget h k = some blk ∧ hget hp k = some blk) ∨ ∃ L blk'', iotaE ι N k = some L ∧ hget hp L.b = some blk'' ∧ blk''.elem = blk.elem ∧ blk''.sz = blk.sz ∧ (blk.x = true → blk''.x = true) ∧ VRs (iotaE ι N) blk.cells blk''.cells) ∧
    (∀ k k' L L', hget (o.2.1 ++ h) k ≠ none → hget (o.2.1 ++ h) k' ≠ none → iotaE ι N k = some L → iotaE ι N k' = some L' → L.b = L'.b → k = k')
mutual
theorem VR.restrict {β β' : Emb} (hb : β.le β') {v d0 d : Value} (h1 : VR β v d0) (h2 : VR β' v d) : VR β v d := by
  cases h1 with
  | base _ hb => rw [h2.base_left hb]; exact .base _ hb
  | ptr k off L hL =>
    obtain ⟨M, hM, rfl⟩ := h2.ptr_left
    rw [hb k L hL] at hM; cases hM
    exact .ptr _ _ _ hL
  | sl k off len cap L hL =>
    obtain ⟨M, hM, rfl⟩ := h2.sl_left
    rw [hb k L hL] at hM; cases hM
    exact .sl _ _ _ _ _ hL
  | slz k off c L hL =>
    obtain ⟨M, o', c', hM, rfl⟩ := h2.slz_left
    rw [hb k L hL] at hM; cases hM
    exact .slz _ _ _ _ hL
  | fn f xs xs' cs cs' g g' =>
    cases h2 with
    | base _ hb => simp [isBase] at hb
    | fn _ _ ys _ ds q q' => exact .fn _ _ _ _ _ (VRs.restrict hb g q) (VRs.restrict hb g' q')
  | ifc t u u' g =>
    cases h2 with
    | base _ hb => simp [isBase] at hb
    | ifc _ _ y q => exact .ifc _ _ _ (VR.restrict hb g q)
  | agg cs ds g =>
    obtain ⟨es, q, rfl⟩ := h2.agg_left
    exact .agg _ _ (VRs.restrict hb g q)
  | tup cs ds g =>
    obtain ⟨es, q, rfl⟩ := h2.tup_left
    exact .tup _ _ (VRs.restrict hb g q)
theorem VRs.restrict {β β' : Emb} (hb : β.le β') {v d0 d : List Value} (h1 : VRs β v d0) (h2 : VRs β' v d) : VRs β v d := by
  cases h1 with
  | nil => cases h2; exact .nil
  | cons a b r r' g g' =>
    cases h2 with
    | cons _ c _ q k k' => exact .cons _ _ _ _ (VR.restrict hb g k) (VRs.restrict hb g' k')
end
mutual
theorem VR.comp {β1 β2 β3 : Emb} (hc : ∀ k L M, β1 k = some L → β2 L.b = some M → L.ex = 0 ∧ β3 k = some M) {v v'' v' : Value} (h1 : VR β1 v v'') (h2 : VR β2 v'' v') : VR β3 v v' := by
  cases h1 with
  | base _ hb => rw [h2.base_left hb]; exact .base _ hb
  | ptr k off L hL =>
    obtain ⟨M, hM, rfl⟩ := h2.ptr_left
    exact .ptr _ _ _ (hc k L M hL hM).2
  | sl k off len cap L hL =>
    obtain ⟨M, hM, rfl⟩ := h2.sl_left
    obtain ⟨e, h3⟩ := hc k L M hL hM
    rw [e, Nat.add_zero]
    exact .sl _ _ _ _ _ h3
  | slz k off c L hL =>
    obtain ⟨M, hM, rfl⟩ := h2.sl_left
    exact .slz _ _ _ _ (hc k L M hL hM).2
  | fn f xs xs' cs cs' g g' =>
    cases h2 with
    | base _ hb => simp [isBase] at hb
    | fn _ _ ys _ ds q q' => exact .fn _ _ _ _ _ (VRs.comp hc g q) (VRs.comp hc g' q')
  | ifc t u u' g =>
    cases h2 with
    | base _ hb => simp [isBase] at hb
    | ifc _ _ y q => exact .ifc _ _ _ (VR.comp hc g q)
  | agg cs ds g =>
    obtain ⟨es, q, rfl⟩ := h2.agg_left
    exact .agg _ _ (VRs.comp hc g q)
  | tup cs ds g =>
    obtain ⟨es, q, rfl⟩ := h2.tup_left
    exact .tup _ _ (VRs.comp hc g q)
theorem VRs.comp {β1 β2 β3 : Emb} (hc : ∀ k L M, β1 k = some L → β2 L.b = some M → L.ex = 0 ∧ β3 k = some M) {v v'' v' : List Value} (h1 : VRs β1 v v'') (h2 : VRs β2 v'' v') : VRs β3 v v' := by
  cases h1 with
  | nil => cases h2; exact .nil
  | cons a b r r' g g' =>
    cases h2 with
    | cons _ c _ q k k' => exact .cons _ _ _ _ (VR.comp hc g k) (VRs.comp hc g' k')
end
def initT (args : List Value) : List (Nat × Value) := args.zipIdx.map fun x => (x.2, x.1)
def isEnd : IExit → Prop
  | .normal | .ret => True
  | _ => False
structure SpecOK (P : Program) (f : Nat) (S : List Value → Heap → Nat → Option Out) : Prop where
  ok : ∀ args h n o, S args h n = some o → CallOK P f args h n o
  body : hasBody P f = true
  mono : ∀ args h h' n o, hle h h' → S args h n = some o → S args h' n = some o
theorem tmget_init : ∀ (args : List Value) (i t : Nat), tmget ((args.zipIdx i).map fun x => (x.2, x.1)) t = if i ≤ t then (args[t - i]?).getD undef else undef
  | [], i, t => by simp [tmget]
  | v :: args, i, t => by
    simp only [List.zipIdx_cons, List.map_cons, tmget]
    rw [tmget_init args (i + 1) t]
    by_cases h1 : i = t
    · subst h1; simp
    · rw [if_neg h1]
      by_cases h2 : i ≤ t
      · have : t - i = (t - (i + 1)) + 1 := by omega
        rw [if_pos h2, if_pos (by omega), this]; simp
      · rw [if_neg h2, if_neg (by omega)]
theorem maxKey : ∀ (h : Heap), ∃ N, ∀ k b, hget h k = some b → k < N
  | [] => ⟨0, fun k b e => by simp [hget] at e⟩
  | (k0, b0) :: h => by
    obtain ⟨N, hN⟩ := maxKey h
    refine ⟨max N (k0 + 1), fun k b e => ?_⟩
    by_cases hk : k0 = k
    · omega
    · rw [hget_cons_other _ _ hk] at e
      have := hN k b e; omega
theorem spec_ok {P : Program} {E : Env} (hE : EnvOK P E) (hm : P.follows .mixedOrders = true) {f : Nat} {F : IFun} (ht : trFun P f = some F) {S : List Value → Heap → Nat → Option Out}
    (mono : ∀ args h h' n o, hle h h' → S args h n = some o → S args h' n = some o)
    (hrun : ∀ args h n v δ m N, S args h n = some (v, δ, m) → n + m ≤ N → (∀ k b, hget h k = some b → k < N) → args.length ≤ F.nt ∧
      wpI E F.code (fun e s => isEnd e ∧ ∃ vs, resL s F.res = some vs ∧ FC h n N (v, δ, m) s.hp (one vs)) ⟨initT args, h, N⟩) : SpecOK P f S := by
  unfold trFun at ht
  split at ht
  · rename_i fn hfn
    split at ht
    · rename_i c hc
      split at ht
      · rename_i hname
        split at ht
        · rename_i ic irs hic hirs
          cases ht
          refine ⟨?_, by simp [hasBody, hfn, hc, hname], mono⟩
          intro args h n o hS β w args' hargs rel hfresh ⟨N0, hN0⟩
          obtain ⟨v, δ, m⟩ := o
          obtain ⟨N1, hN1⟩ := maxKey h
          let N := max (max N0 N1) (n + m)
          obtain ⟨hal, hwp⟩ := hrun args h n v δ m N hS (Nat.le_max_right _ _) (fun k b e => by have := hN1 k b e; omega)
          simp only at hal hwp
          have hlen := hargs.length
          refine calls_of_wp hfn hc ?_
          refine wp_mono (code_sound (β0 := β) (h0 := h) (w0 := w) (nt := fn.ntmps) (N0 := N) hE hm c ic hic _ β ⟨initT args, h, N⟩ _ w hwp ?_) ?_
          · refine ⟨fun t => ?_, ?_, rel, Fr.refl _ _ _, fun k hk => by have := hN0 k hk; simp only; omega, rfl, Nat.le_refl _, fun k hk => .inl hk⟩
            · simp only [initT]
              rw [tmget_init args 0 t, if_pos (Nat.zero_le _), Nat.sub_zero]
              rw [Array.getD_eq_getD_getElem?]
              cases ha : args[t]? with
              | some u =>
                obtain ⟨u', g1, g2⟩ := hargs.get ha
                have hlt : t < args'.length := (List.getElem?_eq_some_iff.1 g1).1
                rw [Array.getElem?_append_left (by simpa using hlt)]
                simp [g1, g2]
              | none =>
                have hge : args.length ≤ t := List.getElem?_eq_none_iff.1 ha
                rw [Array.getElem?_append_right (by simp; omega)]
                simp only [Option.getD_none]
                by_cases hh : t - args'.length < fn.ntmps - args'.length
                · simp [Array.getElem?_replicate, hh]; exact undef_vr _
                · simp [Array.getElem?_replicate, hh]; exact undef_vr _
            · simp; omega
          · intro e a' w' he
            have fin : ∀ (β' : Emb) (s' : St), (∃ vs, resL s' irs = some vs ∧ FC h n N (v, δ, m) s'.hp (one vs)) → SR β h w fn.ntmps N β' s' a' w' →
                a'.defers = [] ∧ ∃ u, (results fn a'.tmps).run P w' = .ok u w' ∧ ∃ β2 v', Ending.returned u = .returned v' ∧ VR β2 v v' ∧ Rel β2 (δ ++ h) w' ∧ Fr β h w β2 (δ ++ h) w' ∧ ∀ k, β2 k ≠ none → β k ≠ none ∨ (n ≤ k ∧ k < n + m) := by
              intro β' s' ⟨vs, hvs, ι, hι, hv, hb, hinj⟩ r
              refine ⟨r.defs, ?_⟩
              obtain ⟨u, hu1, hu2⟩ := results_run r.tm r.rel hirs hvs
              refine ⟨u, hu2, ?_⟩
              let β2 : Emb := fun k => if (β k).isSome then β k else (match ι.find? (fun p => p.1 == k) with | some p => β' p.2 | none => none)
              have β2old : ∀ k L, β k = some L → β2 k = some L := fun k L e => by simp only [β2, e]; rfl
              have hkey : ∀ k p, ι.find? (fun p => p.1 == k) = some p → n ≤ k ∧ k < n + m ∧ β k = none := by
                intro k p e
                have h1 := List.find?_some e
                have h2 := List.mem_of_find?_eq_some e
                have h3 := hι p h2
                simp only [beq_iff_eq] at h1
                subst h1
                exact ⟨h3.1, h3.2, hfresh _ h3.1 h3.2⟩
              have comp : ∀ k L M, iotaE ι N k = some L → β' L.b = some M → L.ex = 0 ∧ β2 k = some M := by
                intro k L M e1 e2
                unfold iotaE at e1
                split at e1
                · rename_i p hp
                  cases e1
                  refine ⟨rfl, ?_⟩
                  obtain ⟨_, _, hno⟩ := hkey k p hp
                  simp only [β2, hno, Option.isSome_none, Bool.false_eq_true, if_false, hp]
                  exact e2
                · split at e1
                  · rename_i hlt
                    cases e1
                    refine ⟨rfl, ?_⟩
                    simp only at e2
                    cases hbk : β k with
                    | some L0 =>
                      rw [r.fr.ext k L0 hbk] at e2
                      cases e2
                      exact β2old k _ hbk
                    | none =>
                      exfalso
                      rcases r.new k (by rw [e2]; simp) with h | h
                      · exact h hbk
                      · omega
                  · cases e1
              have bnd2 : ∀ k M, β2 k = some M → ∃ k', β' k' = some M := by
                intro k M e
                simp only [β2] at e
                split at e
                · exact ⟨k, r.fr.ext k M e⟩
                · split at e
                  · exact ⟨_, e⟩
                  · cases e
              have blocks : ∀ k blk, hget (δ ++ h) k = some blk → ∃ L blk'' M ds fr, iotaE ι N k = some L ∧ hget s'.hp L.b = some blk'' ∧ β' L.b = some M ∧ β2 k = some M ∧ w'.heap[M.b]? = some (.cells ⟨ds ++ M.sp⟩ blk.elem fr) ∧
                  (fr.2 ≤ fr.1 ∨ (ds ++ M.sp).length ≤ fr.1) ∧ VRs β2 blk.cells ds ∧ M.sp.length = M.ex * blk.sz ∧ (blk.x = true → M.ex = 0) := by
                intro k blk hk
                rcases hb k blk hk with ⟨hlt, hk1, hk2⟩ | ⟨L, blk'', c1, c2, c3, c4, c5, c6⟩
                · obtain ⟨M0, ds0, fr0, b1, b2, b3, b4, b5⟩ := rel.live k blk hk1
                  have hno : ι.find? (fun p => p.1 == k) = none := by
                    cases hh : ι.find? (fun p => p.1 == k) with
                    | none => rfl
                    | some p => have := (hkey k p hh).2.2; rw [b1] at this; cases this
                  have hi : iotaE ι N k = some ⟨k, 0, []⟩ := by simp [iotaE, hno, hlt]
                  obtain ⟨M, ds, fr, d1, d2, d3, d4, d5, d6⟩ := r.rel.live k blk hk2
                  have hM : M = M0 := by rw [r.fr.ext k M0 b1] at d1; cases d1; rfl
                  subst hM
                  exact ⟨_, blk, M, ds, fr, hi, hk2, d1, β2old k M b1, d2, d3, (VRs.restrict r.fr.ext b4 d4).mono β2old, d5, d6⟩
                obtain ⟨M, ds, fr, d1, d2, d3, d4, d5, d6⟩ := r.rel.live L.b blk'' c2
                exact ⟨L, blk'', M, ds, fr, c1, c2, d1, (comp k L M c1 d1).2, by rw [← c3]; exact d2, d3, VRs.comp comp c6 d4, by rw [← c4]; exact d5, fun e => d6 (c5 e)⟩
              have ne_live : ∀ k, hget (δ ++ h) k ≠ none → ∃ L, iotaE ι N k = some L ∧ hget s'.hp L.b ≠ none ∧ β' L.b = β2 k := by
                intro k hk
                cases hh : hget (δ ++ h) k with
                | none => exact absurd hh hk
                | some blk =>
                  obtain ⟨L, blk'', M, ds, fr, c1, c2, c3, c4, _⟩ := blocks k blk hh
                  exact ⟨L, c1, by rw [c2]; simp, by rw [c3, c4]⟩
              refine ⟨β2, u, rfl, VR.comp comp hv hu1, ⟨?_, ?_, ?_⟩, ⟨fun k L e => β2old k L e, r.fr.size, r.fr.os, r.fr.out, r.fr.keep, ?_⟩, ?_⟩
              · intro k blk hk
                obtain ⟨L, blk'', M, ds, fr, c1, c2, c3, c4, c5⟩ := blocks k blk hk
                exact ⟨M, ds, fr, c4, c5⟩
              · intro k k' M M' a1 a2 b1 b2 e
                obtain ⟨L, l1, l2, l3⟩ := ne_live k a1
                obtain ⟨L', l1', l2', l3'⟩ := ne_live k' a2
                have := r.rel.inj L.b L'.b M M' l2 l2' (by rw [l3]; exact b1) (by rw [l3']; exact b2) e
                exact hinj k k' L L' a1 a2 l1 l1' this
              · intro k M e
                obtain ⟨k', e'⟩ := bnd2 k M e
                exact r.rel.bnd k' M e'
              · intro k M a1 b1 hlt
                obtain ⟨L, l1, l2, l3⟩ := ne_live k a1
                exact r.fr.own L.b M l2 (by rw [l3]; exact b1) hlt
              · intro k hk
                simp only [β2] at hk
                split at hk
                · exact .inl hk
                · split at hk
                  · rename_i p hp
                    have := hkey k p hp
                    exact .inr ⟨this.1, this.2.1⟩
                  · exact absurd rfl hk
            cases e <;> simp only [liftQ] at he
            · obtain ⟨β', s', ⟨_, hk⟩, r⟩ := he
              obtain ⟨d, u, hu, hh⟩ := fin β' s' hk r
              exact ⟨d, u, hu, hh⟩
            · obtain ⟨β', s', ⟨hk0, _⟩, r⟩ := he
              exact hk0.elim
            · obtain ⟨β', s', ⟨_, hk⟩, r⟩ := he
              obtain ⟨d, u, hu, hh⟩ := fin β' s' hk r
              exact ⟨d, u, hu, hh⟩
        · cases ht
      · cases ht
    · cases ht
  · cases ht
end Go.Eng
end
section
set_option linter.unusedVariables false
set_option linter.unusedSimpArgs false
set_option linter.unusedSectionVars false
namespace Go.Eng
abbrev Spec := List Value → Heap → Nat → Option Out
def mkEnv : List (Nat × Spec) → Env
  | [], _, _, _, _ => none
  | (f, S) :: r, g, args, h, n => if f = g then S args h n else mkEnv r g args h n
theorem env_nil (P : Program) : EnvOK P (mkEnv []) :=
  ⟨fun _ _ _ _ _ e => by simp [mkEnv] at e, fun _ _ _ _ _ e => by simp [mkEnv] at e, fun _ _ _ _ _ _ _ e => by simp [mkEnv] at e⟩
theorem env_cons {P : Program} {f : Nat} {S : Spec} {r : List (Nat × Spec)} (h : SpecOK P f S) (hr : EnvOK P (mkEnv r)) : EnvOK P (mkEnv ((f, S) :: r)) where
  ok g args hp n o e := by
    simp only [mkEnv] at e
    split at e
    · rename_i hh; subst hh; exact h.ok args hp n o e
    · exact hr.ok g args hp n o e
  body g args hp n o e := by
    simp only [mkEnv] at e
    split at e
    · rename_i hh; subst hh; exact h.body
    · exact hr.body g args hp n o e
  mono g args hp hp' n o hl e := by
    simp only [mkEnv] at e ⊢
    split at e
    · rename_i hh; rw [if_pos hh]; exact h.mono args hp hp' n o hl e
    · rename_i hh; rw [if_neg hh]; exact hr.mono g args hp hp' n o hl e
def flatV : Value → Bool
  | .agg ⟨l⟩ | .tuple ⟨l⟩ => l.all isBase
  | v => isBase v
def flatW : Value → Bool
  | .tuple ⟨l⟩ => l.all flatV
  | v => flatV v
theorem flatV_vr {β : Emb} {v : Value} (h : flatV v = true) : VR β v v := by
  match v, h with
  | .agg ⟨l⟩, h => exact .agg _ _ (VRs.of_base h)
  | .tuple ⟨l⟩, h => exact .tup _ _ (VRs.of_base h)
  | .bool _, h => exact .base _ h
  | .int _ _, h => exact .base _ h
  | .float _ _, h => exact .base _ h
  | .complex _ _ _, h => exact .base _ h
  | .string _, h => exact .base _ h
  | .pointer _, h => exact .base _ h
  | .slice _ _ _, h => exact .base _ h
  | .map _, h => exact .base _ h
  | .chan _, h => exact .base _ h
  | .func _ _ _, h => exact .base _ h
  | .nilFunc, h => exact .base _ h
  | .iface _ _, h => exact .base _ h
  | .nilIface, h => exact .base _ h
theorem flatL_vr {β : Emb} : ∀ {l : List Value}, l.all flatV = true → VRs β l l
  | [], _ => .nil
  | v :: l, h => by simp only [List.all_cons, Bool.and_eq_true] at h; exact .cons _ _ _ _ (flatV_vr h.1) (flatL_vr h.2)
theorem flatW_vr {β : Emb} {v : Value} (h : flatW v = true) : VR β v v := by
  match v, h with
  | .tuple ⟨l⟩, h => exact .tup _ _ (flatL_vr h)
  | .agg ⟨l⟩, h => exact flatV_vr (v := .agg ⟨l⟩) h
  | .bool _, h => exact .base _ h
  | .int _ _, h => exact .base _ h
  | .float _ _, h => exact .base _ h
  | .complex _ _ _, h => exact .base _ h
  | .string _, h => exact .base _ h
  | .pointer _, h => exact .base _ h
  | .slice _ _ _, h => exact .base _ h
  | .map _, h => exact .base _ h
  | .chan _, h => exact .base _ h
  | .func _ _ _, h => exact .base _ h
  | .nilFunc, h => exact .base _ h
  | .iface _ _, h => exact .base _ h
  | .nilIface, h => exact .base _ h
def flat (F : List Value → Option Value) : Spec := fun args h n => (F args).map fun v => (v, [], 0)
theorem fc_flat {h hp : Heap} {n N : Nat} {v v'' : Value} (hv : flatW v = true) (he : v'' = v) (hN : ∀ k b, hget h k = some b → k < N) (hh : ∀ k, k < N → hget hp k = hget h k) : FC h n N (v, [], 0) hp v'' := by
  subst he
  refine ⟨[], fun p hp => by simp at hp, flatW_vr hv, ?_, ?_⟩
  · intro k blk hk
    simp only [List.nil_append] at hk
    have hlt := hN k blk hk
    exact .inl ⟨hlt, hk, by rw [hh k hlt]; exact hk⟩
  · intro k k' L L' a a' b b' e
    simp [iotaE] at b b'
    obtain ⟨_, rfl⟩ := b
    obtain ⟨_, rfl⟩ := b'
    exact e
theorem flat_mono {F : List Value → Option Value} : ∀ args h h' n o, hle h h' → flat F args h n = some o → flat F args h' n = some o := fun _ _ _ _ _ _ e => e
theorem flat_ok {P : Program} {E : Env} (hE : EnvOK P E) (hm : P.follows .mixedOrders = true) {f : Nat} {F : IFun} (ht : trFun P f = some F) {G : List Value → Option Value}
    (hrun : ∀ args v h N, G args = some v → flatW v = true ∧ args.length ≤ F.nt ∧
      wpI E F.code (fun e s => isEnd e ∧ ∃ vs, resL s F.res = some vs ∧ one vs = v ∧ ∀ k, k < N → hget s.hp k = hget h k) ⟨initT args, h, N⟩) : SpecOK P f (flat G) := by
  refine spec_ok hE hm ht flat_mono ?_
  intro args h n v δ m N e hn hN
  simp only [flat, Option.map_eq_some_iff, Prod.mk.injEq] at e
  obtain ⟨v0, e1, rfl, rfl, rfl⟩ := e
  obtain ⟨h1, h2, h3⟩ := hrun args v0 h N e1
  refine ⟨h2, wpI_mono _ ?_ h3⟩
  rintro e s ⟨he, vs, hvs, hv, hh⟩
  exact ⟨he, vs, hvs, fc_flat h1 hv hN hh⟩
theorem after_det {dst : Option Nat} {s : St} {K : St → Prop} {out : Option Out} (h : after dst s K out) : ∃ s1, K s1 ∧ ∀ K' : St → Prop, K' s1 → after dst s K' out := by
  unfold after at h ⊢
  split at h
  · exact ⟨_, h, fun K' h' => h'⟩
  · exact h.elim
theorem guarded_det {g : Option (Nat × Bool)} {tm : List (Nat × Value)} {yes no : Prop} (h : guarded g tm yes no) : (yes ∧ ∀ yes' no' : Prop, yes' → guarded g tm yes' no') ∨ (no ∧ ∀ yes' no' : Prop, no' → guarded g tm yes' no') := by
  unfold guarded at h ⊢
  split at h
  · exact .inl ⟨h, fun _ _ h' => h'⟩
  · rename_i t want
    split at h
    · rename_i b hb
      by_cases e : b = want
      · exact .inl ⟨h.1 e, fun _ _ h' => ⟨fun _ => h', fun h => absurd e h⟩⟩
      · exact .inr ⟨h.2 e, fun _ _ h' => ⟨fun h => absurd h e, fun _ => h'⟩⟩
    · exact .inr ⟨h, fun _ _ h' => h'⟩
theorem wpR_det {E : Env} : ∀ (ops : List ROp) {K : St → Prop} {s : St}, wpR E K ops s → ∃ s1, K s1 ∧ ∀ K' : St → Prop, K' s1 → wpR E K' ops s
  | [], K, s, h => ⟨s, h, fun K' h' => h'⟩
  | o :: r, K, s, h => by
    simp only [wpR] at h ⊢
    rcases guarded_det h with ⟨h1, h2⟩ | ⟨h1, h2⟩
    · obtain ⟨s1, g1, g2⟩ := after_det h1
      obtain ⟨s2, k1, k2⟩ := wpR_det r g1
      exact ⟨s2, k1, fun K' h' => h2 _ _ (g2 _ (k2 K' h'))⟩
    · obtain ⟨s2, k1, k2⟩ := wpR_det r h1
      exact ⟨s2, k1, fun K' h' => h2 _ _ (k2 K' h')⟩
theorem wpD_det {E : Env} : ∀ (ops : List DOp) {K : St → Prop} {j : Nat} {log : Log} {s : St}, wpD E K ops j log s → ∃ s1, K s1 ∧ ∀ K' : St → Prop, K' s1 → wpD E K' ops j log s
  | [], K, j, log, s, h => ⟨s, h, fun K' h' => h'⟩
  | o :: r, K, j, log, s, h => by
    simp only [wpD] at h ⊢
    rcases guarded_det h with ⟨h1, h2⟩ | ⟨h1, h2⟩
    · cases hh : istep E (ev s.tm) (maskH o.um log ++ s.hp) s.nx o.op with
      | some out =>
        obtain ⟨v, δ, m⟩ := out
        rw [hh] at h1
        simp only [afterD] at h1
        obtain ⟨s2, k1, k2⟩ := wpD_det r h1.2
        refine ⟨s2, k1, fun K' h' => h2 _ _ ?_⟩
        simp only [afterD]
        exact ⟨h1.1, k2 K' h'⟩
      | none => rw [hh] at h1; exact h1.elim
    · obtain ⟨s2, k1, k2⟩ := wpD_det r h1
      exact ⟨s2, k1, fun K' h' => h2 _ _ (k2 K' h')⟩
theorem wpI_det {E : Env} : ∀ (c : ICode) {Q : IExit → St → Prop} {s : St}, wpI E c Q s → ∃ e s1, Q e s1 ∧ ∀ Q' : IExit → St → Prop, Q' e s1 → wpI E c Q' s := by
  intro c
  induction c with
  | skip => intro Q s h; exact ⟨.normal, s, h, fun Q' h' => h'⟩
  | ret => intro Q s h; exact ⟨.ret, s, h, fun Q' h' => h'⟩
  | exit id => intro Q s h; exact ⟨.exit id, s, h, fun Q' h' => h'⟩
  | seq a b iha ihb =>
    intro Q s h
    obtain ⟨e, s1, h1, h2⟩ := iha h
    cases e with
    | normal =>
      obtain ⟨e2, s2, g1, g2⟩ := ihb h1
      exact ⟨e2, s2, g1, fun Q' h' => h2 _ (g2 Q' h')⟩
    | exit id => exact ⟨.exit id, s1, h1, fun Q' h' => h2 _ h'⟩
    | ret => exact ⟨.ret, s1, h1, fun Q' h' => h2 _ h'⟩
  | cond c a b iha ihb =>
    intro Q s h
    simp only [wpI] at h ⊢
    split at h
    · rename_i t ht
      cases t with
      | true =>
        obtain ⟨e, s1, h1, h2⟩ := iha (h.1 rfl)
        exact ⟨e, s1, h1, fun Q' h' => ⟨fun _ => h2 Q' h', fun e => (by cases e)⟩⟩
      | false =>
        obtain ⟨e, s1, h1, h2⟩ := ihb (h.2 rfl)
        exact ⟨e, s1, h1, fun Q' h' => ⟨fun e => (by cases e), fun _ => h2 Q' h'⟩⟩
    · exact h.elim
  | block id a iha =>
    intro Q s h
    obtain ⟨e, s1, h1, h2⟩ := iha h
    cases e with
    | normal => exact ⟨.normal, s1, h1, fun Q' h' => h2 _ h'⟩
    | ret => exact ⟨.ret, s1, h1, fun Q' h' => h2 _ h'⟩
    | exit id' =>
      simp only [blockQ] at h1
      by_cases e : id' = id
      · rw [if_pos e] at h1
        exact ⟨.normal, s1, h1, fun Q' h' => h2 _ (by simp only [blockQ]; rw [if_pos e]; exact h')⟩
      · rw [if_neg e] at h1
        exact ⟨.exit id', s1, h1, fun Q' h' => h2 _ (by simp only [blockQ]; rw [if_neg e]; exact h')⟩
  | loop a iha =>
    intro Q s h
    obtain ⟨n, hn⟩ := h
    have key : ∀ n s, loopN (wpI E a) Q n s → ∃ e s1, Q e s1 ∧ ∀ Q' : IExit → St → Prop, Q' e s1 → loopN (wpI E a) Q' n s := by
      intro n
      induction n with
      | zero => intro s h; exact h.elim
      | succ n ih =>
        intro s h
        obtain ⟨e, s1, h1, h2⟩ := iha h
        cases e with
        | normal =>
          obtain ⟨e2, s2, g1, g2⟩ := ih s1 h1
          exact ⟨e2, s2, g1, fun Q' h' => h2 _ (g2 Q' h')⟩
        | exit id => exact ⟨.exit id, s1, h1, fun Q' h' => h2 _ h'⟩
        | ret => exact ⟨.ret, s1, h1, fun Q' h' => h2 _ h'⟩
    obtain ⟨e, s1, h1, h2⟩ := key n s hn
    exact ⟨e, s1, h1, fun Q' h' => ⟨n, h2 Q' h'⟩⟩
  | reg ops => intro Q s h; obtain ⟨s1, h1, h2⟩ := wpR_det ops h; exact ⟨.normal, s1, h1, fun Q' h' => h2 _ h'⟩
  | fail => intro Q s h; exact h.elim
  | dreg ops => intro Q s h; obtain ⟨s1, h1, h2⟩ := wpD_det ops h; exact ⟨.normal, s1, h1, fun Q' h' => h2 _ h'⟩
theorem loop_step {E : Env} {a : ICode} {Q : IExit → St → Prop} {s : St} (h : wpI E a (thenQ (wpI E (.loop a) Q) Q) s) : wpI E (.loop a) Q s := by
  obtain ⟨e, s1, h1, h2⟩ := wpI_det a h
  cases e with
  | normal =>
    obtain ⟨n, hn⟩ := h1
    exact ⟨n + 1, h2 _ hn⟩
  | exit id => exact ⟨1, h2 _ h1⟩
  | ret => exact ⟨1, h2 _ h1⟩
theorem loop_inv {E : Env} {a : ICode} {Q : IExit → St → Prop} (I : Nat → St → Prop) (hr : ∀ m s, I m s → wpI E a (thenQ (fun s' => ∃ m', m' < m ∧ I m' s') Q) s) : ∀ m s, I m s → wpI E (.loop a) Q s := by
  intro m
  induction m using Nat.strongRecOn with
  | _ m ih =>
    intro s hs
    refine loop_step (wpI_mono a ?_ (hr m s hs))
    intro e s' he
    cases e with
    | normal => obtain ⟨m', h1, h2⟩ := he; exact ih m' h1 s' h2
    | exit id => exact he
    | ret => exact he
theorem seq_cut {E : Env} {a b : ICode} {Q : IExit → St → Prop} {s : St} (h : wpI E a (thenQ (wpI E b Q) Q) s) : wpI E (.seq a b) Q s := h
end Go.Eng
end
section
set_option linter.unusedVariables false
set_option linter.unusedSimpArgs false
set_option linter.unusedSectionVars false
namespace Go.Eng
abbrev KP := Inhabited (St × (St → Prop))
abbrev KD := Inhabited (Log × St × (Log → St → Prop))
abbrev KL := Inhabited (Env × ICode × (IExit → St → Prop))
section
variable {E : Env} {Q : IExit → St → Prop} {K : St → Prop} {s : St}
theorem x_skip : wpI E .skip Q s = Q .normal s := propext Iff.rfl
theorem x_ret : wpI E .ret Q s = Q .ret s := propext Iff.rfl
theorem x_seq {a b : ICode} : wpI E (.seq a b) Q s = wpI E a (thenQ (wpI E b Q) Q) s := propext Iff.rfl
theorem x_block {id : Nat} {a : ICode} : wpI E (.block id a) Q s = wpI E a (blockQ id Q) s := propext Iff.rfl
theorem x_exit {id : Nat} : wpI E (.exit id) Q s = Q (.exit id) s := propext Iff.rfl
theorem x_reg {ops : List ROp} : wpI E (.reg ops) Q s = wpR E (Q .normal) ops s := propext Iff.rfl
theorem x_dreg {ops : List DOp} : wpI E (.dreg ops) Q s = wpD E (Q .normal) ops 0 [] s := propext Iff.rfl
theorem x_fail : wpI E .fail Q s = False := propext Iff.rfl
theorem x_then1 {next : St → Prop} : thenQ next Q .normal s = next s := propext Iff.rfl
theorem x_then2 {next : St → Prop} {id : Nat} : thenQ next Q (.exit id) s = Q (.exit id) s := propext Iff.rfl
theorem x_then3 {next : St → Prop} : thenQ next Q .ret s = Q .ret s := propext Iff.rfl
theorem x_blk1 {id : Nat} : blockQ id Q .normal s = Q .normal s := propext Iff.rfl
theorem x_blk2 {id : Nat} : blockQ id Q (.exit id) s = Q .normal s := by simp [blockQ]
theorem x_blk3 {id : Nat} : blockQ id Q .ret s = Q .ret s := propext Iff.rfl
theorem x_blk4 {id id' : Nat} : blockQ id Q (.exit id') s = if id' = id then Q .normal s else Q (.exit id') s := propext Iff.rfl
def LP (s : St) [k : KL] : Prop := wpI k.default.1 (.loop k.default.2.1) k.default.2.2 s
theorem x_loop {a : ICode} : wpI E (.loop a) Q s = @LP s ⟨(E, a, Q)⟩ := propext Iff.rfl
def cd (v : Value) [yes : Inhabited Prop] [no : Inhabited Prop] : Prop :=
  match v with
  | .bool t => (t = true → yes.default) ∧ (t = false → no.default)
  | _ => False
theorem x_cond {c : Opd} {a b : ICode} {tm : List (Nat × Value)} {hp : Heap} {nx : Nat} : wpI E (.cond c a b) Q ⟨tm, hp, nx⟩ = @cd (ev tm c) ⟨wpI E a Q ⟨tm, hp, nx⟩⟩ ⟨wpI E b Q ⟨tm, hp, nx⟩⟩ := by
  simp only [wpI, cd]
  cases ev tm c <;> rfl
theorem cd_true {yes no : Prop} : @cd (.bool true) ⟨yes⟩ ⟨no⟩ = yes := by simp [cd]
theorem cd_false {yes no : Prop} : @cd (.bool false) ⟨yes⟩ ⟨no⟩ = no := by simp [cd]
theorem cd_case {b : Bool} {yes no : Prop} (h1 : b = true → yes) (h2 : b = false → no) : @cd (.bool b) ⟨yes⟩ ⟨no⟩ := ⟨h1, h2⟩
def gd (v : Value) (want : Bool) [yes : Inhabited Prop] [no : Inhabited Prop] : Prop :=
  match v with
  | .bool b => (b = want → yes.default) ∧ (b ≠ want → no.default)
  | _ => no.default
theorem gd_true_true {yes no : Prop} : @gd (.bool true) true ⟨yes⟩ ⟨no⟩ = yes := by simp [gd]
theorem gd_true_false {yes no : Prop} : @gd (.bool true) false ⟨yes⟩ ⟨no⟩ = no := by simp [gd]
theorem gd_false_true {yes no : Prop} : @gd (.bool false) true ⟨yes⟩ ⟨no⟩ = no := by simp [gd]
theorem gd_false_false {yes no : Prop} : @gd (.bool false) false ⟨yes⟩ ⟨no⟩ = yes := by simp [gd]
theorem gd_undef {want : Bool} {yes no : Prop} : @gd undef want ⟨yes⟩ ⟨no⟩ = no := propext Iff.rfl
theorem gd_case {b want : Bool} {yes no : Prop} (h1 : b = true → @gd (.bool true) want ⟨yes⟩ ⟨no⟩) (h2 : b = false → @gd (.bool false) want ⟨yes⟩ ⟨no⟩) : @gd (.bool b) want ⟨yes⟩ ⟨no⟩ := by
  cases b
  · exact h2 rfl
  · exact h1 rfl
def aft (dst : Option Nat) (out : Option Out) [k : KP] : Prop := after dst k.default.1 k.default.2 out
theorem r_nil : wpR E K [] s = K s := propext Iff.rfl
theorem r_plain {dst : Option Nat} {op : IOp} {r : List ROp} {tm : List (Nat × Value)} {hp : Heap} {nx : Nat} : wpR E K (⟨dst, none, op⟩ :: r) ⟨tm, hp, nx⟩ = @aft dst (istep E (ev tm) hp nx op) ⟨(⟨tm, hp, nx⟩, wpR E K r)⟩ := propext Iff.rfl
theorem r_guard {dst : Option Nat} {t : Nat} {want : Bool} {op : IOp} {r : List ROp} {tm : List (Nat × Value)} {hp : Heap} {nx : Nat} : wpR E K (⟨dst, some (t, want), op⟩ :: r) ⟨tm, hp, nx⟩ =
    @gd (tmget tm t) want ⟨@aft dst (istep E (ev tm) hp nx op) ⟨(⟨tm, hp, nx⟩, wpR E K r)⟩⟩ ⟨wpR E K r ⟨putT dst undef tm, hp, nx⟩⟩ := by
  simp only [wpR, guarded, gd, aft]
  cases tmget tm t <;> rfl
variable {tm : List (Nat × Value)} {hp : Heap} {N k d j : Nat} {v : Value} {x y z : Nat × Option Blk} {δ : Heap} {m : Nat}
theorem a_pure : @aft (some d) (some (v, [], 0)) ⟨(⟨tm, hp, N⟩, K)⟩ = K ⟨(d, v) :: tm, hp, N⟩ := propext Iff.rfl
theorem a_pure0 : @aft none (some (v, [], 0)) ⟨(⟨tm, hp, N⟩, K)⟩ = K ⟨tm, hp, N⟩ := propext Iff.rfl
theorem a_store : @aft none (some (v, [x], 0)) ⟨(⟨tm, hp, N⟩, K)⟩ = K ⟨tm, x :: hp, N⟩ := propext Iff.rfl
theorem a_new : @aft (some d) (some (v, [x], 1)) ⟨(⟨tm, hp, N + k⟩, K)⟩ = K ⟨(d, v) :: tm, x :: hp, N + (k + 1)⟩ := propext Iff.rfl
theorem a_upd : @aft (some d) (some (v, [x], 0)) ⟨(⟨tm, hp, N⟩, K)⟩ = K ⟨(d, v) :: tm, x :: hp, N⟩ := propext Iff.rfl
theorem a_new2 : @aft (some d) (some (v, [x, y], 1)) ⟨(⟨tm, hp, N + k⟩, K)⟩ = K ⟨(d, v) :: tm, x :: y :: hp, N + (k + 1)⟩ := propext Iff.rfl
theorem put_some : putT (some d) v tm = (d, v) :: tm := rfl
theorem put_none : putT none v tm = tm := rfl
def aftD (dst : Option Nat) (call : Bool) (j : Nat) (out : Option Out) [k : KD] : Prop :=
  match out with
  | some (v, δ, m) => (call = true → freshOnly δ k.default.2.1.nx m) ∧ k.default.2.2 ((j, δ) :: k.default.1) ⟨putT dst v k.default.2.1.tm, δ ++ k.default.2.1.hp, k.default.2.1.nx + m⟩
  | none => False
variable {log : Log} {KK : Log → St → Prop} {um : List Nat} {op : IOp} {dst : Option Nat}
theorem d_nil : wpD E K [] j log s = K s := propext Iff.rfl
theorem d_plain {r : List DOp} : wpD E K (⟨dst, none, um, op⟩ :: r) j log ⟨tm, hp, N⟩ = @aftD dst (isCall op) j (istep E (ev tm) (maskH um log ++ hp) N op) ⟨(rdL j (ev tm) op log, ⟨tm, hp, N⟩, wpD E K r (j + 1))⟩ := by
  simp only [wpD, guarded]
  cases istep E (ev tm) (maskH um log ++ hp) N op <;> rfl
theorem d_guard {t : Nat} {want : Bool} {r : List DOp} : wpD E K (⟨dst, some (t, want), um, op⟩ :: r) j log ⟨tm, hp, N⟩ =
    @gd (tmget tm t) want ⟨@aftD dst (isCall op) j (istep E (ev tm) (maskH um log ++ hp) N op) ⟨(rdL j (ev tm) op log, ⟨tm, hp, N⟩, wpD E K r (j + 1))⟩⟩ ⟨wpD E K r (j + 1) log ⟨putT dst undef tm, hp, N⟩⟩ := by
  simp only [wpD, guarded, gd]
  have e : ∀ o, afterD ⟨dst, some (t, want), um, op⟩ j log ⟨tm, hp, N⟩ (wpD E K r (j + 1)) o = @aftD dst (isCall op) j o ⟨(rdL j (ev tm) op log, ⟨tm, hp, N⟩, wpD E K r (j + 1))⟩ := by
    intro o; cases o <;> rfl
  rw [e]
  cases tmget tm t <;> rfl
theorem b_pure {c : Bool} : @aftD (some d) c j (some (v, [], 0)) ⟨(log, ⟨tm, hp, N⟩, KK)⟩ = KK ((j, []) :: log) ⟨(d, v) :: tm, hp, N⟩ := by
  simp [aftD, freshOnly, putT]
theorem b_pure0 {c : Bool} : @aftD none c j (some (v, [], 0)) ⟨(log, ⟨tm, hp, N⟩, KK)⟩ = KK ((j, []) :: log) ⟨tm, hp, N⟩ := by
  simp [aftD, freshOnly, putT]
theorem b_store : @aftD none false j (some (v, [x], 0)) ⟨(log, ⟨tm, hp, N⟩, KK)⟩ = KK ((j, [x]) :: log) ⟨tm, x :: hp, N⟩ := by
  simp [aftD, putT]
theorem b_new : @aftD (some d) false j (some (v, [x], 1)) ⟨(log, ⟨tm, hp, N + k⟩, KK)⟩ = KK ((j, [x]) :: log) ⟨(d, v) :: tm, x :: hp, N + (k + 1)⟩ := by
  simp [aftD, putT, Nat.add_assoc]
theorem b_upd : @aftD (some d) false j (some (v, [x], 0)) ⟨(log, ⟨tm, hp, N⟩, KK)⟩ = KK ((j, [x]) :: log) ⟨(d, v) :: tm, x :: hp, N⟩ := by
  simp [aftD, putT]
theorem b_new2 : @aftD (some d) false j (some (v, [x, y], 1)) ⟨(log, ⟨tm, hp, N + k⟩, KK)⟩ = KK ((j, [x, y]) :: log) ⟨(d, v) :: tm, x :: y :: hp, N + (k + 1)⟩ := by
  simp [aftD, putT, Nat.add_assoc]
theorem b_call1 {b : Option Blk} : @aftD (some d) true j (some (v, [(N + k, b)], 1)) ⟨(log, ⟨tm, hp, N + k⟩, KK)⟩ = KK ((j, [(N + k, b)]) :: log) ⟨(d, v) :: tm, (N + k, b) :: hp, N + (k + 1)⟩ := by
  simp [aftD, putT, freshOnly, Nat.add_assoc]
theorem mask_nil : maskH [] log = [] := rfl
theorem mask_cons {i : Nat} : maskH (i :: um) log = (lget log i).map (fun x => (x.1, none)) ++ maskH um log := rfl
theorem lget_cons {i i' : Nat} : lget ((i, δ) :: log) i' = if i = i' then δ else lget log i' := rfl
theorem t_get {t t' : Nat} : tmget ((t, v) :: tm) t' = if t = t' then v else tmget tm t' := rfl
theorem h_get {k k' : Nat} {b : Option Blk} : hget ((k, b) :: hp) k' = if k = k' then b else hget hp k' := rfl
theorem e_t {t : Nat} : ev tm (.t t) = tmget tm t := rfl
theorem e_c : ev tm (.c v) = v := rfl
theorem env_at {f g : Nat} {S : Spec} {r : List (Nat × Spec)} {args : List Value} {h : Heap} {n : Nat} : mkEnv ((f, S) :: r) g args h n = if f = g then S args h n else mkEnv r g args h n := rfl
theorem add_ne (N a b : Nat) : (N + a = N + b) = (a = b) := by simp
theorem lp_parts {a : ICode} (I : Nat → List (Nat × Value) → Heap → Nat → Prop)
    (hr : ∀ m tm hp nx, I m tm hp nx → wpI E a (thenQ (fun s' => ∃ m', m' < m ∧ I m' s'.tm s'.hp s'.nx) Q) ⟨tm, hp, nx⟩) (m : Nat) {tm : List (Nat × Value)} {hp : Heap} {nx : Nat} (h : I m tm hp nx) : @LP ⟨tm, hp, nx⟩ ⟨(E, a, Q)⟩ :=
  loop_inv (fun m s => I m s.tm s.hp s.nx) (fun m s hs => hr m s.tm s.hp s.nx hs) m ⟨tm, hp, nx⟩ h
def Fin (res : List IRes) (v : Value) (h : Heap) (N : Nat) (e : IExit) (s : St) : Prop :=
  isEnd e ∧ ∃ vs, resL s res = some vs ∧ one vs = v ∧ ∀ k, k < N → hget s.hp k = hget h k
theorem flat_run {P : Program} (hE : EnvOK P E) (hm : P.follows .mixedOrders = true) {f : Nat} {nt : Nat} {res : List IRes} {c : ICode} (ht : trFun P f = some ⟨nt, res, c⟩) {G : List Value → Option Value}
    (hrun : ∀ args v h N, G args = some v → flatW v = true ∧ args.length ≤ nt ∧ wpI E c (Fin res v h N) ⟨initT args, h, N + 0⟩) : SpecOK P f (flat G) :=
  flat_ok hE hm ht hrun
theorem fin_of {res : List IRes} {v : Value} {h : Heap} {N : Nat} {e : IExit} {s : St} {vs : List Value} (h1 : isEnd e) (h2 : resL s res = some vs) (h3 : one vs = v) (h4 : ∀ k, k < N → hget s.hp k = hget h k) : Fin res v h N e s := ⟨h1, vs, h2, h3, h4⟩
theorem fin_t {t : Nat} {v : Value} {h hp : Heap} {N nx : Nat} {tm : List (Nat × Value)} {e : IExit} (h1 : isEnd e) (h2 : tmget tm t = v) (h4 : ∀ k, k < N → hget hp k = hget h k) : Fin [.t t] v h N e ⟨tm, hp, nx⟩ :=
  ⟨h1, [v], by simp only [resL, res1, h2], rfl, h4⟩
theorem fin_2 {t u : Nat} {v w : Value} {h hp : Heap} {N nx : Nat} {tm : List (Nat × Value)} {e : IExit} (h1 : isEnd e) (h2 : tmget tm t = v) (h3 : tmget tm u = w) (h4 : ∀ k, k < N → hget hp k = hget h k) : Fin [.t t, .t u] (.tuple ⟨[v, w]⟩) h N e ⟨tm, hp, nx⟩ :=
  ⟨h1, [v, w], by simp only [resL, res1, h2, h3], rfl, h4⟩
theorem fin_3 {t u r : Nat} {v w x : Value} {h hp : Heap} {N nx : Nat} {tm : List (Nat × Value)} {e : IExit} (h1 : isEnd e) (h2 : tmget tm t = v) (h3 : tmget tm u = w) (h3' : tmget tm r = x) (h4 : ∀ k, k < N → hget hp k = hget h k) : Fin [.t t, .t u, .t r] (.tuple ⟨[v, w, x]⟩) h N e ⟨tm, hp, nx⟩ :=
  ⟨h1, [v, w, x], by simp only [resL, res1, h2, h3, h3'], rfl, h4⟩
end
end Go.Eng
end
section
set_option linter.unusedVariables false
set_option linter.unusedSimpArgs false
set_option linter.unusedSectionVars false
namespace Go.Eng
theorem s_size (l : List UInt8) : (ByteArray.mk ⟨l⟩).size = l.length := rfl
theorem s_get (l : List UInt8) (i : Nat) : (ByteArray.mk ⟨l⟩)[i]? = l[i]? := by
  by_cases h : i < l.length
  · have h' : i < (ByteArray.mk ⟨l⟩).size := h
    rw [getElem?_pos (ByteArray.mk ⟨l⟩) i h', List.getElem?_eq_getElem h]
    rfl
  · have h' : ¬ i < (ByteArray.mk ⟨l⟩).size := h
    rw [getElem?_neg (ByteArray.mk ⟨l⟩) i h', List.getElem?_eq_none (by omega)]
theorem s_extract (l : List UInt8) (i j : Nat) : (ByteArray.mk ⟨l⟩).extract i j = ⟨⟨(l.take j).drop i⟩⟩ := by
  have : ((ByteArray.mk ⟨l⟩).extract i j).data = ⟨(l.take j).drop i⟩ := by
    rw [ByteArray.data_extract]
    apply Array.ext'
    simp [List.drop_take]
  calc (ByteArray.mk ⟨l⟩).extract i j = ⟨((ByteArray.mk ⟨l⟩).extract i j).data⟩ := rfl
    _ = _ := by rw [this]
theorem s_append (l m : List UInt8) : (ByteArray.mk ⟨l⟩) ++ (ByteArray.mk ⟨m⟩) = ⟨⟨l ++ m⟩⟩ := by
  have : ((ByteArray.mk ⟨l⟩) ++ (ByteArray.mk ⟨m⟩)).data = ⟨l ++ m⟩ := by
    rw [ByteArray.data_append]
    apply Array.ext'
    simp
  calc (ByteArray.mk ⟨l⟩) ++ (ByteArray.mk ⟨m⟩) = ⟨((ByteArray.mk ⟨l⟩) ++ (ByteArray.mk ⟨m⟩)).data⟩ := rfl
    _ = _ := by rw [this]
theorem s_eq (l m : List UInt8) : ((ByteArray.mk ⟨l⟩) = (ByteArray.mk ⟨m⟩)) = (l = m) := by simp
def nl : List UInt8 → Nat
  | [] => 0
  | b :: l => b.toNat + 256 * nl l
def bl (n : Nat) : List UInt8 := if h : n = 0 then [] else UInt8.ofNat (n % 256) :: bl (n / 256)
  termination_by n
  decreasing_by omega
theorem bl_zero : bl 0 = [] := by rw [bl]; simp
theorem bl_pos {n : Nat} (h : n ≠ 0) : bl n = UInt8.ofNat (n % 256) :: bl (n / 256) := by rw [bl]; simp [h]
theorem nl_bl (n : Nat) : nl (bl n) = n := by
  induction n using Nat.strongRecOn with
  | _ n ih =>
    by_cases h : n = 0
    · subst h; rw [bl_zero]; rfl
    · rw [bl_pos h, nl, ih _ (by omega)]
      have : (UInt8.ofNat (n % 256)).toNat = n % 256 := by simp
      rw [this]; omega
theorem bl_inj {a b : Nat} (h : bl a = bl b) : a = b := by rw [← nl_bl a, ← nl_bl b, h]
theorem bl_eq_nil {n : Nat} : bl n = [] ↔ n = 0 := ⟨fun h => bl_inj (by rw [h, bl_zero]), fun h => by rw [h, bl_zero]⟩
theorem nl_append (l m : List UInt8) : nl (l ++ m) = nl l + 256 ^ l.length * nl m := by
  induction l with
  | nil => simp [nl]
  | cons b l ih =>
    simp only [List.cons_append, nl, ih, List.length_cons, Nat.pow_succ]
    rw [Nat.mul_add, ← Nat.mul_assoc, Nat.mul_comm 256 (256 ^ l.length)]; omega
theorem nl_lt (l : List UInt8) : nl l < 256 ^ l.length := by
  induction l with
  | nil => simp [nl]
  | cons b l ih =>
    simp only [nl, List.length_cons, Nat.pow_succ]
    have := b.toNat_lt
    omega
theorem nl_zeros (n : Nat) : nl (List.replicate n 0) = 0 := by
  induction n with
  | zero => rfl
  | succ n ih => simp only [List.replicate_succ, nl, ih]; rfl
theorem bl_nl : ∀ (l : List UInt8), (∀ b, l.getLast? = some b → b ≠ 0) → bl (nl l) = l
  | [], _ => by rw [nl, bl_zero]
  | b :: l, h => by
    have hl : ∀ c, l.getLast? = some c → c ≠ 0 := by
      intro c hc
      cases l with
      | nil => cases hc
      | cons d l => exact h c (by rw [List.getLast?_cons_cons]; exact hc)
    have ih := bl_nl l hl
    have hb := b.toNat_lt
    have hne : nl (b :: l) ≠ 0 := by
      intro e
      simp only [nl] at e
      have hb0 : b = 0 := by apply UInt8.toNat_inj.1; simp; omega
      have : nl l = 0 := by omega
      rw [this, bl_zero] at ih
      subst ih
      exact h b (by simp) hb0
    rw [bl_pos hne]
    have e1 : nl (b :: l) % 256 = b.toNat := by simp only [nl]; omega
    have e2 : nl (b :: l) / 256 = nl l := by simp only [nl]; omega
    rw [e1, e2, ih]
    simp
theorem bl_last {n : Nat} : ∀ b, (bl n).getLast? = some b → b ≠ 0 := by
  induction n using Nat.strongRecOn with
  | _ n ih =>
    intro b hb
    by_cases h : n = 0
    · subst h; rw [bl_zero] at hb; cases hb
    · rw [bl_pos h] at hb
      by_cases h2 : n / 256 = 0
      · rw [h2, bl_zero] at hb
        simp at hb
        subst hb
        intro e
        have := congrArg UInt8.toNat e
        simp at this; omega
      · cases hh : bl (n / 256) with
        | nil => exact absurd (bl_eq_nil.1 hh) h2
        | cons c l =>
          rw [hh, List.getLast?_cons_cons, ← hh] at hb
          exact ih _ (by omega) b hb
theorem take_norm {l : List UInt8} {n : Nat} (hn : n ≤ l.length) (hz : ∀ i, n ≤ i → i < l.length → l[i]? = some 0) (hl : n = 0 ∨ ∃ b, l[n - 1]? = some b ∧ b ≠ 0) : l.take n = bl (nl l) := by
  have h1 : l.drop n = List.replicate (l.length - n) 0 := by
    apply List.ext_getElem?
    intro i
    rw [List.getElem?_drop, List.getElem?_replicate]
    split
    · exact hz (n + i) (by omega) (by omega)
    · exact List.getElem?_eq_none (by omega)
  have h2 : nl l = nl (l.take n) := by
    conv => lhs; rw [← List.take_append_drop n l]
    rw [nl_append, h1, nl_zeros]; simp
  rw [h2, bl_nl]
  intro b hb
  rw [List.getLast?_eq_getElem?, List.length_take, Nat.min_eq_left hn] at hb
  rcases hl with rfl | ⟨c, hc, hc0⟩
  · simp at hb
  · by_cases h0 : n = 0
    · subst h0; simp at hb
    · rw [List.getElem?_take, if_pos (by omega), hc] at hb
      cases hb; exact hc0
theorem norm_bl (n : Nat) : bl (nl (bl n)) = bl n := by rw [nl_bl]
theorem bl_length_le {n k : Nat} : (bl n).length ≤ k ↔ n < 256 ^ k := by
  induction k generalizing n with
  | zero =>
    simp only [Nat.le_zero, List.length_eq_zero_iff, Nat.pow_zero, Nat.lt_one_iff]
    exact bl_eq_nil
  | succ k ih =>
    by_cases h : n = 0
    · subst h; simp [bl_zero]; exact Nat.pow_pos (by omega)
    · rw [bl_pos h, List.length_cons, Nat.add_le_add_iff_right, ih, Nat.pow_succ]
      exact Nat.div_lt_iff_lt_mul (by omega)
theorem bl_length_mono {a b : Nat} (h : a ≤ b) : (bl a).length ≤ (bl b).length := by
  have h1 : b < 256 ^ (bl b).length := bl_length_le.1 (Nat.le_refl _)
  exact bl_length_le.2 (Nat.lt_of_le_of_lt h h1)
theorem bl_length_nl (l : List UInt8) : (bl (nl l)).length ≤ l.length := bl_length_le.2 (nl_lt l)
theorem nl_split {l : List UInt8} {i : Nat} {b : UInt8} (h : l[i]? = some b) : nl l = nl (l.take i) + 256 ^ i * (b.toNat + 256 * nl (l.drop (i + 1))) := by
  have hi : i < l.length := (List.getElem?_eq_some_iff.1 h).1
  have e : l = l.take i ++ (b :: l.drop (i + 1)) := by
    rw [← (List.getElem?_eq_some_iff.1 h).2, List.getElem_cons_drop, List.take_append_drop]
  conv => lhs; rw [e]
  rw [nl_append, List.length_take, Nat.min_eq_left (by omega)]
  rfl
theorem nl_take_lt (l : List UInt8) (i : Nat) : nl (l.take i) < 256 ^ i := by
  have h := nl_lt (l.take i)
  refine Nat.lt_of_lt_of_le h (Nat.pow_le_pow_right (by omega) ?_)
  rw [List.length_take]; omega
theorem nl_lt_of {l m : List UInt8} {i : Nat} {b c : UInt8} (hb : l[i]? = some b) (hc : m[i]? = some c) (hd : l.drop (i + 1) = m.drop (i + 1)) (h : b.toNat < c.toNat) : nl l < nl m := by
  rw [nl_split hb, nl_split hc, hd]
  have h1 := nl_take_lt l i
  have h2 : 256 ^ i * (b.toNat + 256 * nl (m.drop (i + 1)) + 1) ≤ 256 ^ i * (c.toNat + 256 * nl (m.drop (i + 1))) := Nat.mul_le_mul_left _ (by omega)
  rw [Nat.mul_add, Nat.mul_one] at h2
  omega
theorem bl_length_lt {a b : Nat} (h : (bl a).length < (bl b).length) : a < b := by
  refine Nat.lt_of_not_le fun hle => ?_
  have h1 : (bl a).length ≤ (bl a).length := Nat.le_refl _
  rw [bl_length_le] at h1
  have : (bl b).length ≤ (bl a).length := bl_length_le.2 (by omega)
  omega
def cmpN (a b : Nat) : Int := if a < b then -1 else if a = b then 0 else 1
theorem cmpN_lt {a b : Nat} (h : a < b) : cmpN a b = -1 := by simp [cmpN, h]
theorem cmpN_gt {a b : Nat} (h : b < a) : cmpN a b = 1 := by unfold cmpN; rw [if_neg (by omega), if_neg (by omega)]
theorem cmpN_eq {a : Nat} : cmpN a a = 0 := by simp [cmpN]
end Go.Eng
end
section
set_option linter.unusedVariables false
set_option linter.unusedSimpArgs false
set_option linter.unusedSectionVars false
namespace Go.Eng
def sv (s : Bool) (l : List UInt8) : Int := if s then -(nl l : Int) else (nl l : Int)
def iE (z : Int) : List Value := [.bool (decide (z < 0)), .string ⟨⟨bl z.natAbs⟩⟩]
theorem sv_can (z : Int) : sv (decide (z < 0)) (bl z.natAbs) = z := by
  unfold sv
  rw [nl_bl]
  by_cases h : z < 0
  · simp [h]; omega
  · simp [h]; omega
theorem sv_true (l : List UInt8) : sv true l = -(nl l : Int) := rfl
theorem sv_false (l : List UInt8) : sv false l = (nl l : Int) := rfl
theorem sv_natAbs (s : Bool) (l : List UInt8) : (sv s l).natAbs = nl l := by cases s <;> simp [sv]
theorem sv_neg (s : Bool) (l : List UInt8) : sv (!s) l = - sv s l := by cases s <;> simp [sv]
theorem sv_lt (s : Bool) (l : List UInt8) : decide (sv s l < 0) = (s && decide (bl (nl l) ≠ [])) := by
  rw [Bool.eq_iff_iff]
  simp only [decide_eq_true_eq, Bool.and_eq_true, ne_eq, bl_eq_nil]
  cases s
  · simp only [sv, Bool.false_eq_true, if_false, false_and, iff_false]; omega
  · simp only [sv, if_true, true_and]; omega
theorem iE_sv (s : Bool) (l : List UInt8) : iE (sv s l) = [.bool (s && decide (bl (nl l) ≠ [])), .string ⟨⟨bl (nl l)⟩⟩] := by
  unfold iE; rw [sv_lt, sv_natAbs]
theorem sv_eq_zero (s : Bool) (l : List UInt8) : sv s l = 0 ↔ nl l = 0 := by cases s <;> simp [sv]
theorem sv_bl (s : Bool) (n : Nat) : sv s (bl n) = if s then -(n : Int) else n := by simp [sv, nl_bl]
def ln (z : Int) : Nat := (bl z.natAbs).length
theorem ln_sv (s : Bool) (l : List UInt8) : ln (sv s l) ≤ l.length := by unfold ln; rw [sv_natAbs]; exact bl_length_nl l
theorem sgn_sv (s : Bool) (l : List UInt8) : (sv s l).sign = if nl l = 0 then 0 else if s then -1 else 1 := by
  by_cases h : nl l = 0
  · rw [if_pos h, (sv_eq_zero s l).2 h]; rfl
  · rw [if_neg h]
    cases s
    · simp only [sv]; simp; omega
    · simp only [sv]; simp; omega
theorem bl_length_add {a b k : Nat} (ha : (bl a).length ≤ k) (hb : (bl b).length ≤ k) : (bl (a + b)).length ≤ k + 1 := by
  rw [bl_length_le] at ha hb ⊢
  rw [Nat.pow_succ]; omega
theorem bl_length_mul (a b : Nat) : (bl (a * b)).length ≤ (bl a).length + (bl b).length := by
  rw [bl_length_le, Nat.pow_add]
  exact Nat.mul_lt_mul'' (bl_length_le.1 (Nat.le_refl _)) (bl_length_le.1 (Nat.le_refl _))
end Go.Eng
end
section
set_option linter.unusedVariables false
set_option linter.unusedSimpArgs false
set_option linter.unusedSectionVars false
namespace Go.Eng
abbrev Tms := List (Nat × Value)
theorem hget_new {N a k : Nat} {b : Option Blk} {hp : Heap} (h : k < N) : hget ((N + a, b) :: hp) k = hget hp k := by
  simp only [hget]; rw [if_neg (by omega)]
def bc (l : List UInt8) : List Value := l.map fun b => .int .u8 b.toNat
theorem bc_length (l : List UInt8) : (bc l).length = l.length := by simp [bc]
theorem bc_nil : bc [] = [] := rfl
theorem bc_append (l m : List UInt8) : bc (l ++ m) = bc l ++ bc m := by simp [bc]
theorem bc_one (b : UInt8) : bc [b] = [.int .u8 b.toNat] := rfl
theorem bc_take (l : List UInt8) (n : Nat) : (bc l).take n = bc (l.take n) := by simp [bc, List.map_take]
theorem bc_take_all (l : List UInt8) : (bc l).take l.length = bc l := by rw [← bc_length l, List.take_length]
theorem bc_get (l : List UInt8) (i : Nat) : (bc l)[i]? = l[i]?.map fun b => .int .u8 b.toNat := by simp [bc]
theorem byteList_bc (l : List UInt8) : byteList (bc l) = some l := by
  induction l with
  | nil => rfl
  | cons b l ih =>
    have : bc (b :: l) = .int .u8 b.toNat :: bc l := rfl
    rw [this, byteList, ih]
    simp
end Go.Eng
end
section
set_option linter.unusedVariables false
set_option linter.unusedSimpArgs false
set_option linter.unusedSectionVars false
namespace Go.Eng
def rdS (F : List Value → Heap → Option Value) : Spec := fun args h n => (F args h).map fun v => (v, [], 0)
theorem rd_run {P : Program} {E : Env} (hE : EnvOK P E) (hm : P.follows .mixedOrders = true) {f : Nat} {nt : Nat} {res : List IRes} {c : ICode} (ht : trFun P f = some ⟨nt, res, c⟩) {F : List Value → Heap → Option Value}
    (mono : ∀ args h h' v, hle h h' → F args h = some v → F args h' = some v)
    (hrun : ∀ args v h N, F args h = some v → (∀ k b, hget h k = some b → k < N) → flatW v = true ∧ args.length ≤ nt ∧ wpI E c (Fin res v h N) ⟨initT args, h, N + 0⟩) : SpecOK P f (rdS F) := by
  refine spec_ok hE hm ht ?_ ?_
  · intro args h h' n o hl e
    simp only [rdS, Option.map_eq_some_iff] at e ⊢
    obtain ⟨v, e1, e2⟩ := e
    exact ⟨v, mono args h h' v hl e1, e2⟩
  · intro args h n v δ m N e hn hN
    simp only [rdS, Option.map_eq_some_iff, Prod.mk.injEq] at e
    obtain ⟨v0, e1, rfl, rfl, rfl⟩ := e
    obtain ⟨h1, h2, h3⟩ := hrun args v0 h N e1 hN
    refine ⟨h2, wpI_mono _ ?_ h3⟩
    rintro e s ⟨he, vs, hvs, hv, hh⟩
    exact ⟨he, vs, hvs, fc_flat h1 hv hN hh⟩
theorem lp_step {E : Env} {a : ICode} {Q : IExit → St → Prop} {s : St} (h : wpI E a (thenQ (wpI E (.loop a) Q) Q) s) : @LP s ⟨(E, a, Q)⟩ := loop_step h
theorem ne_nb {N j k : Nat} (h : k < N) : (N + j = k) = False := eq_false (by omega)
end Go.Eng
end
section
set_option linter.unusedVariables false
set_option linter.unusedSimpArgs false
set_option linter.unusedSectionVars false
namespace Go.Eng
theorem R0 : (type_of% @x_skip) ∧ (type_of% @x_ret) ∧ (type_of% @x_seq) ∧ (type_of% @x_block) ∧ (type_of% @x_exit) ∧ (type_of% @x_reg) ∧ (type_of% @x_dreg) ∧ (type_of% @x_fail) ∧ (type_of% @x_then1) ∧ (type_of% @x_then2) ∧ (type_of% @x_then3) ∧ (type_of% @x_blk1) ∧ (type_of% @x_blk2) ∧ (type_of% @x_blk3) ∧ (type_of% @x_blk4) ∧ (type_of% @x_loop) ∧ (type_of% @x_cond) ∧ (type_of% @r_nil) ∧ (type_of% @r_plain) ∧ (type_of% @r_guard) ∧ (type_of% @d_nil) ∧ (type_of% @d_plain) ∧ (type_of% @d_guard) :=
  ⟨@x_skip, @x_ret, @x_seq, @x_block, @x_exit, @x_reg, @x_dreg, @x_fail, @x_then1, @x_then2, @x_then3, @x_blk1, @x_blk2, @x_blk3, @x_blk4, @x_loop, @x_cond, @r_nil, @r_plain, @r_guard, @d_nil, @d_plain, @d_guard⟩
theorem R1 : (type_of% @cd_true) ∧ (type_of% @cd_false) ∧ (type_of% @gd_true_true) ∧ (type_of% @gd_true_false) ∧ (type_of% @gd_false_true) ∧ (type_of% @gd_false_false) ∧ (type_of% @gd_undef) ∧ (type_of% @a_pure) ∧ (type_of% @a_pure0) ∧ (type_of% @a_store) ∧ (type_of% @a_new) ∧ (type_of% @a_upd) ∧ (type_of% @a_new2) ∧ (type_of% @b_pure) ∧ (type_of% @b_pure0) ∧ (type_of% @b_store) ∧ (type_of% @b_new) ∧ (type_of% @b_upd) ∧ (type_of% @b_new2) ∧ (type_of% @b_call1) ∧ (type_of% @mask_nil) ∧ (type_of% @mask_cons) ∧ (type_of% @lget_cons) ∧ (type_of% @put_some) ∧ (type_of% @put_none) ∧ (type_of% @t_get) ∧ (type_of% @h_get) ∧ (type_of% @e_t) ∧ (type_of% @e_c) ∧ (type_of% @env_at) ∧ (type_of% @Option.map_some.{0,0}) ∧ (type_of% @List.map_cons.{0,0}) ∧ (type_of% @List.map_nil.{0,0}) ∧ (type_of% @add_ne) ∧ (type_of% @List.length_cons.{0}) ∧ (type_of% @List.length_nil.{0}) ∧ (type_of% @and_self) ∧ (type_of% @and_true) ∧ (type_of% @true_and) ∧ (type_of% @List.all_cons.{0}) ∧ (type_of% @List.all_nil.{0}) ∧ (type_of% @Bool.and_true) ∧ (type_of% @Bool.true_and) ∧ (type_of% @decide_true) ∧ (type_of% @decide_false) ∧ (type_of% @Bool.false_eq_true) ∧ (type_of% @List.drop_succ_cons.{0}) ∧ (type_of% @List.drop_zero.{0}) ∧ (type_of% @List.take_succ_cons.{0}) ∧ (type_of% @List.take_zero.{0}) ∧ (type_of% @List.cons_append.{0}) ∧ (type_of% @List.nil_append.{0}) ∧ (type_of% @s_size) ∧ (type_of% @s_get) ∧ (type_of% @s_extract) ∧ (type_of% @s_append) ∧ (type_of% @s_eq) ∧ (type_of% @Int.natCast_nonneg) ∧ (type_of% @Int.toNat_natCast) ∧ (type_of% @Int.ofNat_le) ∧ (type_of% @Int.ofNat_lt) ∧ (type_of% @Int.ofNat_inj) ∧ (type_of% @Option.bind_some.{0,0}) ∧ (type_of% @Nat.mul_one) ∧ (type_of% @bc_length) ∧ (type_of% @Nat.one_ne_zero) ∧ (type_of% @Nat.add_eq_zero_iff) ∧ (type_of% @false_and) ∧ (type_of% @and_false) ∧ (type_of% @false_or) ∧ (type_of% @or_false) ∧ (type_of% @Nat.zero_add) ∧ (type_of% @Nat.le_refl) ∧ (type_of% @sv_can) ∧ (type_of% @List.getElem?_cons_zero.{0}) ∧ (type_of% @List.getElem?_cons_succ.{0}) ∧ (type_of% @Int.cast_ofNat_Int) ∧ (type_of% @ne_eq.{1}) ∧ (type_of% @not_true_eq_false) ∧ (type_of% @not_false_eq_true) :=
  ⟨@cd_true, @cd_false, @gd_true_true, @gd_true_false, @gd_false_true, @gd_false_false, @gd_undef, @a_pure, @a_pure0, @a_store, @a_new, @a_upd, @a_new2, @b_pure, @b_pure0, @b_store, @b_new, @b_upd, @b_new2, @b_call1, @mask_nil, @mask_cons, @lget_cons, @put_some, @put_none, @t_get, @h_get, @e_t, @e_c, @env_at, @Option.map_some.{0,0}, @List.map_cons.{0,0}, @List.map_nil.{0,0}, @add_ne, @List.length_cons.{0}, @List.length_nil.{0}, @and_self, @and_true, @true_and, @List.all_cons.{0}, @List.all_nil.{0}, @Bool.and_true, @Bool.true_and, @decide_true, @decide_false, @Bool.false_eq_true, @List.drop_succ_cons.{0}, @List.drop_zero.{0}, @List.take_succ_cons.{0}, @List.take_zero.{0}, @List.cons_append.{0}, @List.nil_append.{0}, @s_size, @s_get, @s_extract, @s_append, @s_eq, @Int.natCast_nonneg, @Int.toNat_natCast, @Int.ofNat_le, @Int.ofNat_lt, @Int.ofNat_inj, @Option.bind_some.{0,0}, @Nat.mul_one, @bc_length, @Nat.one_ne_zero, @Nat.add_eq_zero_iff, @false_and, @and_false, @false_or, @or_false, @Nat.zero_add, @Nat.le_refl, @sv_can, @List.getElem?_cons_zero.{0}, @List.getElem?_cons_succ.{0}, @Int.cast_ofNat_Int, @ne_eq.{1}, @not_true_eq_false, @not_false_eq_true⟩
end Go.Eng
end
section
set_option linter.unusedVariables false
set_option linter.unusedSimpArgs false
set_option linter.unusedSectionVars false
namespace Go.Eng
open Go Go.Proofs Go.IntWalk
theorem mixed : Tryz.prog.follows .mixedOrders = true := by kernel_rfl
def spNorm : List Value → Option Value
  | [.string ⟨⟨l⟩⟩] => if l.length ≤ 1099511627776 then some (.string ⟨⟨bl (nl l)⟩⟩) else none
  | _ => none
def c91 : ICode :=
  (.seq (.reg [⟨(some 2), none, (.mv (.c (.string ⟨⟨[]⟩⟩)))⟩])
  (.seq (.reg [⟨(some 4), none, (.mv (.t 0))⟩, ⟨(some 5), none, (.lens (.t 4))⟩, ⟨(some 3), none, (.mv (.t 5))⟩])
  (.seq (.block 0 (.loop (.seq (.seq (.reg [⟨(some 6), none, (.mv (.t 3))⟩, ⟨(some 7), none, (.bin .gtr (.t 6) (.c (.int .i64 0)))⟩, ⟨(some 8), none, (.mv (.t 7))⟩, ⟨(some 9), (some (8, true)), (.mv (.t 0))⟩, ⟨(some 10), (some (8, true)), (.mv (.t 3))⟩, ⟨(some 11), (some (8, true)), (.bin .sub (.t 10) (.c (.int .i64 1)))⟩, ⟨(some 12), (some (8, true)), (.idstr (.t 9) (.t 11))⟩, ⟨(some 13), (some (8, true)), (.bin .eql (.t 12) (.c (.int .u8 0)))⟩, ⟨(some 14), none, (.pick (.t 8) (.t 13) (.c (.bool false)))⟩])
  (.cond (.t 14)
  .skip
  (.exit 0)))
  (.block 1 (.reg [⟨(some 15), none, (.mv (.t 3))⟩, ⟨(some 16), none, (.bin .sub (.t 15) (.c (.int .i64 1)))⟩, ⟨(some 3), none, (.mv (.t 16))⟩])))))
  (.seq (.reg [⟨(some 17), none, (.mv (.t 0))⟩, ⟨(some 18), none, (.mv (.t 3))⟩, ⟨(some 19), none, (.slstr (.t 17) none (some (.t 18)))⟩, ⟨(some 2), none, (.mv (.t 19))⟩])
  .ret))))
theorem tr91 : trFun Tryz.prog 91 = some ⟨20, [.t 2], c91⟩ := by kernel_rfl
theorem ok_r1Norm : SpecOK Tryz.prog 91 (flat spNorm) := by
  refine flat_run (env_nil _) mixed tr91 ?_
  intro args v h N hG
  unfold spNorm at hG
  split at hG
  case h_2 => cases hG
  rename_i l
  split at hG
  case isFalse => cases hG
  rename_i hl
  cases hG
  refine ⟨rfl, by simp, ?_⟩
  simp only [c91, initT, List.zipIdx_cons, List.zipIdx_nil, List.map_cons, List.map_nil, Nat.reduceAdd]
  simp only [↓R0, R1, rdL, rdH, isCall, istep, ibin, vcells, fillI, setR, flat, okCell, isBase, List.set, List.drop, List.take, List.append, bnds, bhi, blo, srcOf, simprocAttr, -Int.reduceAbs]
  refine lp_parts (fun n tm hp nx => tmget tm 0 = .string ⟨⟨l⟩⟩ ∧ tmget tm 3 = .int .i64 n ∧ n ≤ l.length ∧ (∀ i, n ≤ i → i < l.length → l[i]? = some 0) ∧ hp = h ∧ nx = N + 0) ?_ l.length ⟨?_, ?_, Nat.le_refl _, fun i h1 h2 => by omega, rfl, rfl⟩
  · intro n tm hp nx ⟨h0, h3, hn, hz, rfl, rfl⟩
    simp only [↓R0, R1, rdL, rdH, isCall, istep, ibin, vcells, fillI, setR, flat, okCell, isBase, List.set, List.drop, List.take, List.append, bnds, bhi, blo, srcOf, simprocAttr, -Int.reduceAbs, h0, h3]
    refine gd_case (fun hb => ?_) (fun hb => ?_)
    · obtain ⟨n, rfl⟩ : ∃ n', n = n' + 1 := ⟨n - 1, by simp at hb; omega⟩
      have e1 : IntKind.i64.wrap (((n + 1 : Nat) : Int) - 1) = (n : Int) := by rw [i64_in _ (by omega)]; omega
      obtain ⟨b, hbb⟩ : ∃ b, l[n]? = some b := ⟨_, List.getElem?_eq_getElem (by omega)⟩
      simp only [↓R0, R1, rdL, rdH, isCall, istep, ibin, vcells, fillI, setR, flat, okCell, isBase, List.set, List.drop, List.take, List.append, bnds, bhi, blo, srcOf, simprocAttr, -Int.reduceAbs, h0, h3, hb, e1, hbb]
      refine cd_case (fun hc => ?_) (fun hc => ?_)
      · simp only [↓R0, R1, rdL, rdH, isCall, istep, ibin, vcells, fillI, setR, flat, okCell, isBase, List.set, List.drop, List.take, List.append, bnds, bhi, blo, srcOf, simprocAttr, -Int.reduceAbs, h0, h3, e1]
        refine ⟨n, by omega, rfl, by omega, fun i h1 h2 => ?_⟩
        by_cases e : i = n
        · subst e; rw [hbb]; congr 1; apply UInt8.toNat_inj.1; simp at hc ⊢; omega
        · exact hz i (by omega) h2
      · simp only [↓R0, R1, rdL, rdH, isCall, istep, ibin, vcells, fillI, setR, flat, okCell, isBase, List.set, List.drop, List.take, List.append, bnds, bhi, blo, srcOf, simprocAttr, -Int.reduceAbs, h0, h3, hn]
        refine fin_t trivial ?_ (fun k hk => rfl)
        simp only [↓R0, R1, rdL, rdH, isCall, istep, ibin, vcells, fillI, setR, flat, okCell, isBase, List.set, List.drop, List.take, List.append, bnds, bhi, blo, srcOf, simprocAttr, -Int.reduceAbs]
        rw [take_norm hn hz (.inr ⟨b, hbb, fun e => by subst e; simp at hc⟩)]
    · simp only [↓R0, R1, rdL, rdH, isCall, istep, ibin, vcells, fillI, setR, flat, okCell, isBase, List.set, List.drop, List.take, List.append, bnds, bhi, blo, srcOf, simprocAttr, -Int.reduceAbs, h0, h3, hb, hn]
      refine fin_t trivial ?_ (fun k hk => rfl)
      simp only [↓R0, R1, rdL, rdH, isCall, istep, ibin, vcells, fillI, setR, flat, okCell, isBase, List.set, List.drop, List.take, List.append, bnds, bhi, blo, srcOf, simprocAttr, -Int.reduceAbs]
      rw [take_norm hn hz (.inl (by simp at hb; omega))]
  · simp only [↓R0, R1, rdL, rdH, isCall, istep, ibin, vcells, fillI, setR, flat, okCell, isBase, List.set, List.drop, List.take, List.append, bnds, bhi, blo, srcOf, simprocAttr, -Int.reduceAbs]
  · simp only [↓R0, R1, rdL, rdH, isCall, istep, ibin, vcells, fillI, setR, flat, okCell, isBase, List.set, List.drop, List.take, List.append, bnds, bhi, blo, srcOf, simprocAttr, -Int.reduceAbs]
def spAt : List Value → Option Value
  | [.string ⟨⟨l⟩⟩, .int .i64 i] => if l.length ≤ 1099511627776 ∧ 0 ≤ i then some (.int .i64 ((l[i.toNat]?.getD 0).toNat : Int)) else none
  | _ => none
def c140 : ICode :=
  (.seq (.reg [⟨(some 4), none, (.mv (.c (.int .i64 0)))⟩])
  (.seq (.seq (.reg [⟨(some 5), none, (.mv (.t 1))⟩, ⟨(some 6), none, (.mv (.t 0))⟩, ⟨(some 7), none, (.lens (.t 6))⟩, ⟨(some 8), none, (.bin .lss (.t 5) (.t 7))⟩])
  (.cond (.t 8)
  (.seq (.reg [⟨(some 9), none, (.mv (.t 0))⟩, ⟨(some 10), none, (.mv (.t 1))⟩, ⟨(some 11), none, (.idstr (.t 9) (.t 10))⟩, ⟨(some 12), none, (.conv .i64 (.t 11))⟩, ⟨(some 4), none, (.mv (.t 12))⟩])
  .ret)
  .skip))
  (.seq (.reg [⟨(some 4), none, (.mv (.c (.int .i64 0)))⟩])
  .ret)))
theorem tr140 : trFun Tryz.prog 140 = some ⟨13, [.t 4], c140⟩ := by kernel_rfl
theorem ok_r1At : SpecOK Tryz.prog 140 (flat spAt) := by
  refine flat_run (env_nil _) mixed tr140 ?_
  intro args v h N hG
  unfold spAt at hG
  split at hG
  case h_2 => cases hG
  rename_i l i
  split at hG
  case isFalse => cases hG
  rename_i hl
  cases hG
  refine ⟨rfl, by simp, ?_⟩
  simp only [c140, initT, List.zipIdx_cons, List.zipIdx_nil, List.map_cons, List.map_nil, Nat.reduceAdd]
  simp only [↓R0, R1, rdL, rdH, isCall, istep, ibin, vcells, fillI, setR, flat, okCell, isBase, List.set, List.drop, List.take, List.append, bnds, bhi, blo, srcOf, simprocAttr, -Int.reduceAbs]
  refine cd_case (fun hc => ?_) (fun hc => ?_)
  · have hi : i.toNat < l.length := by simp at hc; omega
    have hb := l[i.toNat].toNat_lt
    simp only [↓R0, R1, rdL, rdH, isCall, istep, ibin, vcells, fillI, setR, flat, okCell, isBase, List.set, List.drop, List.take, List.append, bnds, bhi, blo, srcOf, simprocAttr, -Int.reduceAbs, hl, List.getElem?_eq_getElem hi, Option.getD_some]
    refine fin_t trivial ?_ (fun k hk => rfl)
    simp only [↓R0, R1, rdL, rdH, isCall, istep, ibin, vcells, fillI, setR, flat, okCell, isBase, List.set, List.drop, List.take, List.append, bnds, bhi, blo, srcOf, simprocAttr, -Int.reduceAbs]
    rw [i64_in _ (by omega)]
  · have hi : ¬ i.toNat < l.length := by simp at hc; omega
    simp only [↓R0, R1, rdL, rdH, isCall, istep, ibin, vcells, fillI, setR, flat, okCell, isBase, List.set, List.drop, List.take, List.append, bnds, bhi, blo, srcOf, simprocAttr, -Int.reduceAbs]
    refine fin_t trivial ?_ (fun k hk => rfl)
    simp only [↓R0, R1, rdL, rdH, isCall, istep, ibin, vcells, fillI, setR, flat, okCell, isBase, List.set, List.drop, List.take, List.append, bnds, bhi, blo, srcOf, simprocAttr, -Int.reduceAbs]
    rw [List.getElem?_eq_none (by omega)]; rfl
def spCmp : List Value → Option Value
  | [.string ⟨⟨l⟩⟩, .string ⟨⟨m⟩⟩] => if l.length ≤ 1099511627776 ∧ m.length ≤ 1099511627776 then some (.int .i64 (cmpN (nl l) (nl m))) else none
  | _ => none
def c127 : ICode :=
  (.seq (.reg [⟨(some 4), none, (.mv (.c (.int .i64 0)))⟩])
  (.seq (.reg [⟨(some 8), none, (.mv (.t 0))⟩, ⟨(some 9), none, (.call 91 [(.t 8)])⟩, ⟨(some 10), none, (.mv (.t 1))⟩, ⟨(some 11), none, (.call 91 [(.t 10)])⟩, ⟨(some 5), none, (.mv (.t 9))⟩, ⟨(some 6), none, (.mv (.t 11))⟩])
  (.seq (.seq (.reg [⟨(some 12), none, (.mv (.t 5))⟩, ⟨(some 13), none, (.lens (.t 12))⟩, ⟨(some 14), none, (.mv (.t 6))⟩, ⟨(some 15), none, (.lens (.t 14))⟩, ⟨(some 16), none, (.bin .lss (.t 13) (.t 15))⟩])
  (.cond (.t 16)
  (.seq (.reg [⟨(some 4), none, (.mv (.c (.int .i64 (-1))))⟩])
  .ret)
  .skip))
  (.seq (.seq (.reg [⟨(some 17), none, (.mv (.t 5))⟩, ⟨(some 18), none, (.lens (.t 17))⟩, ⟨(some 19), none, (.mv (.t 6))⟩, ⟨(some 20), none, (.lens (.t 19))⟩, ⟨(some 21), none, (.bin .gtr (.t 18) (.t 20))⟩])
  (.cond (.t 21)
  (.seq (.reg [⟨(some 4), none, (.mv (.c (.int .i64 1)))⟩])
  .ret)
  .skip))
  (.seq (.seq (.reg [⟨(some 22), none, (.mv (.t 5))⟩, ⟨(some 23), none, (.lens (.t 22))⟩, ⟨(some 24), none, (.bin .sub (.t 23) (.c (.int .i64 1)))⟩, ⟨(some 7), none, (.mv (.t 24))⟩])
  (.block 0 (.loop (.seq (.seq (.reg [⟨(some 25), none, (.mv (.t 7))⟩, ⟨(some 26), none, (.bin .geq (.t 25) (.c (.int .i64 0)))⟩])
  (.cond (.t 26)
  .skip
  (.exit 0)))
  (.seq (.block 1 (.seq (.seq (.dreg [⟨(some 29), none, [], (.mv (.t 5))⟩, ⟨(some 30), none, [], (.mv (.t 7))⟩, ⟨(some 31), none, [], (.idstr (.t 29) (.t 30))⟩, ⟨(some 32), none, [], (.mv (.t 6))⟩, ⟨(some 33), none, [], (.mv (.t 7))⟩, ⟨(some 34), none, [], (.idstr (.t 32) (.t 33))⟩, ⟨(some 35), none, [], (.bin .lss (.t 31) (.t 34))⟩])
  (.cond (.t 35)
  (.seq (.reg [⟨(some 4), none, (.mv (.c (.int .i64 (-1))))⟩])
  .ret)
  .skip))
  (.seq (.dreg [⟨(some 36), none, [], (.mv (.t 5))⟩, ⟨(some 37), none, [], (.mv (.t 7))⟩, ⟨(some 38), none, [], (.idstr (.t 36) (.t 37))⟩, ⟨(some 39), none, [], (.mv (.t 6))⟩, ⟨(some 40), none, [], (.mv (.t 7))⟩, ⟨(some 41), none, [], (.idstr (.t 39) (.t 40))⟩, ⟨(some 42), none, [], (.bin .gtr (.t 38) (.t 41))⟩])
  (.cond (.t 42)
  (.seq (.reg [⟨(some 4), none, (.mv (.c (.int .i64 1)))⟩])
  .ret)
  .skip))))
  (.reg [⟨(some 27), none, (.mv (.t 7))⟩, ⟨(some 28), none, (.bin .sub (.t 27) (.c (.int .i64 1)))⟩, ⟨(some 7), none, (.mv (.t 28))⟩]))))))
  (.seq (.reg [⟨(some 4), none, (.mv (.c (.int .i64 0)))⟩])
  .ret))))))
theorem tr127 : trFun Tryz.prog 127 = some ⟨43, [.t 4], c127⟩ := by kernel_rfl
theorem ok_r1Cmp : SpecOK Tryz.prog 127 (flat spCmp) := by
  refine flat_run (env_cons ok_r1Norm (env_nil _)) mixed tr127 ?_
  intro args v h N hG
  unfold spCmp at hG
  split at hG
  case h_2 => cases hG
  rename_i l m
  split at hG
  case isFalse => cases hG
  rename_i hl
  cases hG
  refine ⟨rfl, by simp, ?_⟩
  have hla : (bl (nl l)).length ≤ 1099511627776 := Nat.le_trans (bl_length_le.2 (nl_lt l)) hl.1
  have hlb : (bl (nl m)).length ≤ 1099511627776 := Nat.le_trans (bl_length_le.2 (nl_lt m)) hl.2
  simp only [c127, initT, List.zipIdx_cons, List.zipIdx_nil, List.map_cons, List.map_nil, Nat.reduceAdd]
  simp only [↓R0, R1, rdL, rdH, isCall, istep, ibin, vcells, fillI, setR, flat, okCell, isBase, List.set, List.drop, List.take, List.append, bnds, bhi, blo, srcOf, simprocAttr, -Int.reduceAbs, spNorm, hl.1, hl.2]
  generalize ha : nl l = a at *
  generalize hb : nl m = b at *
  refine cd_case (fun hc => ?_) (fun hc => ?_)
  · simp only [↓R0, R1, rdL, rdH, isCall, istep, ibin, vcells, fillI, setR, flat, okCell, isBase, List.set, List.drop, List.take, List.append, bnds, bhi, blo, srcOf, simprocAttr, -Int.reduceAbs]
    refine fin_t trivial ?_ (fun k hk => rfl)
    simp only [↓R0, R1, rdL, rdH, isCall, istep, ibin, vcells, fillI, setR, flat, okCell, isBase, List.set, List.drop, List.take, List.append, bnds, bhi, blo, srcOf, simprocAttr, -Int.reduceAbs]
    rw [cmpN_lt (bl_length_lt (by simpa using hc))]
  simp only [↓R0, R1, rdL, rdH, isCall, istep, ibin, vcells, fillI, setR, flat, okCell, isBase, List.set, List.drop, List.take, List.append, bnds, bhi, blo, srcOf, simprocAttr, -Int.reduceAbs]
  refine cd_case (fun hd => ?_) (fun hd => ?_)
  · simp only [↓R0, R1, rdL, rdH, isCall, istep, ibin, vcells, fillI, setR, flat, okCell, isBase, List.set, List.drop, List.take, List.append, bnds, bhi, blo, srcOf, simprocAttr, -Int.reduceAbs]
    refine fin_t trivial ?_ (fun k hk => rfl)
    simp only [↓R0, R1, rdL, rdH, isCall, istep, ibin, vcells, fillI, setR, flat, okCell, isBase, List.set, List.drop, List.take, List.append, bnds, bhi, blo, srcOf, simprocAttr, -Int.reduceAbs]
    rw [cmpN_gt (bl_length_lt (by simpa using hd))]
  have hlen : (bl a).length = (bl b).length := by simp at hc hd; omega
  simp only [↓R0, R1, rdL, rdH, isCall, istep, ibin, vcells, fillI, setR, flat, okCell, isBase, List.set, List.drop, List.take, List.append, bnds, bhi, blo, srcOf, simprocAttr, -Int.reduceAbs]
  refine lp_parts (fun n tm hp nx => tmget tm 5 = .string ⟨⟨bl a⟩⟩ ∧ tmget tm 6 = .string ⟨⟨bl b⟩⟩ ∧ tmget tm 7 = .int .i64 ((n : Int) - 1) ∧ n ≤ (bl a).length ∧ (bl a).drop n = (bl b).drop n ∧ hp = h ∧ nx = N + 0) ?_ (bl a).length ⟨?_, ?_, ?_, Nat.le_refl _, ?_, rfl, rfl⟩
  · intro n tm hp nx ⟨h5, h6, h7, hn, hz, rfl, rfl⟩
    simp only [↓R0, R1, rdL, rdH, isCall, istep, ibin, vcells, fillI, setR, flat, okCell, isBase, List.set, List.drop, List.take, List.append, bnds, bhi, blo, srcOf, simprocAttr, -Int.reduceAbs, h5, h6, h7]
    refine cd_case (fun hb => ?_) (fun hb => ?_)
    · obtain ⟨n, rfl⟩ : ∃ n', n = n' + 1 := ⟨n - 1, by simp at hb; omega⟩
      have e1 : ((n + 1 : Nat) : Int) - 1 = (n : Int) := by omega
      obtain ⟨x, hx⟩ : ∃ x, (bl a)[n]? = some x := ⟨_, List.getElem?_eq_getElem (by omega)⟩
      obtain ⟨y, hy⟩ : ∃ y, (bl b)[n]? = some y := ⟨_, List.getElem?_eq_getElem (by omega)⟩
      simp only [↓R0, R1, rdL, rdH, isCall, istep, ibin, vcells, fillI, setR, flat, okCell, isBase, List.set, List.drop, List.take, List.append, bnds, bhi, blo, srcOf, simprocAttr, -Int.reduceAbs, h5, h6, h7, e1, hx, hy]
      refine cd_case (fun hc => ?_) (fun hc => ?_)
      · simp only [↓R0, R1, rdL, rdH, isCall, istep, ibin, vcells, fillI, setR, flat, okCell, isBase, List.set, List.drop, List.take, List.append, bnds, bhi, blo, srcOf, simprocAttr, -Int.reduceAbs]
        refine fin_t trivial ?_ (fun k hk => rfl)
        simp only [↓R0, R1, rdL, rdH, isCall, istep, ibin, vcells, fillI, setR, flat, okCell, isBase, List.set, List.drop, List.take, List.append, bnds, bhi, blo, srcOf, simprocAttr, -Int.reduceAbs]
        have := nl_lt_of hx hy hz (by simpa using hc)
        rw [nl_bl, nl_bl] at this
        rw [cmpN_lt this]
      simp only [↓R0, R1, rdL, rdH, isCall, istep, ibin, vcells, fillI, setR, flat, okCell, isBase, List.set, List.drop, List.take, List.append, bnds, bhi, blo, srcOf, simprocAttr, -Int.reduceAbs, h5, h6, h7, e1, hx, hy]
      refine cd_case (fun hd => ?_) (fun hd => ?_)
      · simp only [↓R0, R1, rdL, rdH, isCall, istep, ibin, vcells, fillI, setR, flat, okCell, isBase, List.set, List.drop, List.take, List.append, bnds, bhi, blo, srcOf, simprocAttr, -Int.reduceAbs]
        refine fin_t trivial ?_ (fun k hk => rfl)
        simp only [↓R0, R1, rdL, rdH, isCall, istep, ibin, vcells, fillI, setR, flat, okCell, isBase, List.set, List.drop, List.take, List.append, bnds, bhi, blo, srcOf, simprocAttr, -Int.reduceAbs]
        have := nl_lt_of hy hx hz.symm (by simpa using hd)
        rw [nl_bl, nl_bl] at this
        rw [cmpN_gt this]
      simp only [↓R0, R1, rdL, rdH, isCall, istep, ibin, vcells, fillI, setR, flat, okCell, isBase, List.set, List.drop, List.take, List.append, bnds, bhi, blo, srcOf, simprocAttr, -Int.reduceAbs, h5, h6, h7, e1, hx, hy]
      have hxy : x = y := by apply UInt8.toNat_inj.1; simp at hc hd; omega
      refine ⟨n, by omega, ?_, by omega, ?_⟩
      · rw [i64_in _ (by omega)]
      · rw [List.drop_eq_getElem_cons (by omega), List.drop_eq_getElem_cons (i := n) (l := bl b) (by omega), hz]
        rw [List.getElem?_eq_some_iff] at hx hy
        rw [hx.2, hy.2, hxy]
    · have h0 : n = 0 := by simp at hb; omega
      subst h0
      have : a = b := bl_inj (by simpa using hz)
      subst this
      simp only [↓R0, R1, rdL, rdH, isCall, istep, ibin, vcells, fillI, setR, flat, okCell, isBase, List.set, List.drop, List.take, List.append, bnds, bhi, blo, srcOf, simprocAttr, -Int.reduceAbs]
      refine fin_t trivial ?_ (fun k hk => rfl)
      simp only [↓R0, R1, rdL, rdH, isCall, istep, ibin, vcells, fillI, setR, flat, okCell, isBase, List.set, List.drop, List.take, List.append, bnds, bhi, blo, srcOf, simprocAttr, -Int.reduceAbs]
      rw [cmpN_eq]
  · simp only [↓R0, R1, rdL, rdH, isCall, istep, ibin, vcells, fillI, setR, flat, okCell, isBase, List.set, List.drop, List.take, List.append, bnds, bhi, blo, srcOf, simprocAttr, -Int.reduceAbs]
  · simp only [↓R0, R1, rdL, rdH, isCall, istep, ibin, vcells, fillI, setR, flat, okCell, isBase, List.set, List.drop, List.take, List.append, bnds, bhi, blo, srcOf, simprocAttr, -Int.reduceAbs]
  · simp only [↓R0, R1, rdL, rdH, isCall, istep, ibin, vcells, fillI, setR, flat, okCell, isBase, List.set, List.drop, List.take, List.append, bnds, bhi, blo, srcOf, simprocAttr, -Int.reduceAbs]
    rw [i64_in _ (by omega)]
  · rw [List.drop_length, hlen, List.drop_length]
end Go.Eng
end
section
set_option linter.unusedVariables false
set_option linter.unusedSimpArgs false
set_option linter.unusedSectionVars false
namespace Go.Eng
open Go Go.Proofs Go.IntWalk
def spAdd : List Value → Option Value
  | [.string ⟨⟨l⟩⟩, .string ⟨⟨m⟩⟩] => if l.length ≤ 549755813888 ∧ m.length ≤ 549755813888 then some (.string ⟨⟨bl (nl l + nl m)⟩⟩) else none
  | _ => none
def c130 : ICode :=
  (.seq (.reg [⟨(some 4), none, (.mv (.c (.string ⟨⟨[]⟩⟩)))⟩])
  (.seq (.reg [⟨(some 8), none, (.bslice 5 1 0 [] [])⟩, ⟨(some 5), none, (.mv (.t 8))⟩])
  (.seq (.reg [⟨(some 6), none, (.mv (.c (.int .i64 0)))⟩])
  (.seq (.seq (.reg [⟨(some 7), none, (.mv (.c (.int .i64 0)))⟩])
  (.block 0 (.loop (.seq (.seq (.reg [⟨(some 9), none, (.mv (.t 7))⟩, ⟨(some 10), none, (.mv (.t 0))⟩, ⟨(some 11), none, (.lens (.t 10))⟩, ⟨(some 12), none, (.bin .lss (.t 9) (.t 11))⟩, ⟨(some 13), none, (.mv (.t 12))⟩, ⟨(some 14), (some (13, false)), (.mv (.t 7))⟩, ⟨(some 15), (some (13, false)), (.mv (.t 1))⟩, ⟨(some 16), (some (13, false)), (.lens (.t 15))⟩, ⟨(some 17), (some (13, false)), (.bin .lss (.t 14) (.t 16))⟩, ⟨(some 18), none, (.pick (.t 13) (.c (.bool true)) (.t 17))⟩, ⟨(some 19), none, (.mv (.t 18))⟩, ⟨(some 20), (some (19, false)), (.mv (.t 6))⟩, ⟨(some 21), (some (19, false)), (.bin .gtr (.t 20) (.c (.int .i64 0)))⟩, ⟨(some 22), none, (.pick (.t 19) (.c (.bool true)) (.t 21))⟩])
  (.cond (.t 22)
  .skip
  (.exit 0)))
  (.seq (.block 1 (.seq (.reg [⟨(some 25), none, (.mv (.t 6))⟩, ⟨(some 26), none, (.mv (.t 0))⟩, ⟨(some 27), none, (.mv (.t 7))⟩, ⟨(some 28), none, (.call 140 [(.t 26), (.t 27)])⟩, ⟨(some 29), none, (.mv (.t 1))⟩, ⟨(some 30), none, (.mv (.t 7))⟩, ⟨(some 31), none, (.call 140 [(.t 29), (.t 30)])⟩, ⟨(some 32), none, (.bin .add (.t 28) (.t 31))⟩, ⟨(some 33), none, (.bin .add (.t 25) (.t 32))⟩, ⟨(some 6), none, (.mv (.t 33))⟩])
  (.seq (.reg [⟨(some 34), none, (.mv (.t 5))⟩, ⟨(some 35), none, (.mv (.t 6))⟩, ⟨(some 36), none, (.bin .rem (.t 35) (.c (.int .i64 256)))⟩, ⟨(some 37), none, (.conv .u8 (.t 36))⟩, ⟨(some 38), none, (.bslice 5 1 1 [(.int .u8 0)] [(0, 1, (.t 37))])⟩, ⟨(some 39), none, (.app 5 1 1 (.t 34) (.t 38))⟩, ⟨(some 5), none, (.mv (.t 39))⟩])
  (.reg [⟨(some 40), none, (.mv (.t 6))⟩, ⟨(some 41), none, (.bin .quo (.t 40) (.c (.int .i64 256)))⟩, ⟨(some 6), none, (.mv (.t 41))⟩]))))
  (.reg [⟨(some 23), none, (.mv (.t 7))⟩, ⟨(some 24), none, (.bin .add (.t 23) (.c (.int .i64 1)))⟩, ⟨(some 7), none, (.mv (.t 24))⟩]))))))
  (.seq (.reg [⟨(some 42), none, (.mv (.t 5))⟩, ⟨(some 43), none, (.b2s (.t 42))⟩, ⟨(some 44), none, (.call 91 [(.t 43)])⟩, ⟨(some 4), none, (.mv (.t 44))⟩])
  .ret)))))
theorem tr130 : trFun Tryz.prog 130 = some ⟨45, [.t 4], c130⟩ := by kernel_rfl
theorem nl_drop (l : List UInt8) (i : Nat) : nl (l.drop i) = (l[i]?.getD 0).toNat + 256 * nl (l.drop (i + 1)) := by
  by_cases h : i < l.length
  · rw [List.drop_eq_getElem_cons h, List.getElem?_eq_getElem h]; rfl
  · rw [List.drop_eq_nil_of_le (by omega), List.getElem?_eq_none (by omega), List.drop_eq_nil_of_le (by omega)]; rfl
theorem addStep {i ov p q L M : Nat} (hi : i + ov ≤ max L M + 1) (hov : ov ≤ 1) (b1 : p < 256) (b2 : q < 256) (z1 : ¬ i < L → p = 0) (z2 : ¬ i < M → q = 0) (c : i < L ∨ i < M ∨ ov > 0) :
    i + 1 + (ov + (p + q)) / 256 ≤ max L M + 1 ∧ 2 * (max L M - (i + 1)) + (ov + (p + q)) / 256 < 2 * (max L M - i) + ov ∧ (ov + (p + q)) / 256 ≤ 1 := by
  by_cases g1 : i < L
  · omega
  · by_cases g2 : i < M
    · omega
    · have := z1 g1; have := z2 g2; omega
set_option maxHeartbeats 1000000 in
theorem ok_r1Add : SpecOK Tryz.prog 130 (flat spAdd) := by
  refine flat_run (env_cons ok_r1Norm (env_cons ok_r1At (env_nil _))) mixed tr130 ?_
  intro args v h N hG
  unfold spAdd at hG
  split at hG
  case h_2 => cases hG
  rename_i l m
  split at hG
  case isFalse => cases hG
  rename_i hl
  obtain ⟨hl, hm⟩ := hl
  cases hG
  refine ⟨rfl, by simp, ?_⟩
  simp only [c130, initT, List.zipIdx_cons, List.zipIdx_nil, List.map_cons, List.map_nil, Nat.reduceAdd]
  simp only [↓R0, R1, rdL, rdH, isCall, istep, ibin, vcells, fillI, setR, flat, okCell, isBase, List.set, List.drop, List.take, List.append, bnds, bhi, blo, srcOf, simprocAttr, -Int.reduceAbs]
  refine lp_parts (fun n tm hp nx => ∃ (i ov j k : Nat) (out : List UInt8) (x : Bool), n = 2 * (max l.length m.length - i) + ov ∧ tmget tm 0 = .string ⟨⟨l⟩⟩ ∧ tmget tm 1 = .string ⟨⟨m⟩⟩ ∧ tmget tm 7 = .int .i64 i ∧ tmget tm 6 = .int .i64 ov ∧
      tmget tm 5 = .slice (some ⟨N + k, 0, none⟩) i i ∧ hget hp (N + k) = some ⟨5, 1, x, bc out⟩ ∧ out.length = i ∧ i + ov ≤ max l.length m.length + 1 ∧ ov ≤ 1 ∧
      nl out + 256 ^ i * (ov + nl (l.drop i) + nl (m.drop i)) = nl l + nl m ∧ (∀ q, q < N → hget hp q = hget h q) ∧ nx = N + j ∧ k < j) ?_ (2 * max l.length m.length)
    ⟨0, 0, 1, 0, [], true, by omega, ?_, ?_, ?_, ?_, ?_, ?_, rfl, by omega, by omega, by simp [nl], ?_, rfl, by omega⟩
  · intro n tm hp nx ⟨i, ov, j, k, out, x, hn, h0, h1, h7, h6, h5, hk, ho, hi, hov, hval, hh, hnx, hkj⟩
    subst hnx
    have b1 : (l[i]?.getD 0).toNat < 256 := UInt8.toNat_lt _
    have b2 : (m[i]?.getD 0).toNat < 256 := UInt8.toNat_lt _
    have sl : l.length ≤ 1099511627776 := by omega
    have sm : m.length ≤ 1099511627776 := by omega
    have hv1 := nl_drop l i
    have hv2 := nl_drop m i
    have z1 : ¬ i < l.length → (l[i]?.getD 0).toNat = 0 := fun g => by rw [List.getElem?_eq_none (by omega)]; rfl
    have z2 : ¬ i < m.length → (m[i]?.getD 0).toNat = 0 := fun g => by rw [List.getElem?_eq_none (by omega)]; rfl
    generalize hp1 : (l[i]?.getD 0).toNat = p at *
    generalize hp2 : (m[i]?.getD 0).toNat = q at *
    have e1 : IntKind.i64.wrap ((p : Int) + (q : Int)) = ((p + q : Nat) : Int) := by rw [i64_in _ (by omega)]; omega
    have e2 : IntKind.i64.wrap ((ov : Int) + ((p + q : Nat) : Int)) = ((ov + (p + q) : Nat) : Int) := by rw [i64_in _ (by omega)]; omega
    have e3 : ((ov + (p + q) : Nat) : Int).tmod 256 = (((ov + (p + q)) % 256 : Nat) : Int) := by rw [Int.tmod_eq_emod_of_nonneg (by omega)]; omega
    have e4 : IntKind.u8.wrap (((ov + (p + q)) % 256 : Nat) : Int) = ((UInt8.ofNat ((ov + (p + q)) % 256)).toNat : Int) := by rw [u8_in _ (by omega)]; simp
    have e5 : IntKind.i64.wrap (((ov + (p + q) : Nat) : Int).tdiv 256) = (((ov + (p + q)) / 256 : Nat) : Int) := by rw [i64_quo _ _ (by omega)]; omega
    have e6 : IntKind.i64.wrap ((i : Int) + 1) = ((i + 1 : Nat) : Int) := by rw [i64_in _ (by omega)]; omega
    have f1 : ¬ (i + 1 ≤ i) := by omega
    have f2 : i + 1 ≤ 140737488355328 := by omega
    have f3 : ¬ (j = k) := by omega
    have f4 : 0 + 1 ≤ 1 := by omega
    have fin : i + 1 + (ov + (p + q)) / 256 ≤ max l.length m.length + 1 → nl (out ++ [UInt8.ofNat ((ov + (p + q)) % 256)]) + 256 ^ (i + 1) * ((ov + (p + q)) / 256 + nl (l.drop (i + 1)) + nl (m.drop (i + 1))) = nl l + nl m := by
      intro _
      rw [nl_append, ho, ← hval, hv1, hv2]
      have t : (UInt8.ofNat ((ov + (p + q)) % 256)).toNat = (ov + (p + q)) % 256 := by simp
      simp only [nl, t]
      generalize nl (l.drop (i + 1)) = A
      generalize nl (m.drop (i + 1)) = B
      rw [Nat.pow_succ, Nat.add_assoc, Nat.mul_assoc, ← Nat.mul_add]
      congr 2
      omega
    by_cases c1 : i < l.length
    · have st := addStep hi hov b1 b2 z1 z2 (.inl c1)
      rw [hn]
      simp only [↓R0, R1, rdL, rdH, isCall, istep, ibin, vcells, fillI, setR, flat, okCell, isBase, List.set, List.drop, List.take, List.append, bnds, bhi, blo, srcOf, simprocAttr, -Int.reduceAbs, h0, h1, h7, h6, h5, c1, spAt, sl, sm, hp1, hp2, e1, e2, e3, e4, e5, e6, f1, f2, f3, f4, hk, ho]
      refine ⟨2 * (max l.length m.length - (i + 1)) + (ov + (p + q)) / 256, st.2.1, i + 1, (ov + (p + q)) / 256, j + 2, j + 1, out ++ [UInt8.ofNat ((ov + (p + q)) % 256)], false, rfl, rfl, rfl, rfl, ?_, by simp [ho], st.1, st.2.2, fin st.1, ?_, rfl, Nat.lt_succ_self _⟩
      · rw [if_pos rfl, bc_append]; rfl
      · intro q hq
        simp only [if_neg (show ¬ N + (j + 1) = q by omega), if_neg (show ¬ N + k = q by omega), if_neg (show ¬ N + j = q by omega)]
        exact hh q hq
    by_cases c2 : i < m.length
    · have st := addStep hi hov b1 b2 z1 z2 (.inr (.inl c2))
      rw [hn]
      simp only [↓R0, R1, rdL, rdH, isCall, istep, ibin, vcells, fillI, setR, flat, okCell, isBase, List.set, List.drop, List.take, List.append, bnds, bhi, blo, srcOf, simprocAttr, -Int.reduceAbs, h0, h1, h7, c1, c2]
      simp only [↓R0, R1, rdL, rdH, isCall, istep, ibin, vcells, fillI, setR, flat, okCell, isBase, List.set, List.drop, List.take, List.append, bnds, bhi, blo, srcOf, simprocAttr, -Int.reduceAbs, h0, h1, h7, h6, h5, c1, spAt, sl, sm, hp1, hp2, e1, e2, e3, e4, e5, e6, f1, f2, f3, f4, hk, ho]
      refine ⟨2 * (max l.length m.length - (i + 1)) + (ov + (p + q)) / 256, st.2.1, i + 1, (ov + (p + q)) / 256, j + 2, j + 1, out ++ [UInt8.ofNat ((ov + (p + q)) % 256)], false, rfl, rfl, rfl, rfl, ?_, by simp [ho], st.1, st.2.2, fin st.1, ?_, rfl, Nat.lt_succ_self _⟩
      · rw [if_pos rfl, bc_append]; rfl
      · intro q hq
        simp only [if_neg (show ¬ N + (j + 1) = q by omega), if_neg (show ¬ N + k = q by omega), if_neg (show ¬ N + j = q by omega)]
        exact hh q hq
    by_cases c3 : (ov : Int) > 0
    · have st := addStep hi hov b1 b2 z1 z2 (.inr (.inr (by omega)))
      rw [hn]
      simp only [↓R0, R1, rdL, rdH, isCall, istep, ibin, vcells, fillI, setR, flat, okCell, isBase, List.set, List.drop, List.take, List.append, bnds, bhi, blo, srcOf, simprocAttr, -Int.reduceAbs, h0, h1, h7, h6, c1, c2, c3]
      simp only [↓R0, R1, rdL, rdH, isCall, istep, ibin, vcells, fillI, setR, flat, okCell, isBase, List.set, List.drop, List.take, List.append, bnds, bhi, blo, srcOf, simprocAttr, -Int.reduceAbs, h0, h1, h7, h6, h5, c1, spAt, sl, sm, hp1, hp2, e1, e2, e3, e4, e5, e6, f1, f2, f3, f4, hk, ho]
      refine ⟨2 * (max l.length m.length - (i + 1)) + (ov + (p + q)) / 256, st.2.1, i + 1, (ov + (p + q)) / 256, j + 2, j + 1, out ++ [UInt8.ofNat ((ov + (p + q)) % 256)], false, rfl, rfl, rfl, rfl, ?_, by simp [ho], st.1, st.2.2, fin st.1, ?_, rfl, Nat.lt_succ_self _⟩
      · rw [if_pos rfl, bc_append]; rfl
      · intro q hq
        simp only [if_neg (show ¬ N + (j + 1) = q by omega), if_neg (show ¬ N + k = q by omega), if_neg (show ¬ N + j = q by omega)]
        exact hh q hq
    have c4 : ov = 0 := by omega
    subst c4
    have so : out.length ≤ 1099511627776 := by omega
    simp only [↓R0, R1, rdL, rdH, isCall, istep, ibin, vcells, fillI, setR, flat, okCell, isBase, List.set, List.drop, List.take, List.append, bnds, bhi, blo, srcOf, simprocAttr, -Int.reduceAbs, h0, h1, h7, h6, h5, c1, c2, c3, hk, spNorm]
    subst ho
    have f5 : 0 + out.length ≤ out.length := by omega
    simp only [↓R0, R1, rdL, rdH, isCall, istep, ibin, vcells, fillI, setR, flat, okCell, isBase, List.set, List.drop, List.take, List.append, bnds, bhi, blo, srcOf, simprocAttr, -Int.reduceAbs, f5, List.drop_zero, bc_take_all, byteList_bc, so, spNorm]
    refine fin_t trivial ?_ hh
    simp only [↓R0, R1, rdL, rdH, isCall, istep, ibin, vcells, fillI, setR, flat, okCell, isBase, List.set, List.drop, List.take, List.append, bnds, bhi, blo, srcOf, simprocAttr, -Int.reduceAbs]
    rw [List.drop_eq_nil_of_le (by omega), List.drop_eq_nil_of_le (by omega)] at hval
    simp [nl] at hval
    rw [hval]
  · (first | (simp only [↓R0, R1, rdL, rdH, isCall, istep, ibin, vcells, fillI, setR, flat, okCell, isBase, List.set, List.drop, List.take, List.append, bnds, bhi, blo, srcOf, simprocAttr, -Int.reduceAbs]; done) | (simp only [↓R0, R1, rdL, rdH, isCall, istep, ibin, vcells, fillI, setR, flat, okCell, isBase, List.set, List.drop, List.take, List.append, bnds, bhi, blo, srcOf, simprocAttr, -Int.reduceAbs]; rfl) | rfl)
  · (first | (simp only [↓R0, R1, rdL, rdH, isCall, istep, ibin, vcells, fillI, setR, flat, okCell, isBase, List.set, List.drop, List.take, List.append, bnds, bhi, blo, srcOf, simprocAttr, -Int.reduceAbs]; done) | (simp only [↓R0, R1, rdL, rdH, isCall, istep, ibin, vcells, fillI, setR, flat, okCell, isBase, List.set, List.drop, List.take, List.append, bnds, bhi, blo, srcOf, simprocAttr, -Int.reduceAbs]; rfl) | rfl)
  · (first | (simp only [↓R0, R1, rdL, rdH, isCall, istep, ibin, vcells, fillI, setR, flat, okCell, isBase, List.set, List.drop, List.take, List.append, bnds, bhi, blo, srcOf, simprocAttr, -Int.reduceAbs]; done) | (simp only [↓R0, R1, rdL, rdH, isCall, istep, ibin, vcells, fillI, setR, flat, okCell, isBase, List.set, List.drop, List.take, List.append, bnds, bhi, blo, srcOf, simprocAttr, -Int.reduceAbs]; rfl) | rfl)
  · (first | (simp only [↓R0, R1, rdL, rdH, isCall, istep, ibin, vcells, fillI, setR, flat, okCell, isBase, List.set, List.drop, List.take, List.append, bnds, bhi, blo, srcOf, simprocAttr, -Int.reduceAbs]; done) | (simp only [↓R0, R1, rdL, rdH, isCall, istep, ibin, vcells, fillI, setR, flat, okCell, isBase, List.set, List.drop, List.take, List.append, bnds, bhi, blo, srcOf, simprocAttr, -Int.reduceAbs]; rfl) | rfl)
  · (first | (simp only [↓R0, R1, rdL, rdH, isCall, istep, ibin, vcells, fillI, setR, flat, okCell, isBase, List.set, List.drop, List.take, List.append, bnds, bhi, blo, srcOf, simprocAttr, -Int.reduceAbs]; done) | (simp only [↓R0, R1, rdL, rdH, isCall, istep, ibin, vcells, fillI, setR, flat, okCell, isBase, List.set, List.drop, List.take, List.append, bnds, bhi, blo, srcOf, simprocAttr, -Int.reduceAbs]; rfl) | rfl)
  · (first | (simp only [↓R0, R1, rdL, rdH, isCall, istep, ibin, vcells, fillI, setR, flat, okCell, isBase, List.set, List.drop, List.take, List.append, bnds, bhi, blo, srcOf, simprocAttr, -Int.reduceAbs]; done) | (simp only [↓R0, R1, rdL, rdH, isCall, istep, ibin, vcells, fillI, setR, flat, okCell, isBase, List.set, List.drop, List.take, List.append, bnds, bhi, blo, srcOf, simprocAttr, -Int.reduceAbs]; rfl) | rfl)
  · intro q hq
    simp only [↓R0, R1, rdL, rdH, isCall, istep, ibin, vcells, fillI, setR, flat, okCell, isBase, List.set, List.drop, List.take, List.append, bnds, bhi, blo, srcOf, simprocAttr, -Int.reduceAbs, hget_new hq]
end Go.Eng
end
section
set_option linter.unusedVariables false
set_option linter.unusedSimpArgs false
set_option linter.unusedSectionVars false
namespace Go.Eng
open Go Go.Proofs Go.IntWalk
def spOf : List Value → Option Value
  | [.int .u64 n] => if 0 ≤ n ∧ n ≤ 18446744073709551615 then some (.string ⟨⟨bl n.toNat⟩⟩) else none
  | _ => none
def c92 : ICode :=
  (.seq (.reg [⟨(some 2), none, (.mv (.c (.string ⟨⟨[]⟩⟩)))⟩])
  (.seq (.reg [⟨(some 4), none, (.bslice 5 1 0 [] [])⟩, ⟨(some 3), none, (.mv (.t 4))⟩])
  (.seq (.block 0 (.loop (.seq (.seq (.reg [⟨(some 5), none, (.mv (.t 0))⟩, ⟨(some 6), none, (.bin .gtr (.t 5) (.c (.int .u64 0)))⟩])
  (.cond (.t 6)
  .skip
  (.exit 0)))
  (.block 1 (.seq (.reg [⟨(some 7), none, (.mv (.t 3))⟩, ⟨(some 8), none, (.mv (.t 0))⟩, ⟨(some 9), none, (.bin .rem (.t 8) (.c (.int .u64 256)))⟩, ⟨(some 10), none, (.conv .u8 (.t 9))⟩, ⟨(some 11), none, (.bslice 5 1 1 [(.int .u8 0)] [(0, 1, (.t 10))])⟩, ⟨(some 12), none, (.app 5 1 1 (.t 7) (.t 11))⟩, ⟨(some 3), none, (.mv (.t 12))⟩])
  (.reg [⟨(some 13), none, (.mv (.t 0))⟩, ⟨(some 14), none, (.bin .quo (.t 13) (.c (.int .u64 256)))⟩, ⟨(some 0), none, (.mv (.t 14))⟩]))))))
  (.seq (.reg [⟨(some 15), none, (.mv (.t 3))⟩, ⟨(some 16), none, (.b2s (.t 15))⟩, ⟨(some 2), none, (.mv (.t 16))⟩])
  .ret))))
theorem tr92 : trFun Tryz.prog 92 = some ⟨17, [.t 2], c92⟩ := by kernel_rfl
theorem ok_r1Of : SpecOK Tryz.prog 92 (flat spOf) := by
  refine flat_run (env_nil _) mixed tr92 ?_
  intro args v h N hG
  unfold spOf at hG
  split at hG
  case h_2 => cases hG
  rename_i n0
  split at hG
  case isFalse => cases hG
  rename_i hl
  cases hG
  refine ⟨rfl, by simp, ?_⟩
  obtain ⟨n0, rfl⟩ : ∃ k : Nat, n0 = (k : Int) := ⟨n0.toNat, by omega⟩
  rw [Int.toNat_natCast]
  simp only [c92, initT, List.zipIdx_cons, List.zipIdx_nil, List.map_cons, List.map_nil, Nat.reduceAdd]
  simp only [↓R0, R1, rdL, rdH, isCall, istep, ibin, vcells, fillI, setR, flat, okCell, isBase, List.set, List.drop, List.take, List.append, bnds, bhi, blo, srcOf, simprocAttr, -Int.reduceAbs]
  refine lp_parts (fun n tm hp nx => ∃ (i j k : Nat) (out : List UInt8) (x : Bool), n ≤ n0 ∧ tmget tm 0 = .int .u64 n ∧
      tmget tm 3 = .slice (some ⟨N + k, 0, none⟩) i i ∧ hget hp (N + k) = some ⟨5, 1, x, bc out⟩ ∧ out.length = i ∧ i + (bl n).length = (bl n0).length ∧
      bl n0 = out ++ bl n ∧ (∀ q, q < N → hget hp q = hget h q) ∧ nx = N + j ∧ k < j) ?_ n0
    ⟨0, 1, 0, [], true, by omega, ?_, ?_, ?_, rfl, by omega, by simp, ?_, rfl, by omega⟩
  · intro n tm hp nx ⟨i, j, k, out, x, hn, h0, h3, hk, ho, hi, hval, hh, hnx, hkj⟩
    subst hnx
    have hlen : (bl n0).length ≤ 8 := bl_length_le.2 (by omega)
    have e3 : ((n : Nat) : Int).tmod 256 = ((n % 256 : Nat) : Int) := by rw [Int.tmod_eq_emod_of_nonneg (by omega)]; omega
    have e4 : IntKind.u8.wrap ((n % 256 : Nat) : Int) = ((UInt8.ofNat (n % 256)).toNat : Int) := by rw [u8_in _ (by omega)]; simp
    have e5 : IntKind.u64.wrap (((n : Nat) : Int).tdiv 256) = ((n / 256 : Nat) : Int) := by rw [u64_quo _ _ (by omega)]; omega
    have f1 : ¬ (i + 1 ≤ i) := by omega
    have f2 : i + 1 ≤ 140737488355328 := by omega
    have f3 : ¬ (j = k) := by omega
    have f4 : 0 + 1 ≤ 1 := by omega
    by_cases c : (n : Int) > 0
    · simp only [↓R0, R1, rdL, rdH, isCall, istep, ibin, vcells, fillI, setR, flat, okCell, isBase, List.set, List.drop, List.take, List.append, bnds, bhi, blo, srcOf, simprocAttr, -Int.reduceAbs, h0, h3, c, e3, e4, e5, f1, f2, f3, f4, hk, ho]
      have hb : bl n = UInt8.ofNat (n % 256) :: bl (n / 256) := bl_pos (by omega)
      refine ⟨n / 256, by omega, i + 1, j + 2, j + 1, out ++ [UInt8.ofNat (n % 256)], false, by omega, rfl, rfl, ?_, by simp [ho], ?_, ?_, ?_, rfl, by omega⟩
      · rw [if_pos rfl, bc_append]; rfl
      · rw [hb] at hi; simp at hi; omega
      · rw [hval, hb]; simp
      · intro q hq
        simp only [if_neg (show ¬ N + (j + 1) = q by omega), if_neg (show ¬ N + k = q by omega), if_neg (show ¬ N + j = q by omega)]
        exact hh q hq
    · have c0 : n = 0 := by omega
      subst c0
      subst ho
      have f5 : 0 + out.length ≤ out.length := by omega
      simp only [↓R0, R1, rdL, rdH, isCall, istep, ibin, vcells, fillI, setR, flat, okCell, isBase, List.set, List.drop, List.take, List.append, bnds, bhi, blo, srcOf, simprocAttr, -Int.reduceAbs, h0, h3, c, hk, f5, List.drop_zero, bc_take_all, byteList_bc]
      refine fin_t trivial ?_ hh
      simp only [↓R0, R1, rdL, rdH, isCall, istep, ibin, vcells, fillI, setR, flat, okCell, isBase, List.set, List.drop, List.take, List.append, bnds, bhi, blo, srcOf, simprocAttr, -Int.reduceAbs]
      rw [hval, bl_zero]; simp
  · (first | (simp only [↓R0, R1, rdL, rdH, isCall, istep, ibin, vcells, fillI, setR, flat, okCell, isBase, List.set, List.drop, List.take, List.append, bnds, bhi, blo, srcOf, simprocAttr, -Int.reduceAbs]; done) | (simp only [↓R0, R1, rdL, rdH, isCall, istep, ibin, vcells, fillI, setR, flat, okCell, isBase, List.set, List.drop, List.take, List.append, bnds, bhi, blo, srcOf, simprocAttr, -Int.reduceAbs]; rfl) | rfl)
  · (first | (simp only [↓R0, R1, rdL, rdH, isCall, istep, ibin, vcells, fillI, setR, flat, okCell, isBase, List.set, List.drop, List.take, List.append, bnds, bhi, blo, srcOf, simprocAttr, -Int.reduceAbs]; done) | (simp only [↓R0, R1, rdL, rdH, isCall, istep, ibin, vcells, fillI, setR, flat, okCell, isBase, List.set, List.drop, List.take, List.append, bnds, bhi, blo, srcOf, simprocAttr, -Int.reduceAbs]; rfl) | rfl)
  · (first | (simp only [↓R0, R1, rdL, rdH, isCall, istep, ibin, vcells, fillI, setR, flat, okCell, isBase, List.set, List.drop, List.take, List.append, bnds, bhi, blo, srcOf, simprocAttr, -Int.reduceAbs]; done) | (simp only [↓R0, R1, rdL, rdH, isCall, istep, ibin, vcells, fillI, setR, flat, okCell, isBase, List.set, List.drop, List.take, List.append, bnds, bhi, blo, srcOf, simprocAttr, -Int.reduceAbs]; rfl) | rfl)
  · intro q hq
    simp only [↓R0, R1, rdL, rdH, isCall, istep, ibin, vcells, fillI, setR, flat, okCell, isBase, List.set, List.drop, List.take, List.append, bnds, bhi, blo, srcOf, simprocAttr, -Int.reduceAbs, hget_new hq]
def spSub : List Value → Option Value
  | [.string ⟨⟨l⟩⟩, .string ⟨⟨m⟩⟩] => if l.length ≤ 549755813888 ∧ m.length ≤ 549755813888 then
      (if nl l < nl m then some (.tuple ⟨[.string ⟨⟨[]⟩⟩, .bool false]⟩) else some (.tuple ⟨[.string ⟨⟨bl (nl l - nl m)⟩⟩, .bool true]⟩)) else none
  | _ => none
theorem nl_take_succ (l : List UInt8) (i : Nat) : nl (l.take (i + 1)) = nl (l.take i) + 256 ^ i * (l[i]?.getD 0).toNat := by
  by_cases h : i < l.length
  · rw [List.take_add_one, List.getElem?_eq_getElem h, Option.toList_some, nl_append, List.length_take, Nat.min_eq_left (by omega)]
    simp [nl]
  · rw [List.take_of_length_le (by omega), List.take_of_length_le (by omega), List.getElem?_eq_none (by omega)]; simp
theorem nl_take_drop (l : List UInt8) (i : Nat) (hi : i ≤ l.length) : nl l = nl (l.take i) + 256 ^ i * nl (l.drop i) := by
  conv => lhs; rw [← List.take_append_drop i l]
  rw [nl_append, List.length_take, Nat.min_eq_left hi]
def c129 : ICode :=
  (.seq (.reg [⟨(some 4), none, (.mv (.c (.string ⟨⟨[]⟩⟩)))⟩, ⟨(some 5), none, (.mv (.c (.bool false)))⟩])
  (.seq (.seq (.reg [⟨(some 10), none, (.mv (.t 0))⟩, ⟨(some 11), none, (.mv (.t 1))⟩, ⟨(some 12), none, (.call 127 [(.t 10), (.t 11)])⟩, ⟨(some 13), none, (.bin .lss (.t 12) (.c (.int .i64 0)))⟩])
  (.cond (.t 13)
  (.seq (.reg [⟨(some 4), none, (.mv (.c (.string ⟨⟨[]⟩⟩)))⟩, ⟨(some 5), none, (.mv (.c (.bool false)))⟩])
  .ret)
  .skip))
  (.seq (.reg [⟨(some 14), none, (.bslice 5 1 0 [] [])⟩, ⟨(some 6), none, (.mv (.t 14))⟩])
  (.seq (.reg [⟨(some 7), none, (.mv (.c (.int .i64 0)))⟩])
  (.seq (.seq (.reg [⟨(some 8), none, (.mv (.c (.int .i64 0)))⟩])
  (.block 0 (.loop (.seq (.seq (.reg [⟨(some 15), none, (.mv (.t 8))⟩, ⟨(some 16), none, (.mv (.t 0))⟩, ⟨(some 17), none, (.lens (.t 16))⟩, ⟨(some 18), none, (.bin .lss (.t 15) (.t 17))⟩])
  (.cond (.t 18)
  .skip
  (.exit 0)))
  (.seq (.block 1 (.seq (.reg [⟨(some 21), none, (.mv (.t 0))⟩, ⟨(some 22), none, (.mv (.t 8))⟩, ⟨(some 23), none, (.call 140 [(.t 21), (.t 22)])⟩, ⟨(some 24), none, (.mv (.t 1))⟩, ⟨(some 25), none, (.mv (.t 8))⟩, ⟨(some 26), none, (.call 140 [(.t 24), (.t 25)])⟩, ⟨(some 27), none, (.bin .sub (.t 23) (.t 26))⟩, ⟨(some 28), none, (.mv (.t 7))⟩, ⟨(some 29), none, (.bin .sub (.t 27) (.t 28))⟩, ⟨(some 9), none, (.mv (.t 29))⟩])
  (.seq (.reg [⟨(some 7), none, (.mv (.c (.int .i64 0)))⟩])
  (.seq (.seq (.reg [⟨(some 30), none, (.mv (.t 9))⟩, ⟨(some 31), none, (.bin .lss (.t 30) (.c (.int .i64 0)))⟩])
  (.cond (.t 31)
  (.seq (.reg [⟨(some 32), none, (.mv (.t 9))⟩, ⟨(some 33), none, (.bin .add (.t 32) (.c (.int .i64 256)))⟩, ⟨(some 9), none, (.mv (.t 33))⟩])
  (.reg [⟨(some 7), none, (.mv (.c (.int .i64 1)))⟩]))
  .skip))
  (.reg [⟨(some 34), none, (.mv (.t 6))⟩, ⟨(some 35), none, (.mv (.t 9))⟩, ⟨(some 36), none, (.conv .u8 (.t 35))⟩, ⟨(some 37), none, (.bslice 5 1 1 [(.int .u8 0)] [(0, 1, (.t 36))])⟩, ⟨(some 38), none, (.app 5 1 1 (.t 34) (.t 37))⟩, ⟨(some 6), none, (.mv (.t 38))⟩])))))
  (.reg [⟨(some 19), none, (.mv (.t 8))⟩, ⟨(some 20), none, (.bin .add (.t 19) (.c (.int .i64 1)))⟩, ⟨(some 8), none, (.mv (.t 20))⟩]))))))
  (.seq (.reg [⟨(some 39), none, (.mv (.t 6))⟩, ⟨(some 40), none, (.b2s (.t 39))⟩, ⟨(some 41), none, (.call 91 [(.t 40)])⟩, ⟨(some 4), none, (.mv (.t 41))⟩, ⟨(some 5), none, (.mv (.c (.bool true)))⟩])
  .ret))))))
theorem tr129 : trFun Tryz.prog 129 = some ⟨42, [.t 4, .t 5], c129⟩ := by kernel_rfl
theorem subStep {P A B p q lent : Nat} {i : Nat} (b1 : p < 256) (b2 : q < 256) (hl : lent ≤ 1) (h : A + B = P + 256 ^ i * lent) :
    (q + lent ≤ p → A + 256 ^ i * (p - (q + lent)) + (B + 256 ^ i * q) = P + 256 ^ i * p + 256 ^ (i + 1) * 0) ∧ (p < q + lent → A + 256 ^ i * (256 + p - (q + lent)) + (B + 256 ^ i * q) = P + 256 ^ i * p + 256 ^ (i + 1) * 1) := by
  rw [Nat.pow_succ]
  generalize 256 ^ i = W at *
  constructor
  · intro g
    obtain ⟨r, rfl⟩ : ∃ r, p = q + lent + r := ⟨p - (q + lent), by omega⟩
    have : q + lent + r - (q + lent) = r := by omega
    rw [this]
    simp only [Nat.mul_add]
    omega
  · intro g
    obtain ⟨r, hr⟩ : ∃ r, 256 + p = q + lent + r := ⟨256 + p - (q + lent), by omega⟩
    have e : 256 + p - (q + lent) = r := by omega
    rw [e]
    have := congrArg (W * ·) hr
    simp only [Nat.mul_add] at this
    omega
set_option maxHeartbeats 1000000 in
theorem ok_r1Sub : SpecOK Tryz.prog 129 (flat spSub) := by
  refine flat_run (env_cons ok_r1Norm (env_cons ok_r1At (env_cons ok_r1Cmp (env_nil _)))) mixed tr129 ?_
  intro args v h N hG
  unfold spSub at hG
  split at hG
  case h_2 => cases hG
  rename_i l m
  split at hG
  case isFalse => cases hG
  rename_i hl
  obtain ⟨hl, hm⟩ := hl
  have sl : l.length ≤ 1099511627776 := by omega
  have sm : m.length ≤ 1099511627776 := by omega
  split at hG
  · rename_i hlt
    cases hG
    refine ⟨rfl, by simp, ?_⟩
    simp only [c129, initT, List.zipIdx_cons, List.zipIdx_nil, List.map_cons, List.map_nil, Nat.reduceAdd]
    simp only [↓R0, R1, rdL, rdH, isCall, istep, ibin, vcells, fillI, setR, flat, okCell, isBase, List.set, List.drop, List.take, List.append, bnds, bhi, blo, srcOf, simprocAttr, -Int.reduceAbs, spCmp, sl, sm, cmpN_lt hlt]
    exact fin_2 trivial rfl rfl (fun k hk => rfl)
  rename_i hlt
  cases hG
  refine ⟨rfl, by simp, ?_⟩
  have hc : cmpN (nl l) (nl m) < 0 ↔ False := by unfold cmpN; rw [if_neg hlt]; split <;> simp
  simp only [c129, initT, List.zipIdx_cons, List.zipIdx_nil, List.map_cons, List.map_nil, Nat.reduceAdd]
  simp only [↓R0, R1, rdL, rdH, isCall, istep, ibin, vcells, fillI, setR, flat, okCell, isBase, List.set, List.drop, List.take, List.append, bnds, bhi, blo, srcOf, simprocAttr, -Int.reduceAbs, spCmp, sl, sm, hc]
  refine lp_parts (fun n tm hp nx => ∃ (i lent j k : Nat) (out : List UInt8) (x : Bool), n + i = l.length ∧ tmget tm 0 = .string ⟨⟨l⟩⟩ ∧ tmget tm 1 = .string ⟨⟨m⟩⟩ ∧ tmget tm 8 = .int .i64 i ∧ tmget tm 7 = .int .i64 lent ∧
      tmget tm 6 = .slice (some ⟨N + k, 0, none⟩) i i ∧ hget hp (N + k) = some ⟨5, 1, x, bc out⟩ ∧ out.length = i ∧ lent ≤ 1 ∧
      nl out + nl (m.take i) = nl (l.take i) + 256 ^ i * lent ∧ (∀ q, q < N → hget hp q = hget h q) ∧ nx = N + j ∧ k < j) ?_ l.length
    ⟨0, 0, 1, 0, [], true, by omega, ?_, ?_, ?_, ?_, ?_, ?_, rfl, by omega, by simp [nl], ?_, rfl, by omega⟩
  · intro n tm hp nx ⟨i, lent, j, k, out, x, hn, h0, h1, h8, h7, h6, hk, ho, hov, hval, hh, hnx, hkj⟩
    subst hnx
    have b1 : (l[i]?.getD 0).toNat < 256 := UInt8.toNat_lt _
    have b2 : (m[i]?.getD 0).toNat < 256 := UInt8.toNat_lt _
    have t1 := nl_take_succ l i
    have t2 := nl_take_succ m i
    have st := subStep b1 b2 hov hval
    generalize hp1 : (l[i]?.getD 0).toNat = p at *
    generalize hp2 : (m[i]?.getD 0).toNat = q at *
    have f1 : ¬ (i + 1 ≤ i) := by omega
    have f2 : i + 1 ≤ 140737488355328 := by omega
    have f3 : ¬ (j = k) := by omega
    have f4 : 0 + 1 ≤ 1 := by omega
    have e1 : IntKind.i64.wrap ((p : Int) - (q : Int)) = (p : Int) - (q : Int) := by rw [i64_in _ (by omega)]
    have e6 : IntKind.i64.wrap ((i : Int) + 1) = ((i + 1 : Nat) : Int) := by rw [i64_in _ (by omega)]; omega
    by_cases c : i < l.length
    · have fin : ∀ d lent', d < 256 → nl out + 256 ^ i * d + (nl (m.take i) + 256 ^ i * q) = nl (l.take i) + 256 ^ i * p + 256 ^ (i + 1) * lent' →
          nl (out ++ [UInt8.ofNat d]) + nl (m.take (i + 1)) = nl (l.take (i + 1)) + 256 ^ (i + 1) * lent' := by
        intro d lent' hd e
        rw [t1, t2, nl_append, ho, ← e]
        have t : (UInt8.ofNat d).toNat = d := by simp; omega
        simp only [nl, t, Nat.mul_zero, Nat.add_zero]
      by_cases g : q + lent ≤ p
      · have e2 : IntKind.i64.wrap ((p : Int) - (q : Int) - (lent : Int)) = ((p - (q + lent) : Nat) : Int) := by rw [i64_in _ (by omega)]; omega
        have e3 : ¬ ((p - (q + lent) : Nat) : Int) < 0 := by omega
        have e4 : IntKind.u8.wrap ((p - (q + lent) : Nat) : Int) = ((UInt8.ofNat (p - (q + lent))).toNat : Int) := by rw [u8_in _ (by omega)]; simp; omega
        simp only [↓R0, R1, rdL, rdH, isCall, istep, ibin, vcells, fillI, setR, flat, okCell, isBase, List.set, List.drop, List.take, List.append, bnds, bhi, blo, srcOf, simprocAttr, -Int.reduceAbs, h0, h1, h7, h6, h8, c, spAt, sl, sm, hp1, hp2, e1, e2, e3, e4, e6, f1, f2, f3, f4, hk, ho]
        refine ⟨n - 1, by omega, i + 1, 0, j + 2, j + 1, out ++ [UInt8.ofNat (p - (q + lent))], false, by omega, rfl, rfl, rfl, ?_, by simp [ho], by omega, fin _ _ (by omega) (st.1 g), ?_, rfl, by omega⟩
        · rw [if_pos rfl, bc_append]; rfl
        · intro q hq
          simp only [if_neg (show ¬ N + (j + 1) = q by omega), if_neg (show ¬ N + k = q by omega), if_neg (show ¬ N + j = q by omega)]
          exact hh q hq
      · have e2 : IntKind.i64.wrap ((p : Int) - (q : Int) - (lent : Int)) = (p : Int) - (q : Int) - (lent : Int) := by rw [i64_in _ (by omega)]
        have e3 : (p : Int) - (q : Int) - (lent : Int) < 0 := by omega
        have e5 : IntKind.i64.wrap ((p : Int) - (q : Int) - (lent : Int) + 256) = ((256 + p - (q + lent) : Nat) : Int) := by rw [i64_in _ (by omega)]; omega
        have e4 : IntKind.u8.wrap ((256 + p - (q + lent) : Nat) : Int) = ((UInt8.ofNat (256 + p - (q + lent))).toNat : Int) := by rw [u8_in _ (by omega)]; simp; omega
        simp only [↓R0, R1, rdL, rdH, isCall, istep, ibin, vcells, fillI, setR, flat, okCell, isBase, List.set, List.drop, List.take, List.append, bnds, bhi, blo, srcOf, simprocAttr, -Int.reduceAbs, h0, h1, h7, h6, h8, c, spAt, sl, sm, hp1, hp2, e1, e2, e3, e4, e5, e6, f1, f2, f3, f4, hk, ho]
        refine ⟨n - 1, by omega, i + 1, 1, j + 2, j + 1, out ++ [UInt8.ofNat (256 + p - (q + lent))], false, by omega, rfl, rfl, rfl, ?_, by simp [ho], by omega, fin _ _ (by omega) (st.2 (by omega)), ?_, rfl, by omega⟩
        · rw [if_pos rfl, bc_append]; rfl
        · intro q hq
          simp only [if_neg (show ¬ N + (j + 1) = q by omega), if_neg (show ¬ N + k = q by omega), if_neg (show ¬ N + j = q by omega)]
          exact hh q hq
    · have hi : i = l.length := by omega
      have so : out.length ≤ 1099511627776 := by omega
      subst ho
      have f5 : 0 + out.length ≤ out.length := by omega
      simp only [↓R0, R1, rdL, rdH, isCall, istep, ibin, vcells, fillI, setR, flat, okCell, isBase, List.set, List.drop, List.take, List.append, bnds, bhi, blo, srcOf, simprocAttr, -Int.reduceAbs, h0, h1, h8, h6, c, hk, f5, List.drop_zero, bc_take_all, byteList_bc, so, spNorm]
      refine fin_2 trivial ?_ rfl hh
      simp only [↓R0, R1, rdL, rdH, isCall, istep, ibin, vcells, fillI, setR, flat, okCell, isBase, List.set, List.drop, List.take, List.append, bnds, bhi, blo, srcOf, simprocAttr, -Int.reduceAbs]
      have key : nl out = nl l - nl m := by
        have u1 : nl (l.take out.length) = nl l := by rw [List.take_of_length_le (by omega)]
        have u2 := nl_lt out
        have u3 := nl_lt l
        rw [← hi] at u3
        rw [u1] at hval
        by_cases hml : out.length ≤ m.length
        · have u4 := nl_take_drop m out.length hml
          generalize 256 ^ out.length = W at *
          have u5 : nl (m.drop out.length) = 0 := by
            refine Nat.eq_zero_of_not_pos fun hpos => ?_
            have : W * 1 ≤ W * nl (m.drop out.length) := Nat.mul_le_mul_left _ hpos
            omega
          rw [u5] at u4
          have : lent = 0 := by
            rcases Nat.lt_or_ge lent 1 with g | g
            · omega
            · have : lent = 1 := by omega
              subst this; omega
          subst this; omega
        · rw [List.take_of_length_le (l := m) (by omega)] at hval
          generalize 256 ^ out.length = W at *
          have : lent = 0 := by
            rcases Nat.lt_or_ge lent 1 with g | g
            · omega
            · have : lent = 1 := by omega
              subst this; omega
          subst this; omega
      rw [key]
  · (first | (simp only [↓R0, R1, rdL, rdH, isCall, istep, ibin, vcells, fillI, setR, flat, okCell, isBase, List.set, List.drop, List.take, List.append, bnds, bhi, blo, srcOf, simprocAttr, -Int.reduceAbs]; done) | (simp only [↓R0, R1, rdL, rdH, isCall, istep, ibin, vcells, fillI, setR, flat, okCell, isBase, List.set, List.drop, List.take, List.append, bnds, bhi, blo, srcOf, simprocAttr, -Int.reduceAbs]; rfl) | rfl)
  · (first | (simp only [↓R0, R1, rdL, rdH, isCall, istep, ibin, vcells, fillI, setR, flat, okCell, isBase, List.set, List.drop, List.take, List.append, bnds, bhi, blo, srcOf, simprocAttr, -Int.reduceAbs]; done) | (simp only [↓R0, R1, rdL, rdH, isCall, istep, ibin, vcells, fillI, setR, flat, okCell, isBase, List.set, List.drop, List.take, List.append, bnds, bhi, blo, srcOf, simprocAttr, -Int.reduceAbs]; rfl) | rfl)
  · (first | (simp only [↓R0, R1, rdL, rdH, isCall, istep, ibin, vcells, fillI, setR, flat, okCell, isBase, List.set, List.drop, List.take, List.append, bnds, bhi, blo, srcOf, simprocAttr, -Int.reduceAbs]; done) | (simp only [↓R0, R1, rdL, rdH, isCall, istep, ibin, vcells, fillI, setR, flat, okCell, isBase, List.set, List.drop, List.take, List.append, bnds, bhi, blo, srcOf, simprocAttr, -Int.reduceAbs]; rfl) | rfl)
  · (first | (simp only [↓R0, R1, rdL, rdH, isCall, istep, ibin, vcells, fillI, setR, flat, okCell, isBase, List.set, List.drop, List.take, List.append, bnds, bhi, blo, srcOf, simprocAttr, -Int.reduceAbs]; done) | (simp only [↓R0, R1, rdL, rdH, isCall, istep, ibin, vcells, fillI, setR, flat, okCell, isBase, List.set, List.drop, List.take, List.append, bnds, bhi, blo, srcOf, simprocAttr, -Int.reduceAbs]; rfl) | rfl)
  · (first | (simp only [↓R0, R1, rdL, rdH, isCall, istep, ibin, vcells, fillI, setR, flat, okCell, isBase, List.set, List.drop, List.take, List.append, bnds, bhi, blo, srcOf, simprocAttr, -Int.reduceAbs]; done) | (simp only [↓R0, R1, rdL, rdH, isCall, istep, ibin, vcells, fillI, setR, flat, okCell, isBase, List.set, List.drop, List.take, List.append, bnds, bhi, blo, srcOf, simprocAttr, -Int.reduceAbs]; rfl) | rfl)
  · (first | (simp only [↓R0, R1, rdL, rdH, isCall, istep, ibin, vcells, fillI, setR, flat, okCell, isBase, List.set, List.drop, List.take, List.append, bnds, bhi, blo, srcOf, simprocAttr, -Int.reduceAbs]; done) | (simp only [↓R0, R1, rdL, rdH, isCall, istep, ibin, vcells, fillI, setR, flat, okCell, isBase, List.set, List.drop, List.take, List.append, bnds, bhi, blo, srcOf, simprocAttr, -Int.reduceAbs]; rfl) | rfl)
  · intro q hq
    simp only [↓R0, R1, rdL, rdH, isCall, istep, ibin, vcells, fillI, setR, flat, okCell, isBase, List.set, List.drop, List.take, List.append, bnds, bhi, blo, srcOf, simprocAttr, -Int.reduceAbs, hget_new hq]
end Go.Eng
end
section
set_option linter.unusedVariables false
set_option linter.unusedSimpArgs false
set_option linter.unusedSectionVars false
set_option maxRecDepth 4000
namespace Go.Eng
open Go Go.Proofs Go.IntWalk
def vl : List Nat → Nat
  | [] => 0
  | b :: l => b + 256 * vl l
def ic (c : List Nat) : List Value := c.map fun n : Nat => Value.int .i64 (n : Int)
theorem ic_length (c : List Nat) : (ic c).length = c.length := by simp [ic]
theorem ic_get {c : List Nat} {i v : Nat} (h : c[i]? = some v) : (ic c)[i]? = some (.int .i64 v) := by simp [ic, h]
theorem ic_set (c : List Nat) (i v : Nat) : (ic c).set i (.int .i64 v) = ic (c.set i v) := by simp [ic, List.map_set]
theorem vl_set : ∀ (c : List Nat) (i v w : Nat), c[i]? = some v → vl (c.set i w) + 256 ^ i * v = vl c + 256 ^ i * w
  | [], i, v, w, h => by simp at h
  | b :: c, 0, v, w, h => by simp at h; subst h; simp [vl]; omega
  | b :: c, i + 1, v, w, h => by
    have := vl_set c i v w (by simpa using h)
    simp only [List.set_cons_succ, vl, Nat.pow_succ]
    rw [Nat.mul_comm (256 ^ i) 256, Nat.mul_assoc, Nat.mul_assoc]
    generalize 256 ^ i * v = A at *
    generalize 256 ^ i * w = B at *
    omega
theorem vl_bytes : ∀ (c : List Nat), (∀ (j : Nat) v, c[j]? = some v → v < 256) → nl (c.map UInt8.ofNat) = vl c
  | [], _ => rfl
  | b :: c, h => by
    have h0 := h 0 b (by simp)
    have ih := vl_bytes c fun j v hj => h (j + 1) v (by simpa using hj)
    simp only [List.map_cons, nl, vl, ih]
    have : (UInt8.ofNat b).toNat = b := by simp; omega
    rw [this]
theorem vl_zeros (n : Nat) : vl (List.replicate n 0) = 0 := by
  induction n with
  | zero => rfl
  | succ n ih => simp only [List.replicate_succ, vl, ih]
def spMul : List Value → Option Value
  | [.string ⟨⟨l⟩⟩, .string ⟨⟨m⟩⟩] => if l.length + m.length ≤ 274877906944 then some (.string ⟨⟨bl (nl l * nl m)⟩⟩) else none
  | _ => none
theorem nl_take_le (l : List UInt8) (i : Nat) : nl (l.take i) ≤ nl l := by
  by_cases h : i ≤ l.length
  · rw [nl_take_drop l i h]; exact Nat.le_add_right _ _
  · rw [List.take_of_length_le (by omega)]; exact Nat.le_refl _
theorem mulBound {l m : List UInt8} {i k over C : Nat} (h : C + 256 ^ (i + k) * over = nl (l.take i) * nl m + 256 ^ i * ((l[i]?.getD 0).toNat * nl (m.take k))) (ho : 0 < over) : k ≤ m.length := by
  have h1 := nl_take_succ l i
  have h2 := nl_take_lt l (i + 1)
  have h3 := nl_lt m
  have h4 := nl_take_le m k
  have h5 : 256 ^ (i + k) * 1 ≤ 256 ^ (i + k) * over := Nat.mul_le_mul_left _ ho
  have h6 : 256 ^ i * ((l[i]?.getD 0).toNat * nl (m.take k)) ≤ 256 ^ i * ((l[i]?.getD 0).toNat * nl m) := Nat.mul_le_mul_left _ (Nat.mul_le_mul_left _ h4)
  have h7 : nl (l.take i) * nl m + 256 ^ i * ((l[i]?.getD 0).toNat * nl m) = nl (l.take (i + 1)) * nl m := by rw [h1, Nat.add_mul, Nat.mul_assoc]
  have h8 : nl (l.take (i + 1)) * nl m < 256 ^ (i + 1) * 256 ^ m.length := Nat.mul_lt_mul'' h2 h3
  rw [← Nat.pow_add] at h8
  have h9 : 256 ^ (i + k) < 256 ^ (i + 1 + m.length) := by omega
  have := (Nat.pow_lt_pow_iff_right (by omega)).1 h9
  omega
def c125 : ICode :=
  (.seq (.reg [⟨(some 4), none, (.mv (.c (.string ⟨⟨[]⟩⟩)))⟩])
  (.seq (.reg [⟨(some 13), none, (.mv (.t 0))⟩, ⟨(some 14), none, (.lens (.t 13))⟩, ⟨(some 15), none, (.mv (.t 1))⟩, ⟨(some 16), none, (.lens (.t 15))⟩, ⟨(some 17), none, (.bin .add (.t 14) (.t 16))⟩, ⟨(some 18), none, (.bin .add (.t 17) (.c (.int .i64 1)))⟩, ⟨(some 19), none, (.mkslice 3 1 8 [(.int .i64 0)] (.t 18) (.t 18))⟩, ⟨(some 5), none, (.mv (.t 19))⟩])
  (.seq (.seq (.reg [⟨(some 6), none, (.mv (.c (.int .i64 0)))⟩])
  (.block 0 (.loop (.seq (.seq (.reg [⟨(some 20), none, (.mv (.t 6))⟩, ⟨(some 21), none, (.mv (.t 0))⟩, ⟨(some 22), none, (.lens (.t 21))⟩, ⟨(some 23), none, (.bin .lss (.t 20) (.t 22))⟩])
  (.cond (.t 23)
  .skip
  (.exit 0)))
  (.seq (.block 1 (.seq (.reg [⟨(some 7), none, (.mv (.c (.int .i64 0)))⟩])
  (.seq (.reg [⟨(some 8), none, (.mv (.c (.int .i64 0)))⟩])
  (.block 2 (.loop (.seq (.seq (.reg [⟨(some 26), none, (.mv (.t 8))⟩, ⟨(some 27), none, (.mv (.t 1))⟩, ⟨(some 28), none, (.lens (.t 27))⟩, ⟨(some 29), none, (.bin .lss (.t 26) (.t 28))⟩, ⟨(some 30), none, (.mv (.t 29))⟩, ⟨(some 31), (some (30, false)), (.mv (.t 7))⟩, ⟨(some 32), (some (30, false)), (.bin .gtr (.t 31) (.c (.int .i64 0)))⟩, ⟨(some 33), none, (.pick (.t 30) (.c (.bool true)) (.t 32))⟩])
  (.cond (.t 33)
  .skip
  (.exit 2)))
  (.seq (.block 3 (.seq (.dreg [⟨(some 36), none, [], (.mv (.t 5))⟩, ⟨(some 37), none, [], (.mv (.t 6))⟩, ⟨(some 38), none, [], (.mv (.t 8))⟩, ⟨(some 39), none, [], (.bin .add (.t 37) (.t 38))⟩, ⟨(some 40), none, [], (.ixsl 1 (.t 36) (.t 39))⟩, ⟨(some 41), none, [], (.load false 1 (.t 40))⟩, ⟨(some 42), none, [], (.mv (.t 0))⟩, ⟨(some 43), none, [], (.mv (.t 6))⟩, ⟨(some 44), none, [], (.call 140 [(.t 42), (.t 43)])⟩, ⟨(some 45), none, [], (.mv (.t 1))⟩, ⟨(some 46), none, [], (.mv (.t 8))⟩, ⟨(some 47), none, [], (.call 140 [(.t 45), (.t 46)])⟩, ⟨(some 48), none, [], (.bin .mul (.t 44) (.t 47))⟩, ⟨(some 49), none, [], (.bin .add (.t 41) (.t 48))⟩, ⟨(some 50), none, [], (.mv (.t 7))⟩, ⟨(some 51), none, [], (.bin .add (.t 49) (.t 50))⟩, ⟨(some 9), none, [], (.mv (.t 51))⟩])
  (.seq (.reg [⟨(some 52), none, (.mv (.t 5))⟩, ⟨(some 53), none, (.mv (.t 6))⟩, ⟨(some 54), none, (.mv (.t 8))⟩, ⟨(some 55), none, (.bin .add (.t 53) (.t 54))⟩, ⟨(some 56), none, (.mv (.t 9))⟩, ⟨(some 57), none, (.bin .rem (.t 56) (.c (.int .i64 256)))⟩, ⟨(some 58), none, (.ixsl 1 (.t 52) (.t 55))⟩, ⟨none, none, (.store 1 (.t 58) (.t 57))⟩])
  (.reg [⟨(some 59), none, (.mv (.t 9))⟩, ⟨(some 60), none, (.bin .quo (.t 59) (.c (.int .i64 256)))⟩, ⟨(some 7), none, (.mv (.t 60))⟩]))))
  (.reg [⟨(some 34), none, (.mv (.t 8))⟩, ⟨(some 35), none, (.bin .add (.t 34) (.c (.int .i64 1)))⟩, ⟨(some 8), none, (.mv (.t 35))⟩]))))))))
  (.reg [⟨(some 24), none, (.mv (.t 6))⟩, ⟨(some 25), none, (.bin .add (.t 24) (.c (.int .i64 1)))⟩, ⟨(some 6), none, (.mv (.t 25))⟩]))))))
  (.seq (.reg [⟨(some 61), none, (.bslice 5 1 0 [] [])⟩, ⟨(some 10), none, (.mv (.t 61))⟩])
  (.seq (.seq (.reg [⟨(some 62), none, (.mv (.t 5))⟩, ⟨(some 63), none, (.lensl (.t 62))⟩, ⟨(some 64), none, (.mv (.c (.int .i64 0)))⟩])
  (.block 4 (.loop (.seq (.reg [⟨(some 65), none, (.bin .lss (.t 64) (.t 63))⟩])
  (.seq (.cond (.t 65)
  .skip
  (.exit 4))
  (.seq (.block 5 (.seq (.reg [⟨(some 66), none, (.ixsl 1 (.t 62) (.t 64))⟩, ⟨(some 67), none, (.load false 1 (.t 66))⟩, ⟨(some 12), none, (.mv (.t 67))⟩])
  (.reg [⟨(some 68), none, (.mv (.t 10))⟩, ⟨(some 69), none, (.mv (.t 12))⟩, ⟨(some 70), none, (.conv .u8 (.t 69))⟩, ⟨(some 71), none, (.bslice 5 1 1 [(.int .u8 0)] [(0, 1, (.t 70))])⟩, ⟨(some 72), none, (.app 5 1 1 (.t 68) (.t 71))⟩, ⟨(some 10), none, (.mv (.t 72))⟩])))
  (.reg [⟨(some 73), none, (.bin .add (.t 64) (.c (.int .i64 1)))⟩, ⟨(some 64), none, (.mv (.t 73))⟩])))))))
  (.seq (.reg [⟨(some 74), none, (.mv (.t 10))⟩, ⟨(some 75), none, (.b2s (.t 74))⟩, ⟨(some 76), none, (.call 91 [(.t 75)])⟩, ⟨(some 4), none, (.mv (.t 76))⟩])
  .ret))))))
theorem tr125 : trFun Tryz.prog 125 = some ⟨77, [.t 4], c125⟩ := by kernel_rfl
theorem mulStep {l m : List UInt8} {i k over : Nat} {c : List Nat} {v : Nat} (hv : c[i + k]? = some v) (h : vl c + 256 ^ (i + k) * over = nl (l.take i) * nl m + 256 ^ i * ((l[i]?.getD 0).toNat * nl (m.take k))) :
    vl (c.set (i + k) ((v + (l[i]?.getD 0).toNat * (m[k]?.getD 0).toNat + over) % 256)) + 256 ^ (i + (k + 1)) * ((v + (l[i]?.getD 0).toNat * (m[k]?.getD 0).toNat + over) / 256) =
      nl (l.take i) * nl m + 256 ^ i * ((l[i]?.getD 0).toNat * nl (m.take (k + 1))) := by
  have h1 := vl_set c (i + k) v ((v + (l[i]?.getD 0).toNat * (m[k]?.getD 0).toNat + over) % 256) hv
  have h2 := nl_take_succ m k
  rw [h2]
  generalize (l[i]?.getD 0).toNat = a at *
  generalize (m[k]?.getD 0).toNat = b at *
  generalize nl (l.take i) * nl m = X at *
  generalize nl (m.take k) = Y at *
  have e1 : 256 ^ i * (a * (Y + 256 ^ k * b)) = 256 ^ i * (a * Y) + 256 ^ (i + k) * (a * b) := by
    rw [Nat.mul_add, Nat.mul_add, Nat.pow_add]
    congr 1
    rw [Nat.mul_assoc]; congr 1
    rw [← Nat.mul_assoc, Nat.mul_comm a, Nat.mul_assoc]
  rw [e1]
  have e2 : 256 ^ (i + (k + 1)) = 256 ^ (i + k) * 256 := by rw [← Nat.add_assoc, Nat.pow_succ]
  rw [e2]
  generalize a * b = ab at *
  have e3 : 256 ^ (i + k) * (v + ab + over) = 256 ^ (i + k) * v + 256 ^ (i + k) * ab + 256 ^ (i + k) * over := by rw [Nat.mul_add, Nat.mul_add]
  have e4 : 256 ^ (i + k) * (v + ab + over) = 256 ^ (i + k) * ((v + ab + over) % 256) + 256 ^ (i + k) * 256 * ((v + ab + over) / 256) := by
    rw [Nat.mul_assoc, ← Nat.mul_add]; congr 1; omega
  omega
set_option maxHeartbeats 2000000 in
theorem ok_r1Mul : SpecOK Tryz.prog 125 (flat spMul) := by
  refine flat_run (env_cons ok_r1Norm (env_cons ok_r1At (env_nil _))) mixed tr125 ?_
  intro args v h N hG
  unfold spMul at hG
  split at hG
  case h_2 => cases hG
  rename_i l m
  split at hG
  case isFalse => cases hG
  rename_i hl
  cases hG
  refine ⟨rfl, by simp, ?_⟩
  have sl : l.length ≤ 1099511627776 := by omega
  have sm : m.length ≤ 1099511627776 := by omega
  have e1 : IntKind.i64.wrap ((l.length : Int) + (m.length : Int)) = ((l.length + m.length : Nat) : Int) := by rw [i64_in _ (by omega)]; omega
  have e2 : IntKind.i64.wrap (((l.length + m.length : Nat) : Int) + 1) = ((l.length + m.length + 1 : Nat) : Int) := by rw [i64_in _ (by omega)]; omega
  have e3 : 8 * ((l.length + m.length + 1 : Nat) : Int) ≤ 281474976710656 := by omega
  have e4 : ((l.length + m.length + 1 : Nat) : Int) ≤ 9223372036854775807 := by omega
  have eL : (List.replicate (l.length + m.length + 1) [Value.int IntKind.i64 0]).flatten = ic (List.replicate (l.length + m.length + 1) 0) := by
    generalize l.length + m.length + 1 = L
    induction L with
    | zero => rfl
    | succ L ih => rw [List.replicate_succ, List.flatten_cons, ih]; rfl
  simp only [c125, initT, List.zipIdx_cons, List.zipIdx_nil, List.map_cons, List.map_nil, Nat.reduceAdd]
  simp only [↓R0, R1, rdL, rdH, isCall, istep, ibin, vcells, fillI, setR, flat, okCell, isBase, List.set, List.drop, List.take, List.append, bnds, bhi, blo, srcOf, simprocAttr, -Int.reduceAbs, e1, e2, e3, e4, eL]
  clear e1 e2 e3 e4 eL
  refine lp_parts (fun n tm hp nx => ∃ (i : Nat) (c : List Nat), n + i = l.length ∧ tmget tm 0 = .string ⟨⟨l⟩⟩ ∧ tmget tm 1 = .string ⟨⟨m⟩⟩ ∧ tmget tm 6 = .int .i64 i ∧
      tmget tm 5 = .slice (some ⟨N + 0, 0, none⟩) (l.length + m.length + 1) (l.length + m.length + 1) ∧ hget hp (N + 0) = some ⟨3, 1, false, ic c⟩ ∧ c.length = l.length + m.length + 1 ∧
      (∀ (j : Nat) v, c[j]? = some v → v < 256) ∧ vl c = nl (l.take i) * nl m ∧ (∀ q, q < N → hget hp q = hget h q) ∧ nx = N + 1) ?_ l.length
    ⟨0, List.replicate (l.length + m.length + 1) 0, by omega, ?_, ?_, ?_, ?_, ?_, by simp, ?_, ?_, ?_, rfl⟩
  · intro n tm hp nx ⟨i, c, hn, h0, h1, h6, h5, hk, hc, hcb, hval, hh, hnx⟩
    subst hnx
    by_cases c1 : i < l.length
    · simp only [↓R0, R1, rdL, rdH, isCall, istep, ibin, vcells, fillI, setR, flat, okCell, isBase, List.set, List.drop, List.take, List.append, bnds, bhi, blo, srcOf, simprocAttr, -Int.reduceAbs, h0, h1, h6, h5, c1]
      refine lp_parts (fun n2 tm hp nx => ∃ (k over : Nat) (c : List Nat), n2 + k = m.length + 1 ∧ tmget tm 0 = .string ⟨⟨l⟩⟩ ∧ tmget tm 1 = .string ⟨⟨m⟩⟩ ∧ tmget tm 6 = .int .i64 i ∧ tmget tm 8 = .int .i64 k ∧ tmget tm 7 = .int .i64 over ∧
        tmget tm 5 = .slice (some ⟨N + 0, 0, none⟩) (l.length + m.length + 1) (l.length + m.length + 1) ∧ hget hp (N + 0) = some ⟨3, 1, false, ic c⟩ ∧ c.length = l.length + m.length + 1 ∧
        (∀ (j : Nat) v, c[j]? = some v → v < 256) ∧ over < 256 ∧ vl c + 256 ^ (i + k) * over = nl (l.take i) * nl m + 256 ^ i * ((l[i]?.getD 0).toNat * nl (m.take k)) ∧ (∀ q, q < N → hget hp q = hget h q) ∧ nx = N + 1) ?_ (m.length + 1)
        ⟨0, 0, c, by omega, ?_, ?_, ?_, ?_, ?_, ?_, hk, hc, hcb, by omega, by simp [nl, hval], hh, rfl⟩
      · clear hk hc hcb hval hh h0 h1 h6 h5
        clear tm hp c
        intro n2 tm hp nx ⟨k, over, c, hn2, h0, h1, h6, h8, h7, h5, hk, hc, hcb, hov, hval, hh, hnx⟩
        subst hnx
        have b1 : (l[i]?.getD 0).toNat < 256 := UInt8.toNat_lt _
        have b2 : (m[k]?.getD 0).toNat < 256 := UInt8.toNat_lt _
        by_cases c2 : k < m.length ∨ over > 0
        · have hkm : k ≤ m.length := by
            rcases c2 with c2 | c2
            · omega
            · exact mulBound hval c2
          obtain ⟨v, hv⟩ : ∃ v, c[i + k]? = some v := ⟨_, List.getElem?_eq_getElem (by omega)⟩
          have hv1 := hcb _ _ hv
          have hv2 := ic_get hv
          have st := mulStep hv hval
          have hab : (l[i]?.getD 0).toNat * (m[k]?.getD 0).toNat ≤ 255 * 255 := Nat.mul_le_mul (by omega) (by omega)
          have e0 : ((l[i]?.getD 0).toNat : Int) * ((m[k]?.getD 0).toNat : Int) = (((l[i]?.getD 0).toNat * (m[k]?.getD 0).toNat : Nat) : Int) := by omega
          generalize hp1 : (l[i]?.getD 0).toNat = p at *
          generalize hp2 : (m[k]?.getD 0).toNat = q at *
          generalize p * q = pq at *
          have e1 : IntKind.i64.wrap ((p : Int) * (q : Int)) = ((pq : Nat) : Int) := by rw [e0, i64_in _ (by omega)]
          have e2 : IntKind.i64.wrap ((i : Int) + (k : Int)) = ((i + k : Nat) : Int) := by rw [i64_in _ (by omega)]; omega
          have e3 : IntKind.i64.wrap ((v : Int) + (pq : Int)) = ((v + pq : Nat) : Int) := by rw [i64_in _ (by omega)]; omega
          have e4 : IntKind.i64.wrap (((v + pq : Nat) : Int) + (over : Int)) = ((v + pq + over : Nat) : Int) := by rw [i64_in _ (by omega)]; omega
          have e5 : ((v + pq + over : Nat) : Int).tmod 256 = (((v + pq + over) % 256 : Nat) : Int) := by rw [Int.tmod_eq_emod_of_nonneg (by omega)]; omega
          have e6 : IntKind.i64.wrap (((v + pq + over : Nat) : Int).tdiv 256) = (((v + pq + over) / 256 : Nat) : Int) := by rw [i64_quo _ _ (by omega)]; omega
          have e7 : IntKind.i64.wrap ((k : Int) + 1) = ((k + 1 : Nat) : Int) := by rw [i64_in _ (by omega)]; omega
          have g1 : i + k < l.length + m.length + 1 := by omega
          have g2 : i + k + 1 ≤ c.length := by omega
          have fin : ∃ m', m' < n2 ∧ m' + (k + 1) = m.length + 1 := ⟨n2 - 1, by omega, by omega⟩
          have hS : (v + pq + over) / 256 < 256 := by omega
          have hcb' : ∀ (j : Nat) w, (c.set (i + k) ((v + pq + over) % 256))[j]? = some w → w < 256 := by
            intro j w hw
            rw [List.getElem?_set] at hw
            split at hw
            · split at hw
              · simp at hw; omega
              · cases hw
            · exact hcb j w hw
          clear hval hab e0 hv1
          rcases Decidable.em (k < m.length) with c2 | c3
          · skip
            simp only [↓R0, R1, rdL, rdH, isCall, istep, ibin, vcells, fillI, setR, flat, okCell, isBase, List.set, List.drop, List.take, List.append, bnds, bhi, blo, srcOf, simprocAttr, -Int.reduceAbs, h0, h1, h6, h8, h7, h5, hk, c2, spAt, sl, sm, hp1, hp2, e1, e2, e3, e4, e5, e6, e7, g1, g2, hv2, ic_length, ic_set]
            obtain ⟨m', q1, q2⟩ := fin
            refine ⟨m', q1, k + 1, (v + pq + over) / 256, c.set (i + k) ((v + pq + over) % 256), q2, rfl, rfl, rfl, by simp [hc], hcb', hS, st, ?_⟩
            intro r hr
            rw [if_neg (by omega)]; exact hh r hr
          · have c2 : (over : Int) > 0 := by omega
            simp only [↓R0, R1, rdL, rdH, isCall, istep, ibin, vcells, fillI, setR, flat, okCell, isBase, List.set, List.drop, List.take, List.append, bnds, bhi, blo, srcOf, simprocAttr, -Int.reduceAbs, h0, h1, h6, h8, h7, h5, hk, c3, c2]
            simp only [↓R0, R1, rdL, rdH, isCall, istep, ibin, vcells, fillI, setR, flat, okCell, isBase, List.set, List.drop, List.take, List.append, bnds, bhi, blo, srcOf, simprocAttr, -Int.reduceAbs, h0, h1, h6, h8, h7, h5, hk, c2, spAt, sl, sm, hp1, hp2, e1, e2, e3, e4, e5, e6, e7, g1, g2, hv2, ic_length, ic_set]
            obtain ⟨m', q1, q2⟩ := fin
            refine ⟨m', q1, k + 1, (v + pq + over) / 256, c.set (i + k) ((v + pq + over) % 256), q2, rfl, rfl, rfl, by simp [hc], hcb', hS, st, ?_⟩
            intro r hr
            rw [if_neg (by omega)]; exact hh r hr
        · have c3 : ¬ k < m.length := by omega
          have c4 : over = 0 := by omega
          subst c4
          have e7 : IntKind.i64.wrap ((i : Int) + 1) = ((i + 1 : Nat) : Int) := by rw [i64_in _ (by omega)]; omega
          simp only [↓R0, R1, rdL, rdH, isCall, istep, ibin, vcells, fillI, setR, flat, okCell, isBase, List.set, List.drop, List.take, List.append, bnds, bhi, blo, srcOf, simprocAttr, -Int.reduceAbs, h0, h1, h6, h8, h7, h5, hk, c3, e7]
          rw [List.take_of_length_le (l := m) (by omega)] at hval
          refine ⟨n - 1, by omega, i + 1, c, by omega, rfl, rfl, hc, hcb, ?_, hh⟩
          rw [nl_take_succ, Nat.add_mul, Nat.mul_assoc]; simpa using hval
      · (first | (simp only [↓R0, R1, rdL, rdH, isCall, istep, ibin, vcells, fillI, setR, flat, okCell, isBase, List.set, List.drop, List.take, List.append, bnds, bhi, blo, srcOf, simprocAttr, -Int.reduceAbs, h0]; done) | (simp only [↓R0, R1, rdL, rdH, isCall, istep, ibin, vcells, fillI, setR, flat, okCell, isBase, List.set, List.drop, List.take, List.append, bnds, bhi, blo, srcOf, simprocAttr, -Int.reduceAbs, h0]; rfl) | rfl)
      · (first | (simp only [↓R0, R1, rdL, rdH, isCall, istep, ibin, vcells, fillI, setR, flat, okCell, isBase, List.set, List.drop, List.take, List.append, bnds, bhi, blo, srcOf, simprocAttr, -Int.reduceAbs, h1]; done) | (simp only [↓R0, R1, rdL, rdH, isCall, istep, ibin, vcells, fillI, setR, flat, okCell, isBase, List.set, List.drop, List.take, List.append, bnds, bhi, blo, srcOf, simprocAttr, -Int.reduceAbs, h1]; rfl) | rfl)
      · (first | (simp only [↓R0, R1, rdL, rdH, isCall, istep, ibin, vcells, fillI, setR, flat, okCell, isBase, List.set, List.drop, List.take, List.append, bnds, bhi, blo, srcOf, simprocAttr, -Int.reduceAbs, h6]; done) | (simp only [↓R0, R1, rdL, rdH, isCall, istep, ibin, vcells, fillI, setR, flat, okCell, isBase, List.set, List.drop, List.take, List.append, bnds, bhi, blo, srcOf, simprocAttr, -Int.reduceAbs, h6]; rfl) | rfl)
      · (first | (simp only [↓R0, R1, rdL, rdH, isCall, istep, ibin, vcells, fillI, setR, flat, okCell, isBase, List.set, List.drop, List.take, List.append, bnds, bhi, blo, srcOf, simprocAttr, -Int.reduceAbs]; done) | (simp only [↓R0, R1, rdL, rdH, isCall, istep, ibin, vcells, fillI, setR, flat, okCell, isBase, List.set, List.drop, List.take, List.append, bnds, bhi, blo, srcOf, simprocAttr, -Int.reduceAbs]; rfl) | rfl)
      · (first | (simp only [↓R0, R1, rdL, rdH, isCall, istep, ibin, vcells, fillI, setR, flat, okCell, isBase, List.set, List.drop, List.take, List.append, bnds, bhi, blo, srcOf, simprocAttr, -Int.reduceAbs]; done) | (simp only [↓R0, R1, rdL, rdH, isCall, istep, ibin, vcells, fillI, setR, flat, okCell, isBase, List.set, List.drop, List.take, List.append, bnds, bhi, blo, srcOf, simprocAttr, -Int.reduceAbs]; rfl) | rfl)
      · (first | (simp only [↓R0, R1, rdL, rdH, isCall, istep, ibin, vcells, fillI, setR, flat, okCell, isBase, List.set, List.drop, List.take, List.append, bnds, bhi, blo, srcOf, simprocAttr, -Int.reduceAbs, h5]; done) | (simp only [↓R0, R1, rdL, rdH, isCall, istep, ibin, vcells, fillI, setR, flat, okCell, isBase, List.set, List.drop, List.take, List.append, bnds, bhi, blo, srcOf, simprocAttr, -Int.reduceAbs, h5]; rfl) | rfl)
    · have ei : i = l.length := by omega
      subst ei
      rw [List.take_length] at hval
      simp only [↓R0, R1, rdL, rdH, isCall, istep, ibin, vcells, fillI, setR, flat, okCell, isBase, List.set, List.drop, List.take, List.append, bnds, bhi, blo, srcOf, simprocAttr, -Int.reduceAbs, h0, h1, h6, h5, c1]
      refine lp_parts (fun n2 tm hp nx => ∃ (i j k : Nat) (out : List UInt8) (x : Bool), n2 + i = l.length + m.length + 1 ∧ tmget tm 64 = .int .i64 i ∧ tmget tm 63 = .int .i64 ((l.length + m.length + 1 : Nat) : Int) ∧
        tmget tm 62 = .slice (some ⟨N + 0, 0, none⟩) (l.length + m.length + 1) (l.length + m.length + 1) ∧ hget hp (N + 0) = some ⟨3, 1, false, ic c⟩ ∧
        tmget tm 10 = .slice (some ⟨N + (k + 1), 0, none⟩) i i ∧ hget hp (N + (k + 1)) = some ⟨5, 1, x, bc out⟩ ∧ out.length = i ∧ out = (c.take i).map UInt8.ofNat ∧ (∀ q, q < N → hget hp q = hget h q) ∧ nx = N + j ∧ k + 1 < j) ?_ (l.length + m.length + 1)
        ⟨0, 2, 0, [], true, by omega, ?_, ?_, ?_, ?_, ?_, ?_, rfl, by simp, ?_, rfl, by omega⟩
      · clear h0 h1 h5 hk hh h6
        clear tm hp
        intro n2 tm hp nx ⟨i, j, k, out, x, hn2, h64, h63, h62, hk0, h10, hk, ho, hout, hh, hnx, hkj⟩
        subst hnx
        by_cases c2 : i < l.length + m.length + 1
        · obtain ⟨v, hv⟩ : ∃ v, c[i]? = some v := ⟨_, List.getElem?_eq_getElem (by omega)⟩
          have hv1 := hcb _ _ hv
          have hv2 := ic_get hv
          have e1 : IntKind.u8.wrap (v : Int) = ((UInt8.ofNat v).toNat : Int) := by rw [u8_in _ (by omega)]; simp; omega
          have e2 : IntKind.i64.wrap ((i : Int) + 1) = ((i + 1 : Nat) : Int) := by rw [i64_in _ (by omega)]; omega
          have f1 : ¬ (i + 1 ≤ i) := by omega
          have f2 : i + 1 ≤ 140737488355328 := by omega
          have f3 : ¬ (j = k + 1) := by omega
          simp only [↓R0, R1, rdL, rdH, isCall, istep, ibin, vcells, fillI, setR, flat, okCell, isBase, List.set, List.drop, List.take, List.append, bnds, bhi, blo, srcOf, simprocAttr, -Int.reduceAbs, h64, h63, h62, h10, hk0, hk, c2, hv2, e1, e2, f1, f2, f3, ho]
          refine ⟨n2 - 1, by omega, i + 1, j + 2, j, out ++ [UInt8.ofNat v], false, by omega, rfl, ?_, rfl, ?_, by simp [ho], ?_, ?_, rfl, by omega⟩
          · rw [if_neg (by omega)]
          · rw [if_pos rfl, bc_append]; rfl
          · rw [hout, List.take_add_one, hv]; simp
          · intro q hq
            simp only [if_neg (show ¬ N + (j + 1) = q by omega), if_neg (show ¬ N + (k + 1) = q by omega), if_neg (show ¬ N + j = q by omega)]
            exact hh q hq
        · have ei : i = l.length + m.length + 1 := by omega
          have so : out.length ≤ 1099511627776 := by omega
          rw [ei, ← hc, List.take_length] at hout
          subst ho
          simp only [↓R0, R1, rdL, rdH, isCall, istep, ibin, vcells, fillI, setR, flat, okCell, isBase, List.set, List.drop, List.take, List.append, bnds, bhi, blo, srcOf, simprocAttr, -Int.reduceAbs, h64, h63, h62, h10, hk, c2, List.drop_zero, bc_take_all, byteList_bc, so, spNorm]
          refine fin_t trivial ?_ hh
          simp only [↓R0, R1, rdL, rdH, isCall, istep, ibin, vcells, fillI, setR, flat, okCell, isBase, List.set, List.drop, List.take, List.append, bnds, bhi, blo, srcOf, simprocAttr, -Int.reduceAbs]
          rw [hout, vl_bytes c hcb, hval]
      · (first | (simp only [↓R0, R1, rdL, rdH, isCall, istep, ibin, vcells, fillI, setR, flat, okCell, isBase, List.set, List.drop, List.take, List.append, bnds, bhi, blo, srcOf, simprocAttr, -Int.reduceAbs]; done) | (simp only [↓R0, R1, rdL, rdH, isCall, istep, ibin, vcells, fillI, setR, flat, okCell, isBase, List.set, List.drop, List.take, List.append, bnds, bhi, blo, srcOf, simprocAttr, -Int.reduceAbs]; rfl) | rfl)
      · (first | (simp only [↓R0, R1, rdL, rdH, isCall, istep, ibin, vcells, fillI, setR, flat, okCell, isBase, List.set, List.drop, List.take, List.append, bnds, bhi, blo, srcOf, simprocAttr, -Int.reduceAbs]; done) | (simp only [↓R0, R1, rdL, rdH, isCall, istep, ibin, vcells, fillI, setR, flat, okCell, isBase, List.set, List.drop, List.take, List.append, bnds, bhi, blo, srcOf, simprocAttr, -Int.reduceAbs]; rfl) | rfl)
      · (first | (simp only [↓R0, R1, rdL, rdH, isCall, istep, ibin, vcells, fillI, setR, flat, okCell, isBase, List.set, List.drop, List.take, List.append, bnds, bhi, blo, srcOf, simprocAttr, -Int.reduceAbs]; done) | (simp only [↓R0, R1, rdL, rdH, isCall, istep, ibin, vcells, fillI, setR, flat, okCell, isBase, List.set, List.drop, List.take, List.append, bnds, bhi, blo, srcOf, simprocAttr, -Int.reduceAbs]; rfl) | rfl)
      · rw [h_get, if_neg (by omega)]; exact hk
      · (first | (simp only [↓R0, R1, rdL, rdH, isCall, istep, ibin, vcells, fillI, setR, flat, okCell, isBase, List.set, List.drop, List.take, List.append, bnds, bhi, blo, srcOf, simprocAttr, -Int.reduceAbs]; done) | (simp only [↓R0, R1, rdL, rdH, isCall, istep, ibin, vcells, fillI, setR, flat, okCell, isBase, List.set, List.drop, List.take, List.append, bnds, bhi, blo, srcOf, simprocAttr, -Int.reduceAbs]; rfl) | rfl)
      · (first | (simp only [↓R0, R1, rdL, rdH, isCall, istep, ibin, vcells, fillI, setR, flat, okCell, isBase, List.set, List.drop, List.take, List.append, bnds, bhi, blo, srcOf, simprocAttr, -Int.reduceAbs]; done) | (simp only [↓R0, R1, rdL, rdH, isCall, istep, ibin, vcells, fillI, setR, flat, okCell, isBase, List.set, List.drop, List.take, List.append, bnds, bhi, blo, srcOf, simprocAttr, -Int.reduceAbs]; rfl) | rfl)
      · intro q hq
        simp only [↓R0, R1, rdL, rdH, isCall, istep, ibin, vcells, fillI, setR, flat, okCell, isBase, List.set, List.drop, List.take, List.append, bnds, bhi, blo, srcOf, simprocAttr, -Int.reduceAbs, hget_new hq]
        exact hh q hq
  · (first | (simp only [↓R0, R1, rdL, rdH, isCall, istep, ibin, vcells, fillI, setR, flat, okCell, isBase, List.set, List.drop, List.take, List.append, bnds, bhi, blo, srcOf, simprocAttr, -Int.reduceAbs]; done) | (simp only [↓R0, R1, rdL, rdH, isCall, istep, ibin, vcells, fillI, setR, flat, okCell, isBase, List.set, List.drop, List.take, List.append, bnds, bhi, blo, srcOf, simprocAttr, -Int.reduceAbs]; rfl) | rfl)
  · (first | (simp only [↓R0, R1, rdL, rdH, isCall, istep, ibin, vcells, fillI, setR, flat, okCell, isBase, List.set, List.drop, List.take, List.append, bnds, bhi, blo, srcOf, simprocAttr, -Int.reduceAbs]; done) | (simp only [↓R0, R1, rdL, rdH, isCall, istep, ibin, vcells, fillI, setR, flat, okCell, isBase, List.set, List.drop, List.take, List.append, bnds, bhi, blo, srcOf, simprocAttr, -Int.reduceAbs]; rfl) | rfl)
  · (first | (simp only [↓R0, R1, rdL, rdH, isCall, istep, ibin, vcells, fillI, setR, flat, okCell, isBase, List.set, List.drop, List.take, List.append, bnds, bhi, blo, srcOf, simprocAttr, -Int.reduceAbs]; done) | (simp only [↓R0, R1, rdL, rdH, isCall, istep, ibin, vcells, fillI, setR, flat, okCell, isBase, List.set, List.drop, List.take, List.append, bnds, bhi, blo, srcOf, simprocAttr, -Int.reduceAbs]; rfl) | rfl)
  · (first | (simp only [↓R0, R1, rdL, rdH, isCall, istep, ibin, vcells, fillI, setR, flat, okCell, isBase, List.set, List.drop, List.take, List.append, bnds, bhi, blo, srcOf, simprocAttr, -Int.reduceAbs]; done) | (simp only [↓R0, R1, rdL, rdH, isCall, istep, ibin, vcells, fillI, setR, flat, okCell, isBase, List.set, List.drop, List.take, List.append, bnds, bhi, blo, srcOf, simprocAttr, -Int.reduceAbs]; rfl) | rfl)
  · (first | (simp only [↓R0, R1, rdL, rdH, isCall, istep, ibin, vcells, fillI, setR, flat, okCell, isBase, List.set, List.drop, List.take, List.append, bnds, bhi, blo, srcOf, simprocAttr, -Int.reduceAbs]; done) | (simp only [↓R0, R1, rdL, rdH, isCall, istep, ibin, vcells, fillI, setR, flat, okCell, isBase, List.set, List.drop, List.take, List.append, bnds, bhi, blo, srcOf, simprocAttr, -Int.reduceAbs]; rfl) | rfl)
  · intro j v hv
    rw [List.getElem?_replicate] at hv
    split at hv <;> simp at hv
    omega
  · rw [vl_zeros]; simp [nl]
  · intro q hq
    simp only [↓R0, R1, rdL, rdH, isCall, istep, ibin, vcells, fillI, setR, flat, okCell, isBase, List.set, List.drop, List.take, List.append, bnds, bhi, blo, srcOf, simprocAttr, -Int.reduceAbs, hget_new hq]
end Go.Eng
end
section
set_option linter.unusedVariables false
set_option linter.unusedSimpArgs false
set_option linter.unusedSectionVars false
set_option maxRecDepth 4000
namespace Go.Eng
open Go Go.Proofs Go.IntWalk
def spSmall : List Value → Option Value
  | [.string ⟨⟨l⟩⟩, .int .i64 n] => if l.length ≤ 137438953472 ∧ 0 ≤ n ∧ n ≤ 255 then some (.string ⟨⟨bl (nl l * n.toNat)⟩⟩) else none
  | _ => none
def c128 : ICode :=
  (.seq (.reg [⟨(some 4), none, (.mv (.c (.string ⟨⟨[]⟩⟩)))⟩])
  (.seq (.reg [⟨(some 5), none, (.mv (.t 0))⟩, ⟨(some 6), none, (.mv (.t 1))⟩, ⟨(some 7), none, (.conv .u8 (.t 6))⟩, ⟨(some 8), none, (.bslice 5 1 1 [(.int .u8 0)] [(0, 1, (.t 7))])⟩, ⟨(some 9), none, (.b2s (.t 8))⟩, ⟨(some 10), none, (.call 125 [(.t 5), (.t 9)])⟩, ⟨(some 4), none, (.mv (.t 10))⟩])
  .ret))
theorem tr128 : trFun Tryz.prog 128 = some ⟨11, [.t 4], c128⟩ := by kernel_rfl
theorem ok_r1Small : SpecOK Tryz.prog 128 (flat spSmall) := by
  refine flat_run (env_cons ok_r1Mul (env_nil _)) mixed tr128 ?_
  intro args v h N hG
  unfold spSmall at hG
  split at hG
  case h_2 => cases hG
  rename_i l n
  split at hG
  case isFalse => cases hG
  rename_i hl
  cases hG
  refine ⟨rfl, by simp, ?_⟩
  have e1 : IntKind.u8.wrap n = ((UInt8.ofNat n.toNat).toNat : Int) := by rw [u8_in _ (by omega)]; simp; omega
  have e2 : byteList [Value.int .u8 ((UInt8.ofNat n.toNat).toNat : Int)] = some [UInt8.ofNat n.toNat] := byteList_bc [UInt8.ofNat n.toNat]
  have e3 : l.length + 1 ≤ 274877906944 := by omega
  simp only [c128, initT, List.zipIdx_cons, List.zipIdx_nil, List.map_cons, List.map_nil, Nat.reduceAdd]
  simp only [↓R0, R1, rdL, rdH, isCall, istep, ibin, vcells, fillI, setR, flat, okCell, isBase, List.set, List.drop, List.take, List.append, bnds, bhi, blo, srcOf, simprocAttr, -Int.reduceAbs, e1, e2, spMul, e3]
  refine fin_t trivial ?_ (fun k hk => by rw [hget_new hk])
  simp only [↓R0, R1, rdL, rdH, isCall, istep, ibin, vcells, fillI, setR, flat, okCell, isBase, List.set, List.drop, List.take, List.append, bnds, bhi, blo, srcOf, simprocAttr, -Int.reduceAbs]
  have t : (UInt8.ofNat n.toNat).toNat = n.toNat := by simp; omega
  simp only [nl, t, Nat.mul_zero, Nat.add_zero]
def spDiv : List Value → Option Value
  | [.string ⟨⟨l⟩⟩, .string ⟨⟨m⟩⟩] => if l.length ≤ 68719476736 ∧ m.length ≤ 68719476736 then
      (if nl m = 0 then some (.tuple ⟨[.string ⟨⟨[]⟩⟩, .string ⟨⟨[]⟩⟩, .bool false]⟩) else some (.tuple ⟨[.string ⟨⟨bl (nl l / nl m)⟩⟩, .string ⟨⟨bl (nl l % nl m)⟩⟩, .bool true]⟩)) else none
  | _ => none
theorem cmpN_le {a b : Nat} : (cmpN a b ≤ 0) = (a ≤ b) := by
  apply propext
  unfold cmpN
  split
  · simp; omega
  · split
    · simp; omega
    · simp; omega
theorem bc_set (l : List UInt8) (i : Nat) (b : UInt8) : (bc l).set i (.int .u8 b.toNat) = bc (l.set i b) := by simp [bc, List.map_set]
def c94 : ICode :=
  (.seq (.reg [⟨(some 4), none, (.mv (.c (.string ⟨⟨[]⟩⟩)))⟩, ⟨(some 5), none, (.mv (.c (.string ⟨⟨[]⟩⟩)))⟩, ⟨(some 6), none, (.mv (.c (.bool false)))⟩])
  (.seq (.seq (.reg [⟨(some 13), none, (.mv (.t 1))⟩, ⟨(some 14), none, (.call 91 [(.t 13)])⟩, ⟨(some 15), none, (.bin .eql (.t 14) (.c (.string ⟨⟨[]⟩⟩)))⟩])
  (.cond (.t 15)
  (.seq (.reg [⟨(some 4), none, (.mv (.c (.string ⟨⟨[]⟩⟩)))⟩, ⟨(some 5), none, (.mv (.c (.string ⟨⟨[]⟩⟩)))⟩, ⟨(some 6), none, (.mv (.c (.bool false)))⟩])
  .ret)
  .skip))
  (.seq (.reg [⟨(some 16), none, (.mv (.t 0))⟩, ⟨(some 17), none, (.lens (.t 16))⟩, ⟨(some 18), none, (.mkslice 5 1 1 [(.int .u8 0)] (.t 17) (.t 17))⟩, ⟨(some 7), none, (.mv (.t 18))⟩])
  (.seq (.reg [⟨(some 8), none, (.mv (.c (.string ⟨⟨[]⟩⟩)))⟩])
  (.seq (.seq (.reg [⟨(some 19), none, (.mv (.t 0))⟩, ⟨(some 20), none, (.lens (.t 19))⟩, ⟨(some 21), none, (.bin .sub (.t 20) (.c (.int .i64 1)))⟩, ⟨(some 9), none, (.mv (.t 21))⟩])
  (.block 0 (.loop (.seq (.seq (.reg [⟨(some 22), none, (.mv (.t 9))⟩, ⟨(some 23), none, (.bin .geq (.t 22) (.c (.int .i64 0)))⟩])
  (.cond (.t 23)
  .skip
  (.exit 0)))
  (.seq (.block 1 (.seq (.reg [⟨(some 26), none, (.mv (.t 0))⟩, ⟨(some 27), none, (.mv (.t 9))⟩, ⟨(some 28), none, (.mv (.t 9))⟩, ⟨(some 29), none, (.bin .add (.t 28) (.c (.int .i64 1)))⟩, ⟨(some 30), none, (.slstr (.t 26) (some (.t 27)) (some (.t 29)))⟩, ⟨(some 31), none, (.mv (.t 8))⟩, ⟨(some 32), none, (.bin .add (.t 30) (.t 31))⟩, ⟨(some 33), none, (.call 91 [(.t 32)])⟩, ⟨(some 8), none, (.mv (.t 33))⟩])
  (.seq (.reg [⟨(some 10), none, (.mv (.c (.int .i64 0)))⟩])
  (.seq (.reg [⟨(some 11), none, (.mv (.c (.int .i64 255)))⟩])
  (.seq (.block 2 (.loop (.seq (.seq (.reg [⟨(some 34), none, (.mv (.t 10))⟩, ⟨(some 35), none, (.mv (.t 11))⟩, ⟨(some 36), none, (.bin .lss (.t 34) (.t 35))⟩])
  (.cond (.t 36)
  .skip
  (.exit 2)))
  (.block 3 (.seq (.reg [⟨(some 37), none, (.mv (.t 10))⟩, ⟨(some 38), none, (.mv (.t 11))⟩, ⟨(some 39), none, (.bin .add (.t 37) (.t 38))⟩, ⟨(some 40), none, (.bin .add (.t 39) (.c (.int .i64 1)))⟩, ⟨(some 41), none, (.bin .quo (.t 40) (.c (.int .i64 2)))⟩, ⟨(some 12), none, (.mv (.t 41))⟩])
  (.seq (.reg [⟨(some 42), none, (.mv (.t 1))⟩, ⟨(some 43), none, (.mv (.t 12))⟩, ⟨(some 44), none, (.call 128 [(.t 42), (.t 43)])⟩, ⟨(some 45), none, (.mv (.t 8))⟩, ⟨(some 46), none, (.call 127 [(.t 44), (.t 45)])⟩, ⟨(some 47), none, (.bin .leq (.t 46) (.c (.int .i64 0)))⟩])
  (.cond (.t 47)
  (.reg [⟨(some 48), none, (.mv (.t 12))⟩, ⟨(some 10), none, (.mv (.t 48))⟩])
  (.reg [⟨(some 49), none, (.mv (.t 12))⟩, ⟨(some 50), none, (.bin .sub (.t 49) (.c (.int .i64 1)))⟩, ⟨(some 11), none, (.mv (.t 50))⟩]))))))))
  (.seq (.reg [⟨(some 52), none, (.mv (.t 8))⟩, ⟨(some 53), none, (.mv (.t 1))⟩, ⟨(some 54), none, (.mv (.t 10))⟩, ⟨(some 55), none, (.call 128 [(.t 53), (.t 54)])⟩, ⟨(some 56), none, (.call 129 [(.t 52), (.t 55)])⟩, ⟨(some 51), none, (.mv (.t 56))⟩, ⟨(some 57), none, (.ext (.t 51) 0)⟩, ⟨(some 58), none, (.ext (.t 51) 1)⟩, ⟨(some 8), none, (.mv (.t 57))⟩])
  (.reg [⟨(some 59), none, (.mv (.t 7))⟩, ⟨(some 60), none, (.mv (.t 9))⟩, ⟨(some 61), none, (.mv (.t 10))⟩, ⟨(some 62), none, (.conv .u8 (.t 61))⟩, ⟨(some 63), none, (.ixsl 1 (.t 59) (.t 60))⟩, ⟨none, none, (.store 1 (.t 63) (.t 62))⟩])))))))
  (.reg [⟨(some 24), none, (.mv (.t 9))⟩, ⟨(some 25), none, (.bin .sub (.t 24) (.c (.int .i64 1)))⟩, ⟨(some 9), none, (.mv (.t 25))⟩]))))))
  (.seq (.reg [⟨(some 64), none, (.mv (.t 7))⟩, ⟨(some 65), none, (.b2s (.t 64))⟩, ⟨(some 66), none, (.call 91 [(.t 65)])⟩, ⟨(some 67), none, (.mv (.t 8))⟩, ⟨(some 4), none, (.mv (.t 66))⟩, ⟨(some 5), none, (.mv (.t 67))⟩, ⟨(some 6), none, (.mv (.c (.bool true)))⟩])
  .ret))))))
theorem tr94 : trFun Tryz.prog 94 = some ⟨68, [.t 4, .t 5, .t 6], c94⟩ := by kernel_rfl
set_option maxHeartbeats 2000000 in
theorem ok_r1Div : SpecOK Tryz.prog 94 (flat spDiv) := by
  refine flat_run (env_cons ok_r1Norm (env_cons ok_r1Small (env_cons ok_r1Cmp (env_cons ok_r1Sub (env_nil _))))) mixed tr94 ?_
  intro args v h N hG
  unfold spDiv at hG
  split at hG
  case h_2 => cases hG
  rename_i l m
  split at hG
  case isFalse => cases hG
  rename_i hl
  obtain ⟨hl, hm⟩ := hl
  have sl : l.length ≤ 1099511627776 := by omega
  have sm : m.length ≤ 1099511627776 := by omega
  split at hG
  · rename_i h0
    cases hG
    refine ⟨rfl, by simp, ?_⟩
    simp only [c94, initT, List.zipIdx_cons, List.zipIdx_nil, List.map_cons, List.map_nil, Nat.reduceAdd]
    simp only [↓R0, R1, rdL, rdH, isCall, istep, ibin, vcells, fillI, setR, flat, okCell, isBase, List.set, List.drop, List.take, List.append, bnds, bhi, blo, srcOf, simprocAttr, -Int.reduceAbs, spNorm, sm, bl_eq_nil, h0]
    exact fin_3 trivial rfl rfl rfl (fun k hk => rfl)
  rename_i h0
  cases hG
  refine ⟨rfl, by simp, ?_⟩
  have e1 : (l.length : Int) ≤ 281474976710656 := by omega
  have e2 : (l.length : Int) ≤ 9223372036854775807 := by omega
  have e3 : IntKind.i64.wrap ((l.length : Int) - 1) = (l.length : Int) - 1 := by rw [i64_in _ (by omega)]
  have eL : (List.replicate l.length [Value.int IntKind.u8 0]).flatten = bc (List.replicate l.length 0) := by
    generalize l.length = L
    induction L with
    | zero => rfl
    | succ L ih => rw [List.replicate_succ, List.flatten_cons, ih]; rfl
  simp only [c94, initT, List.zipIdx_cons, List.zipIdx_nil, List.map_cons, List.map_nil, Nat.reduceAdd]
  simp only [↓R0, R1, rdL, rdH, isCall, istep, ibin, vcells, fillI, setR, flat, okCell, isBase, List.set, List.drop, List.take, List.append, bnds, bhi, blo, srcOf, simprocAttr, -Int.reduceAbs, spNorm, sm, bl_eq_nil, h0, e1, e2, e3, eL, Int.one_mul]
  clear eL e1 e2 e3
  have hB : 0 < nl m := by omega
  refine lp_parts (fun n tm hp nx => ∃ (R : Nat) (qs : List UInt8), n ≤ l.length ∧ tmget tm 0 = .string ⟨⟨l⟩⟩ ∧ tmget tm 1 = .string ⟨⟨m⟩⟩ ∧ tmget tm 9 = .int .i64 ((n : Int) - 1) ∧ tmget tm 8 = .string ⟨⟨bl R⟩⟩ ∧
      tmget tm 7 = .slice (some ⟨N + 0, 0, none⟩) l.length l.length ∧ hget hp (N + 0) = some ⟨5, 1, false, bc qs⟩ ∧ qs.length = l.length ∧ R < nl m ∧
      nl (l.drop n) = nl (qs.drop n) * nl m + R ∧ (∀ q, q < N → hget hp q = hget h q) ∧ nx = N + 1) ?_ l.length
    ⟨0, List.replicate l.length 0, by omega, ?_, ?_, ?_, ?_, ?_, ?_, by simp, hB, by simp [nl], ?_, rfl⟩
  · intro n tm hp nx ⟨R, qs, hn, t0, t1, t9, t8, t7, hk, hq, hR, hval, hh, hnx⟩
    subst hnx
    have hRm : (bl R).length ≤ m.length := by
      rw [bl_length_le]; exact Nat.lt_trans hR (nl_lt m)
    by_cases c1 : n = 0
    · subst c1
      have so : qs.length ≤ 1099511627776 := by omega
      rw [← hq] at t7
      simp only [↓R0, R1, rdL, rdH, isCall, istep, ibin, vcells, fillI, setR, flat, okCell, isBase, List.set, List.drop, List.take, List.append, bnds, bhi, blo, srcOf, simprocAttr, -Int.reduceAbs, t0, t1, t9, t8, t7, hk, List.drop_zero, bc_take_all, byteList_bc, so, spNorm]
      refine fin_3 trivial ?_ ?_ rfl hh
      · simp only [↓R0, R1, rdL, rdH, isCall, istep, ibin, vcells, fillI, setR, flat, okCell, isBase, List.set, List.drop, List.take, List.append, bnds, bhi, blo, srcOf, simprocAttr, -Int.reduceAbs]
        simp only [List.drop_zero] at hval
        rw [hval, Nat.add_comm, Nat.add_mul_div_right _ _ hB, Nat.div_eq_of_lt hR, Nat.zero_add]
      · simp only [↓R0, R1, rdL, rdH, isCall, istep, ibin, vcells, fillI, setR, flat, okCell, isBase, List.set, List.drop, List.take, List.append, bnds, bhi, blo, srcOf, simprocAttr, -Int.reduceAbs, t8]
        simp only [List.drop_zero] at hval
        rw [hval, Nat.add_comm, Nat.add_mul_mod_self_right, Nat.mod_eq_of_lt hR]
    · obtain ⟨n, rfl⟩ : ∃ n', n = n' + 1 := ⟨n - 1, by omega⟩
      have e0 : ((n + 1 : Nat) : Int) - 1 = (n : Int) := by omega
      have e1 : IntKind.i64.wrap ((n : Int) + 1) = ((n + 1 : Nat) : Int) := by rw [i64_in _ (by omega)]; omega
      have e2 : (l.take (n + 1)).drop n = [l[n]] := by rw [List.take_succ_eq_append_getElem (by omega), List.drop_append_of_le_length (by simp; omega)]; simp
      have e3 : 1 + (bl R).length ≤ 9223372036854775807 := by omega
      have e4 : (bl R).length + 1 ≤ 1099511627776 := by omega
      have e5 : n ≤ n + 1 := by omega
      have e6 : nl (l[n] :: bl R) = l[n].toNat + 256 * R := by rw [nl, nl_bl]
      simp only [↓R0, R1, rdL, rdH, isCall, istep, ibin, vcells, fillI, setR, flat, okCell, isBase, List.set, List.drop, List.take, List.append, bnds, bhi, blo, srcOf, simprocAttr, -Int.reduceAbs, t0, t1, t9, t8, t7, hk, e0, e1, e2, e3, e4, e5, e6, hn, spNorm]
      have hb := l[n].toNat_lt
      have hdrop : nl (l.drop n) = l[n].toNat + 256 * nl (l.drop (n + 1)) := by rw [List.drop_eq_getElem_cons (by omega)]; rfl
      generalize hR' : l[n].toNat + 256 * R = R' at *
      have hD : R' / nl m ≤ 255 := by
        have : R' < 256 * nl m := by omega
        have := (Nat.div_lt_iff_lt_mul hB).2 this
        omega
      generalize hDD : R' / nl m = D at *
      have hD1 : nl m * D ≤ R' := by rw [← hDD]; exact Nat.mul_div_le _ _
      have hD2 : R' < nl m * (D + 1) := by rw [← hDD]; have := Nat.lt_mul_div_succ R' hB; exact this
      have hRl : (bl R').length ≤ m.length + 1 := by
        rw [bl_length_le, Nat.pow_succ]
        have := nl_lt m
        omega
      have hsm : ∀ x, x ≤ 255 → (bl (nl m * x)).length ≤ m.length + 1 := by
        intro x hx
        rw [bl_length_le, Nat.pow_succ]
        have := nl_lt m
        calc nl m * x ≤ nl m * 255 := Nat.mul_le_mul_left _ hx
          _ < 256 ^ m.length * 256 := by omega
      have hm2 : m.length ≤ 137438953472 := by omega
      refine lp_parts (fun n2 tm hp nx => ∃ (lo hi : Nat), n2 = hi - lo ∧ tmget tm 0 = .string ⟨⟨l⟩⟩ ∧ tmget tm 1 = .string ⟨⟨m⟩⟩ ∧ tmget tm 9 = .int .i64 (n : Int) ∧ tmget tm 8 = .string ⟨⟨bl R'⟩⟩ ∧
        tmget tm 7 = .slice (some ⟨N + 0, 0, none⟩) l.length l.length ∧ tmget tm 10 = .int .i64 lo ∧ tmget tm 11 = .int .i64 hi ∧ hget hp (N + 0) = some ⟨5, 1, false, bc qs⟩ ∧
        lo ≤ D ∧ D ≤ hi ∧ hi ≤ 255 ∧ (∀ q, q < N → hget hp q = hget h q) ∧ nx = N + 1) ?_ 255
        ⟨0, 255, by omega, ?_, ?_, ?_, ?_, ?_, ?_, ?_, hk, by omega, hD, by omega, hh, rfl⟩
      · clear hk hh t0 t1 t9 t8 t7
        clear tm hp
        intro n2 tm hp nx ⟨lo, hi, hn2, t0, t1, t9, t8, t7, t10, t11, hk, hlo, hhi, hhi2, hh, hnx⟩
        subst hnx
        by_cases c2 : lo < hi
        · have g1 : IntKind.i64.wrap ((lo : Int) + (hi : Int)) = ((lo + hi : Nat) : Int) := by rw [i64_in _ (by omega)]; omega
          have g2 : IntKind.i64.wrap (((lo + hi : Nat) : Int) + 1) = ((lo + hi + 1 : Nat) : Int) := by rw [i64_in _ (by omega)]; omega
          have g3 : IntKind.i64.wrap (((lo + hi + 1 : Nat) : Int).tdiv 2) = (((lo + hi + 1) / 2 : Nat) : Int) := by rw [i64_quo _ _ (by omega)]; omega
          have hmid1 : lo < (lo + hi + 1) / 2 := by omega
          have hmid2 : (lo + hi + 1) / 2 ≤ hi := by omega
          generalize (lo + hi + 1) / 2 = mid at *
          have g4 : (mid : Int) ≤ 255 := by omega
          have g5 : (bl (nl m * mid)).length ≤ 1099511627776 := Nat.le_trans (hsm mid (by omega)) (by omega)
          have g6 : (bl R').length ≤ 1099511627776 := by omega
          have g7 : IntKind.i64.wrap ((mid : Int) - 1) = ((mid - 1 : Nat) : Int) := by rw [i64_in _ (by omega)]; omega
          simp only [↓R0, R1, rdL, rdH, isCall, istep, ibin, vcells, fillI, setR, flat, okCell, isBase, List.set, List.drop, List.take, List.append, bnds, bhi, blo, srcOf, simprocAttr, -Int.reduceAbs, t0, t1, t9, t8, t7, t10, t11, c2, g1, g2, g3, spSmall, hm2, g4, spCmp, g5, g6, nl_bl, cmpN_le]
          by_cases c3 : nl m * mid ≤ R'
          · simp only [↓R0, R1, rdL, rdH, isCall, istep, ibin, vcells, fillI, setR, flat, okCell, isBase, List.set, List.drop, List.take, List.append, bnds, bhi, blo, srcOf, simprocAttr, -Int.reduceAbs, t0, t1, t9, t8, t7, t10, t11, c3]
            refine ⟨_, ?_, mid, hi, rfl, rfl, rfl, hk, ?_, hhi, hhi2, hh⟩
            · omega
            · refine Nat.le_of_lt_succ (Nat.lt_of_mul_lt_mul_left (a := nl m) ?_)
              exact Nat.lt_of_le_of_lt c3 hD2
          · simp only [↓R0, R1, rdL, rdH, isCall, istep, ibin, vcells, fillI, setR, flat, okCell, isBase, List.set, List.drop, List.take, List.append, bnds, bhi, blo, srcOf, simprocAttr, -Int.reduceAbs, t0, t1, t9, t8, t7, t10, t11, c3, g7]
            refine ⟨_, ?_, lo, mid - 1, rfl, rfl, rfl, hk, hlo, ?_, by omega, hh⟩
            · omega
            · have : D < mid := Nat.lt_of_mul_lt_mul_left (a := nl m) (by omega)
              omega
        · have hD0 : lo = D := by omega
          subst hD0
          have g4 : (lo : Int) ≤ 255 := by omega
          have g5 : (bl (nl m * lo)).length ≤ 549755813888 := Nat.le_trans (hsm lo (by omega)) (by omega)
          have g6 : (bl R').length ≤ 549755813888 := by omega
          have g7 : ¬ R' < nl m * lo := by omega
          have g8 : IntKind.u8.wrap (lo : Int) = ((UInt8.ofNat lo).toNat : Int) := by rw [u8_in _ (by omega)]; simp; omega
          have g9 : (n : Int) < (l.length : Int) := by omega
          have g10 : n + 1 ≤ qs.length := by omega
          have g11 : IntKind.i64.wrap ((n : Int) - 1) = (n : Int) - 1 := by rw [i64_in _ (by omega)]
          have g12 : n < l.length := by omega
          simp only [↓R0, R1, rdL, rdH, isCall, istep, ibin, vcells, fillI, setR, flat, okCell, isBase, List.set, List.drop, List.take, List.append, bnds, bhi, blo, srcOf, simprocAttr, -Int.reduceAbs, t0, t1, t9, t8, t7, t10, t11, c2, spSmall, hm2, g4, spSub, g5, g6, nl_bl, g7, g8, g9, g10, g11, g12, hk, bc_set]
          refine ⟨n, by omega, R' - nl m * lo, qs.set n (UInt8.ofNat lo), by omega, rfl, rfl, rfl, by simp [hq], by rw [Nat.mul_add] at hD2; omega, ?_, ?_⟩
          · have ht : (UInt8.ofNat lo).toNat = lo := by simp; omega
            rw [hdrop, List.drop_eq_getElem_cons (l := qs.set n (UInt8.ofNat lo)) (i := n) (by rw [List.length_set]; omega), nl, List.getElem_set_self, ht, List.drop_set_of_lt (by omega), hval, Nat.add_mul, Nat.mul_comm lo, Nat.mul_assoc]
            omega
          · intro q hq
            rw [if_neg (by omega)]; exact hh q hq
      · (first | (simp only [↓R0, R1, rdL, rdH, isCall, istep, ibin, vcells, fillI, setR, flat, okCell, isBase, List.set, List.drop, List.take, List.append, bnds, bhi, blo, srcOf, simprocAttr, -Int.reduceAbs, t0]; done) | (simp only [↓R0, R1, rdL, rdH, isCall, istep, ibin, vcells, fillI, setR, flat, okCell, isBase, List.set, List.drop, List.take, List.append, bnds, bhi, blo, srcOf, simprocAttr, -Int.reduceAbs, t0]; rfl) | rfl)
      · (first | (simp only [↓R0, R1, rdL, rdH, isCall, istep, ibin, vcells, fillI, setR, flat, okCell, isBase, List.set, List.drop, List.take, List.append, bnds, bhi, blo, srcOf, simprocAttr, -Int.reduceAbs, t1]; done) | (simp only [↓R0, R1, rdL, rdH, isCall, istep, ibin, vcells, fillI, setR, flat, okCell, isBase, List.set, List.drop, List.take, List.append, bnds, bhi, blo, srcOf, simprocAttr, -Int.reduceAbs, t1]; rfl) | rfl)
      · (first | (simp only [↓R0, R1, rdL, rdH, isCall, istep, ibin, vcells, fillI, setR, flat, okCell, isBase, List.set, List.drop, List.take, List.append, bnds, bhi, blo, srcOf, simprocAttr, -Int.reduceAbs, t9, e0]; done) | (simp only [↓R0, R1, rdL, rdH, isCall, istep, ibin, vcells, fillI, setR, flat, okCell, isBase, List.set, List.drop, List.take, List.append, bnds, bhi, blo, srcOf, simprocAttr, -Int.reduceAbs, t9, e0]; rfl) | rfl)
      · (first | (simp only [↓R0, R1, rdL, rdH, isCall, istep, ibin, vcells, fillI, setR, flat, okCell, isBase, List.set, List.drop, List.take, List.append, bnds, bhi, blo, srcOf, simprocAttr, -Int.reduceAbs]; done) | (simp only [↓R0, R1, rdL, rdH, isCall, istep, ibin, vcells, fillI, setR, flat, okCell, isBase, List.set, List.drop, List.take, List.append, bnds, bhi, blo, srcOf, simprocAttr, -Int.reduceAbs]; rfl) | rfl)
      · (first | (simp only [↓R0, R1, rdL, rdH, isCall, istep, ibin, vcells, fillI, setR, flat, okCell, isBase, List.set, List.drop, List.take, List.append, bnds, bhi, blo, srcOf, simprocAttr, -Int.reduceAbs, t7]; done) | (simp only [↓R0, R1, rdL, rdH, isCall, istep, ibin, vcells, fillI, setR, flat, okCell, isBase, List.set, List.drop, List.take, List.append, bnds, bhi, blo, srcOf, simprocAttr, -Int.reduceAbs, t7]; rfl) | rfl)
      · (first | (simp only [↓R0, R1, rdL, rdH, isCall, istep, ibin, vcells, fillI, setR, flat, okCell, isBase, List.set, List.drop, List.take, List.append, bnds, bhi, blo, srcOf, simprocAttr, -Int.reduceAbs]; done) | (simp only [↓R0, R1, rdL, rdH, isCall, istep, ibin, vcells, fillI, setR, flat, okCell, isBase, List.set, List.drop, List.take, List.append, bnds, bhi, blo, srcOf, simprocAttr, -Int.reduceAbs]; rfl) | rfl)
      · (first | (simp only [↓R0, R1, rdL, rdH, isCall, istep, ibin, vcells, fillI, setR, flat, okCell, isBase, List.set, List.drop, List.take, List.append, bnds, bhi, blo, srcOf, simprocAttr, -Int.reduceAbs]; done) | (simp only [↓R0, R1, rdL, rdH, isCall, istep, ibin, vcells, fillI, setR, flat, okCell, isBase, List.set, List.drop, List.take, List.append, bnds, bhi, blo, srcOf, simprocAttr, -Int.reduceAbs]; rfl) | rfl)
  · (first | (simp only [↓R0, R1, rdL, rdH, isCall, istep, ibin, vcells, fillI, setR, flat, okCell, isBase, List.set, List.drop, List.take, List.append, bnds, bhi, blo, srcOf, simprocAttr, -Int.reduceAbs]; done) | (simp only [↓R0, R1, rdL, rdH, isCall, istep, ibin, vcells, fillI, setR, flat, okCell, isBase, List.set, List.drop, List.take, List.append, bnds, bhi, blo, srcOf, simprocAttr, -Int.reduceAbs]; rfl) | rfl)
  · (first | (simp only [↓R0, R1, rdL, rdH, isCall, istep, ibin, vcells, fillI, setR, flat, okCell, isBase, List.set, List.drop, List.take, List.append, bnds, bhi, blo, srcOf, simprocAttr, -Int.reduceAbs]; done) | (simp only [↓R0, R1, rdL, rdH, isCall, istep, ibin, vcells, fillI, setR, flat, okCell, isBase, List.set, List.drop, List.take, List.append, bnds, bhi, blo, srcOf, simprocAttr, -Int.reduceAbs]; rfl) | rfl)
  · (first | (simp only [↓R0, R1, rdL, rdH, isCall, istep, ibin, vcells, fillI, setR, flat, okCell, isBase, List.set, List.drop, List.take, List.append, bnds, bhi, blo, srcOf, simprocAttr, -Int.reduceAbs]; done) | (simp only [↓R0, R1, rdL, rdH, isCall, istep, ibin, vcells, fillI, setR, flat, okCell, isBase, List.set, List.drop, List.take, List.append, bnds, bhi, blo, srcOf, simprocAttr, -Int.reduceAbs]; rfl) | rfl)
  · (first | (simp only [↓R0, R1, rdL, rdH, isCall, istep, ibin, vcells, fillI, setR, flat, okCell, isBase, List.set, List.drop, List.take, List.append, bnds, bhi, blo, srcOf, simprocAttr, -Int.reduceAbs, bl_zero]; done) | (simp only [↓R0, R1, rdL, rdH, isCall, istep, ibin, vcells, fillI, setR, flat, okCell, isBase, List.set, List.drop, List.take, List.append, bnds, bhi, blo, srcOf, simprocAttr, -Int.reduceAbs, bl_zero]; rfl) | rfl)
  · (first | (simp only [↓R0, R1, rdL, rdH, isCall, istep, ibin, vcells, fillI, setR, flat, okCell, isBase, List.set, List.drop, List.take, List.append, bnds, bhi, blo, srcOf, simprocAttr, -Int.reduceAbs]; done) | (simp only [↓R0, R1, rdL, rdH, isCall, istep, ibin, vcells, fillI, setR, flat, okCell, isBase, List.set, List.drop, List.take, List.append, bnds, bhi, blo, srcOf, simprocAttr, -Int.reduceAbs]; rfl) | rfl)
  · (first | (simp only [↓R0, R1, rdL, rdH, isCall, istep, ibin, vcells, fillI, setR, flat, okCell, isBase, List.set, List.drop, List.take, List.append, bnds, bhi, blo, srcOf, simprocAttr, -Int.reduceAbs]; done) | (simp only [↓R0, R1, rdL, rdH, isCall, istep, ibin, vcells, fillI, setR, flat, okCell, isBase, List.set, List.drop, List.take, List.append, bnds, bhi, blo, srcOf, simprocAttr, -Int.reduceAbs]; rfl) | rfl)
  · intro q hq
    simp only [↓R0, R1, rdL, rdH, isCall, istep, ibin, vcells, fillI, setR, flat, okCell, isBase, List.set, List.drop, List.take, List.append, bnds, bhi, blo, srcOf, simprocAttr, -Int.reduceAbs, hget_new hq]
end Go.Eng
end
section
set_option linter.unusedVariables false
set_option linter.unusedSimpArgs false
set_option linter.unusedSectionVars false
set_option maxRecDepth 4000
namespace Go.Eng
open Go Go.Proofs Go.IntWalk
def spGcd : List Value → Option Value
  | [.string ⟨⟨l⟩⟩, .string ⟨⟨m⟩⟩] => if l.length ≤ 68719476736 ∧ m.length ≤ 68719476736 then some (.string ⟨⟨bl (Nat.gcd (nl l) (nl m))⟩⟩) else none
  | _ => none
def c93 : ICode :=
  (.seq (.reg [⟨(some 4), none, (.mv (.c (.string ⟨⟨[]⟩⟩)))⟩])
  (.seq (.reg [⟨(some 10), none, (.mv (.t 0))⟩, ⟨(some 11), none, (.call 91 [(.t 10)])⟩, ⟨(some 12), none, (.mv (.t 1))⟩, ⟨(some 13), none, (.call 91 [(.t 12)])⟩, ⟨(some 5), none, (.mv (.t 11))⟩, ⟨(some 6), none, (.mv (.t 13))⟩])
  (.seq (.block 0 (.loop (.seq (.seq (.reg [⟨(some 14), none, (.mv (.t 6))⟩, ⟨(some 15), none, (.bin .neq (.t 14) (.c (.string ⟨⟨[]⟩⟩)))⟩])
  (.cond (.t 15)
  .skip
  (.exit 0)))
  (.block 1 (.seq (.reg [⟨(some 17), none, (.mv (.t 5))⟩, ⟨(some 18), none, (.mv (.t 6))⟩, ⟨(some 19), none, (.call 94 [(.t 17), (.t 18)])⟩, ⟨(some 16), none, (.mv (.t 19))⟩, ⟨(some 20), none, (.ext (.t 16) 0)⟩, ⟨(some 21), none, (.ext (.t 16) 1)⟩, ⟨(some 22), none, (.ext (.t 16) 2)⟩, ⟨(some 7), none, (.mv (.t 20))⟩, ⟨(some 8), none, (.mv (.t 21))⟩, ⟨(some 9), none, (.mv (.t 22))⟩])
  (.seq (.reg [⟨(some 23), none, (.mv (.t 6))⟩, ⟨(some 5), none, (.mv (.t 23))⟩])
  (.reg [⟨(some 24), none, (.mv (.t 8))⟩, ⟨(some 6), none, (.mv (.t 24))⟩])))))))
  (.seq (.reg [⟨(some 25), none, (.mv (.t 5))⟩, ⟨(some 4), none, (.mv (.t 25))⟩])
  .ret))))
theorem tr93 : trFun Tryz.prog 93 = some ⟨26, [.t 4], c93⟩ := by kernel_rfl
theorem ok_r1Gcd : SpecOK Tryz.prog 93 (flat spGcd) := by
  refine flat_run (env_cons ok_r1Norm (env_cons ok_r1Div (env_nil _))) mixed tr93 ?_
  intro args v h N hG
  unfold spGcd at hG
  split at hG
  case h_2 => cases hG
  rename_i l m
  split at hG
  case isFalse => cases hG
  rename_i hl
  obtain ⟨hl, hm⟩ := hl
  have sl : l.length ≤ 1099511627776 := by omega
  have sm : m.length ≤ 1099511627776 := by omega
  cases hG
  refine ⟨rfl, by simp, ?_⟩
  simp only [c93, initT, List.zipIdx_cons, List.zipIdx_nil, List.map_cons, List.map_nil, Nat.reduceAdd]
  simp only [↓R0, R1, rdL, rdH, isCall, istep, ibin, vcells, fillI, setR, flat, okCell, isBase, List.set, List.drop, List.take, List.append, bnds, bhi, blo, srcOf, simprocAttr, -Int.reduceAbs, spNorm, sl, sm]
  have hX0 : (bl (nl l)).length ≤ 68719476736 := Nat.le_trans (bl_length_nl l) hl
  have hY0 : (bl (nl m)).length ≤ 68719476736 := Nat.le_trans (bl_length_nl m) hm
  refine lp_parts (fun n tm hp nx => ∃ (X : Nat), tmget tm 5 = .string ⟨⟨bl X⟩⟩ ∧ tmget tm 6 = .string ⟨⟨bl n⟩⟩ ∧ (bl X).length ≤ 68719476736 ∧ (bl n).length ≤ 68719476736 ∧
      Nat.gcd X n = Nat.gcd (nl l) (nl m) ∧ hp = h) ?_ (nl m) ⟨nl l, ?_, ?_, hX0, hY0, rfl, rfl⟩
  · intro Y tm hp nx ⟨X, t5, t6, hX, hY, hg, hh⟩
    subst hh
    by_cases c : Y = 0
    · subst c
      simp only [↓R0, R1, rdL, rdH, isCall, istep, ibin, vcells, fillI, setR, flat, okCell, isBase, List.set, List.drop, List.take, List.append, bnds, bhi, blo, srcOf, simprocAttr, -Int.reduceAbs, t5, t6, bl_zero]
      refine fin_t trivial ?_ (fun k hk => rfl)
      simp only [↓R0, R1, rdL, rdH, isCall, istep, ibin, vcells, fillI, setR, flat, okCell, isBase, List.set, List.drop, List.take, List.append, bnds, bhi, blo, srcOf, simprocAttr, -Int.reduceAbs, t5]
      rw [← hg, Nat.gcd_zero_right]
    · simp only [↓R0, R1, rdL, rdH, isCall, istep, ibin, vcells, fillI, setR, flat, okCell, isBase, List.set, List.drop, List.take, List.append, bnds, bhi, blo, srcOf, simprocAttr, -Int.reduceAbs, t5, t6, bl_eq_nil, c, spDiv, hX, hY, nl_bl]
      refine ⟨X % Y, Nat.mod_lt _ (by omega), Y, rfl, rfl, hY, ?_, ?_⟩
      · exact Nat.le_trans (bl_length_mono (Nat.le_of_lt (Nat.mod_lt _ (by omega)))) hY
      · rw [← hg, Nat.gcd_comm X Y, Nat.gcd_rec Y X, Nat.gcd_comm]
  · (first | (simp only [↓R0, R1, rdL, rdH, isCall, istep, ibin, vcells, fillI, setR, flat, okCell, isBase, List.set, List.drop, List.take, List.append, bnds, bhi, blo, srcOf, simprocAttr, -Int.reduceAbs]; done) | (simp only [↓R0, R1, rdL, rdH, isCall, istep, ibin, vcells, fillI, setR, flat, okCell, isBase, List.set, List.drop, List.take, List.append, bnds, bhi, blo, srcOf, simprocAttr, -Int.reduceAbs]; rfl) | rfl)
  · (first | (simp only [↓R0, R1, rdL, rdH, isCall, istep, ibin, vcells, fillI, setR, flat, okCell, isBase, List.set, List.drop, List.take, List.append, bnds, bhi, blo, srcOf, simprocAttr, -Int.reduceAbs]; done) | (simp only [↓R0, R1, rdL, rdH, isCall, istep, ibin, vcells, fillI, setR, flat, okCell, isBase, List.set, List.drop, List.take, List.append, bnds, bhi, blo, srcOf, simprocAttr, -Int.reduceAbs]; rfl) | rfl)
end Go.Eng
end
section
set_option linter.unusedVariables false
set_option linter.unusedSimpArgs false
set_option linter.unusedSectionVars false
set_option maxRecDepth 4000
namespace Go.Eng
open Go Go.Proofs Go.IntWalk
def spI2of : List Value → Option Value
  | [.bool s, .string ⟨⟨l⟩⟩] => if l.length ≤ 1099511627776 then some (.agg ⟨iE (sv s l)⟩) else none
  | _ => none
def c90 : ICode :=
  (.seq (.reg [⟨(some 4), none, (.alloc 23 2 [(.bool false), (.string ⟨⟨[]⟩⟩)])⟩])
  (.seq (.reg [⟨(some 6), none, (.mv (.t 1))⟩, ⟨(some 7), none, (.call 91 [(.t 6)])⟩, ⟨(some 5), none, (.mv (.t 7))⟩])
  (.seq (.reg [⟨(some 8), none, (.mv (.t 0))⟩, ⟨(some 9), none, (.mv (.t 8))⟩, ⟨(some 10), (some (9, true)), (.mv (.t 5))⟩, ⟨(some 11), (some (9, true)), (.bin .neq (.t 10) (.c (.string ⟨⟨[]⟩⟩)))⟩, ⟨(some 12), none, (.pick (.t 9) (.t 11) (.c (.bool false)))⟩, ⟨(some 13), none, (.mv (.t 5))⟩, ⟨(some 14), none, (.build [(.bool false), (.string ⟨⟨[]⟩⟩)] [(0, 1, (.t 12)), (1, 1, (.t 13))])⟩, ⟨none, none, (.store 2 (.t 4) (.t 14))⟩])
  .ret)))
theorem tr90 : trFun Tryz.prog 90 = some ⟨15, [.cell 4 true 2], c90⟩ := by kernel_rfl
theorem ok_r2of : SpecOK Tryz.prog 90 (flat spI2of) := by
  refine flat_run (env_cons ok_r1Norm (env_nil _)) mixed tr90 ?_
  intro args v h N hG
  unfold spI2of at hG
  split at hG
  case h_2 => cases hG
  rename_i s l
  split at hG
  case isFalse => cases hG
  rename_i hl
  cases hG
  refine ⟨rfl, by simp, ?_⟩
  rw [iE_sv]
  simp only [c90, initT, List.zipIdx_cons, List.zipIdx_nil, List.map_cons, List.map_nil, Nat.reduceAdd]
  simp only [↓R0, R1, rdL, rdH, isCall, istep, ibin, vcells, fillI, setR, flat, okCell, isBase, List.set, List.drop, List.take, List.append, bnds, bhi, blo, srcOf, simprocAttr, -Int.reduceAbs, spNorm, hl]
  refine gd_case (fun hb => ?_) (fun hb => ?_)
  · simp only [↓R0, R1, rdL, rdH, isCall, istep, ibin, vcells, fillI, setR, flat, okCell, isBase, List.set, List.drop, List.take, List.append, bnds, bhi, blo, srcOf, simprocAttr, -Int.reduceAbs, hb, Fin, isEnd, resL, res1]
    refine ⟨_, rfl, rfl, fun k hk => ?_⟩
    rw [if_neg (by omega), if_neg (by omega)]
  · simp only [↓R0, R1, rdL, rdH, isCall, istep, ibin, vcells, fillI, setR, flat, okCell, isBase, List.set, List.drop, List.take, List.append, bnds, bhi, blo, srcOf, simprocAttr, -Int.reduceAbs, hb, Fin, isEnd, resL, res1]
    refine ⟨_, rfl, rfl, fun k hk => ?_⟩
    rw [if_neg (by omega), if_neg (by omega)]
def spI2Norm : List Value → Option Value
  | [.agg ⟨[.bool s, .string ⟨⟨l⟩⟩]⟩] => if l.length ≤ 1099511627776 then some (.agg ⟨iE (sv s l)⟩) else none
  | _ => none
def c46 : ICode :=
  (.seq (.reg [⟨(some 1), none, (.box 23 2 (.t 0))⟩, ⟨(some 2), none, (.alloc 23 2 [(.bool false), (.string ⟨⟨[]⟩⟩)])⟩])
  (.seq (.reg [⟨(some 3), none, (.faddr 0 (.t 1))⟩, ⟨(some 4), none, (.load false 1 (.t 3))⟩, ⟨(some 5), none, (.faddr 1 (.t 1))⟩, ⟨(some 6), none, (.load false 1 (.t 5))⟩, ⟨(some 7), none, (.call 90 [(.t 4), (.t 6)])⟩, ⟨none, none, (.store 2 (.t 2) (.t 7))⟩])
  .ret))
theorem tr46 : trFun Tryz.prog 46 = some ⟨8, [.cell 2 true 2], c46⟩ := by kernel_rfl
theorem ok_r2Norm : SpecOK Tryz.prog 46 (flat spI2Norm) := by
  refine flat_run (env_cons ok_r2of (env_nil _)) mixed tr46 ?_
  intro args v h N hG
  unfold spI2Norm at hG
  split at hG
  case h_2 => cases hG
  rename_i s l
  split at hG
  case isFalse => cases hG
  rename_i hl
  cases hG
  refine ⟨rfl, by simp, ?_⟩
  simp only [c46, initT, List.zipIdx_cons, List.zipIdx_nil, List.map_cons, List.map_nil, Nat.reduceAdd]
  simp only [↓R0, R1, rdL, rdH, isCall, istep, ibin, vcells, fillI, setR, flat, okCell, isBase, List.set, List.drop, List.take, List.append, bnds, bhi, blo, srcOf, simprocAttr, -Int.reduceAbs, spI2of, hl, iE, Fin, isEnd, resL, res1]
  refine ⟨_, rfl, rfl, fun k hk => ?_⟩
  simp only [if_neg (show ¬ N + 1 = k by omega), if_neg (show ¬ N + 0 = k by omega)]
def spI2Neg : List Value → Option Value
  | [.agg ⟨[.bool s, .string ⟨⟨l⟩⟩]⟩] => if l.length ≤ 1099511627776 then some (.agg ⟨iE (- sv s l)⟩) else none
  | _ => none
def c50 : ICode :=
  (.seq (.reg [⟨(some 1), none, (.box 23 2 (.t 0))⟩, ⟨(some 2), none, (.alloc 23 2 [(.bool false), (.string ⟨⟨[]⟩⟩)])⟩])
  (.seq (.reg [⟨(some 3), none, (.faddr 0 (.t 1))⟩, ⟨(some 4), none, (.load false 1 (.t 3))⟩, ⟨(some 5), none, (.un .not (.t 4))⟩, ⟨(some 6), none, (.faddr 1 (.t 1))⟩, ⟨(some 7), none, (.load false 1 (.t 6))⟩, ⟨(some 8), none, (.call 90 [(.t 5), (.t 7)])⟩, ⟨none, none, (.store 2 (.t 2) (.t 8))⟩])
  .ret))
theorem tr50 : trFun Tryz.prog 50 = some ⟨9, [.cell 2 true 2], c50⟩ := by kernel_rfl
theorem ok_r2Neg : SpecOK Tryz.prog 50 (flat spI2Neg) := by
  refine flat_run (env_cons ok_r2of (env_nil _)) mixed tr50 ?_
  intro args v h N hG
  unfold spI2Neg at hG
  split at hG
  case h_2 => cases hG
  rename_i s l
  split at hG
  case isFalse => cases hG
  rename_i hl
  cases hG
  refine ⟨rfl, by simp, ?_⟩
  rw [← sv_neg]
  simp only [c50, initT, List.zipIdx_cons, List.zipIdx_nil, List.map_cons, List.map_nil, Nat.reduceAdd]
  simp only [↓R0, R1, rdL, rdH, isCall, istep, ibin, vcells, fillI, setR, flat, okCell, isBase, List.set, List.drop, List.take, List.append, bnds, bhi, blo, srcOf, simprocAttr, -Int.reduceAbs, spI2of, hl, iE, Fin, isEnd, resL, res1]
  refine ⟨_, rfl, rfl, fun k hk => ?_⟩
  simp only [if_neg (show ¬ N + 1 = k by omega), if_neg (show ¬ N + 0 = k by omega)]
def spI2Sign : List Value → Option Value
  | [.agg ⟨[.bool s, .string ⟨⟨l⟩⟩]⟩] => if l.length ≤ 1099511627776 then some (.int .i64 (sv s l).sign) else none
  | _ => none
def c47 : ICode :=
  (.seq (.reg [⟨(some 1), none, (.box 23 2 (.t 0))⟩, ⟨(some 2), none, (.mv (.c (.int .i64 0)))⟩])
  (.seq (.seq (.reg [⟨(some 3), none, (.faddr 1 (.t 1))⟩, ⟨(some 4), none, (.load false 1 (.t 3))⟩, ⟨(some 5), none, (.call 91 [(.t 4)])⟩, ⟨(some 6), none, (.bin .eql (.t 5) (.c (.string ⟨⟨[]⟩⟩)))⟩])
  (.cond (.t 6)
  (.seq (.reg [⟨(some 2), none, (.mv (.c (.int .i64 0)))⟩])
  .ret)
  .skip))
  (.seq (.seq (.reg [⟨(some 7), none, (.faddr 0 (.t 1))⟩, ⟨(some 8), none, (.load false 1 (.t 7))⟩])
  (.cond (.t 8)
  (.seq (.reg [⟨(some 2), none, (.mv (.c (.int .i64 (-1))))⟩])
  .ret)
  .skip))
  (.seq (.reg [⟨(some 2), none, (.mv (.c (.int .i64 1)))⟩])
  .ret))))
theorem tr47 : trFun Tryz.prog 47 = some ⟨9, [.t 2], c47⟩ := by kernel_rfl
theorem ok_r2Sign : SpecOK Tryz.prog 47 (flat spI2Sign) := by
  refine flat_run (env_cons ok_r1Norm (env_nil _)) mixed tr47 ?_
  intro args v h N hG
  unfold spI2Sign at hG
  split at hG
  case h_2 => cases hG
  rename_i s l
  split at hG
  case isFalse => cases hG
  rename_i hl
  cases hG
  refine ⟨rfl, by simp, ?_⟩
  rw [sgn_sv]
  simp only [c47, initT, List.zipIdx_cons, List.zipIdx_nil, List.map_cons, List.map_nil, Nat.reduceAdd]
  simp only [↓R0, R1, rdL, rdH, isCall, istep, ibin, vcells, fillI, setR, flat, okCell, isBase, List.set, List.drop, List.take, List.append, bnds, bhi, blo, srcOf, simprocAttr, -Int.reduceAbs, spNorm, hl, bl_eq_nil]
  refine cd_case (fun hb => ?_) (fun hb => ?_)
  · have hb' : nl l = 0 := by simpa using hb
    rw [if_pos hb']
    simp only [↓R0, R1, rdL, rdH, isCall, istep, ibin, vcells, fillI, setR, flat, okCell, isBase, List.set, List.drop, List.take, List.append, bnds, bhi, blo, srcOf, simprocAttr, -Int.reduceAbs]
    exact fin_t trivial rfl (fun k hk => by rw [hget_new hk])
  · have hb' : ¬ nl l = 0 := by simpa using hb
    rw [if_neg hb']
    simp only [↓R0, R1, rdL, rdH, isCall, istep, ibin, vcells, fillI, setR, flat, okCell, isBase, List.set, List.drop, List.take, List.append, bnds, bhi, blo, srcOf, simprocAttr, -Int.reduceAbs]
    cases s
    · simp only [↓R0, R1, rdL, rdH, isCall, istep, ibin, vcells, fillI, setR, flat, okCell, isBase, List.set, List.drop, List.take, List.append, bnds, bhi, blo, srcOf, simprocAttr, -Int.reduceAbs]
      exact fin_t trivial rfl (fun k hk => by rw [hget_new hk])
    · simp only [↓R0, R1, rdL, rdH, isCall, istep, ibin, vcells, fillI, setR, flat, okCell, isBase, List.set, List.drop, List.take, List.append, bnds, bhi, blo, srcOf, simprocAttr, -Int.reduceAbs]
      exact fin_t trivial rfl (fun k hk => by rw [hget_new hk])
end Go.Eng
end
section
set_option linter.unusedVariables false
set_option linter.unusedSimpArgs false
set_option linter.unusedSectionVars false
set_option maxRecDepth 4000
namespace Go.Eng
open Go Go.Proofs Go.IntWalk
def spI2From : List Value → Option Value
  | [.int .i64 n] => if -9223372036854775808 ≤ n ∧ n ≤ 9223372036854775807 then some (.agg ⟨iE n⟩) else none
  | _ => none
def c48 : ICode :=
  (.seq (.reg [⟨(some 2), none, (.alloc 23 2 [(.bool false), (.string ⟨⟨[]⟩⟩)])⟩])
  (.seq (.seq (.reg [⟨(some 3), none, (.mv (.t 0))⟩, ⟨(some 4), none, (.bin .lss (.t 3) (.c (.int .i64 0)))⟩])
  (.cond (.t 4)
  (.seq (.reg [⟨(some 5), none, (.mv (.t 0))⟩, ⟨(some 6), none, (.bin .add (.t 5) (.c (.int .i64 1)))⟩, ⟨(some 7), none, (.un .neg (.t 6))⟩, ⟨(some 8), none, (.conv .u64 (.t 7))⟩, ⟨(some 9), none, (.bin .add (.t 8) (.c (.int .u64 1)))⟩, ⟨(some 10), none, (.call 92 [(.t 9)])⟩, ⟨(some 11), none, (.call 90 [(.c (.bool true)), (.t 10)])⟩, ⟨none, none, (.store 2 (.t 2) (.t 11))⟩])
  .ret)
  .skip))
  (.seq (.reg [⟨(some 12), none, (.mv (.t 0))⟩, ⟨(some 13), none, (.conv .u64 (.t 12))⟩, ⟨(some 14), none, (.call 92 [(.t 13)])⟩, ⟨(some 15), none, (.call 90 [(.c (.bool false)), (.t 14)])⟩, ⟨none, none, (.store 2 (.t 2) (.t 15))⟩])
  .ret)))
theorem tr48 : trFun Tryz.prog 48 = some ⟨16, [.cell 2 true 2], c48⟩ := by kernel_rfl
theorem ok_r2From : SpecOK Tryz.prog 48 (flat spI2From) := by
  refine flat_run (env_cons ok_r2of (env_cons ok_r1Of (env_nil _))) mixed tr48 ?_
  intro args v h N hG
  unfold spI2From at hG
  split at hG
  case h_2 => cases hG
  rename_i n
  split at hG
  case isFalse => cases hG
  rename_i hl
  cases hG
  refine ⟨rfl, by simp, ?_⟩
  have hlen : (bl n.natAbs).length ≤ 1099511627776 := Nat.le_trans (bl_length_le (k := 8).2 (by omega)) (by omega)
  simp only [c48, initT, List.zipIdx_cons, List.zipIdx_nil, List.map_cons, List.map_nil, Nat.reduceAdd]
  simp only [↓R0, R1, rdL, rdH, isCall, istep, ibin, vcells, fillI, setR, flat, okCell, isBase, List.set, List.drop, List.take, List.append, bnds, bhi, blo, srcOf, simprocAttr, -Int.reduceAbs]
  refine cd_case (fun hb => ?_) (fun hb => ?_)
  · have hn : n < 0 := by simpa using hb
    have hz : sv true (bl n.natAbs) = n := by rw [sv_true, nl_bl]; omega
    have e1 : IntKind.i64.wrap (n + 1) = n + 1 := by rw [i64_in _ (by omega)]
    have e2 : IntKind.i64.wrap (0 - (n + 1)) = (n.natAbs : Int) - 1 := by rw [i64_in _ (by omega)]; omega
    have e3 : IntKind.u64.wrap ((n.natAbs : Int) - 1) = (n.natAbs : Int) - 1 := by rw [u64_in _ (by omega)]
    have e4 : IntKind.u64.wrap ((n.natAbs : Int) - 1 + 1) = (n.natAbs : Int) := by rw [u64_in _ (by omega)]; omega
    have e5 : (n.natAbs : Int) ≤ 18446744073709551615 := by omega
    simp only [↓R0, R1, rdL, rdH, isCall, istep, ibin, vcells, fillI, setR, flat, okCell, isBase, List.set, List.drop, List.take, List.append, bnds, bhi, blo, srcOf, simprocAttr, -Int.reduceAbs, e1, e2, e3, e4, e5, spOf, spI2of, hlen, iE, hz, Fin, isEnd, resL, res1]
    refine ⟨_, rfl, ?_, fun k hk => ?_⟩
    · rfl
    · rw [if_neg (by omega), if_neg (by omega)]
  · have hn : 0 ≤ n := by simpa using hb
    have hz : sv false (bl n.natAbs) = n := by rw [sv_false, nl_bl]; omega
    have e3 : IntKind.u64.wrap n = (n.natAbs : Int) := by rw [u64_in _ (by omega)]; omega
    have e5 : (n.natAbs : Int) ≤ 18446744073709551615 := by omega
    simp only [↓R0, R1, rdL, rdH, isCall, istep, ibin, vcells, fillI, setR, flat, okCell, isBase, List.set, List.drop, List.take, List.append, bnds, bhi, blo, srcOf, simprocAttr, -Int.reduceAbs, e3, e5, spOf, spI2of, hlen, iE, hz, Fin, isEnd, resL, res1]
    refine ⟨_, rfl, ?_, fun k hk => ?_⟩
    · rfl
    · rw [if_neg (by omega), if_neg (by omega)]
def spI2Add : List Value → Option Value
  | [.agg ⟨[.bool s, .string ⟨⟨l⟩⟩]⟩, .agg ⟨[.bool t, .string ⟨⟨m⟩⟩]⟩] => if l.length ≤ 549755813888 ∧ m.length ≤ 549755813888 then some (.agg ⟨iE (sv s l + sv t m)⟩) else none
  | _ => none
def c95 : ICode :=
  (.seq (.reg [⟨(some 2), none, (.box 23 2 (.t 0))⟩, ⟨(some 3), none, (.box 23 2 (.t 1))⟩, ⟨(some 4), none, (.alloc 23 2 [(.bool false), (.string ⟨⟨[]⟩⟩)])⟩])
  (.seq (.seq (.reg [⟨(some 7), none, (.faddr 0 (.t 2))⟩, ⟨(some 8), none, (.load false 1 (.t 7))⟩, ⟨(some 9), none, (.faddr 0 (.t 3))⟩, ⟨(some 10), none, (.load false 1 (.t 9))⟩, ⟨(some 11), none, (.eqb false (.t 8) (.t 10))⟩])
  (.cond (.t 11)
  (.seq (.dreg [⟨(some 12), none, [], (.faddr 0 (.t 2))⟩, ⟨(some 13), none, [], (.load false 1 (.t 12))⟩, ⟨(some 14), none, [], (.faddr 1 (.t 2))⟩, ⟨(some 15), none, [], (.load false 1 (.t 14))⟩, ⟨(some 16), none, [], (.faddr 1 (.t 3))⟩, ⟨(some 17), none, [], (.load false 1 (.t 16))⟩, ⟨(some 18), none, [], (.call 130 [(.t 15), (.t 17)])⟩, ⟨(some 19), none, [], (.call 90 [(.t 13), (.t 18)])⟩, ⟨none, none, [], (.store 2 (.t 4) (.t 19))⟩])
  .ret)
  .skip))
  (.seq (.reg [⟨(some 21), none, (.faddr 1 (.t 2))⟩, ⟨(some 22), none, (.load false 1 (.t 21))⟩, ⟨(some 23), none, (.faddr 1 (.t 3))⟩, ⟨(some 24), none, (.load false 1 (.t 23))⟩, ⟨(some 25), none, (.call 129 [(.t 22), (.t 24)])⟩, ⟨(some 20), none, (.mv (.t 25))⟩, ⟨(some 26), none, (.ext (.t 20) 0)⟩, ⟨(some 27), none, (.ext (.t 20) 1)⟩, ⟨(some 5), none, (.mv (.t 26))⟩, ⟨(some 6), none, (.mv (.t 27))⟩])
  (.seq (.seq (.reg [⟨(some 28), none, (.mv (.t 6))⟩])
  (.cond (.t 28)
  (.seq (.reg [⟨(some 29), none, (.faddr 0 (.t 2))⟩, ⟨(some 30), none, (.load false 1 (.t 29))⟩, ⟨(some 31), none, (.mv (.t 5))⟩, ⟨(some 32), none, (.call 90 [(.t 30), (.t 31)])⟩, ⟨none, none, (.store 2 (.t 4) (.t 32))⟩])
  .ret)
  .skip))
  (.seq (.reg [⟨(some 34), none, (.faddr 1 (.t 3))⟩, ⟨(some 35), none, (.load false 1 (.t 34))⟩, ⟨(some 36), none, (.faddr 1 (.t 2))⟩, ⟨(some 37), none, (.load false 1 (.t 36))⟩, ⟨(some 38), none, (.call 129 [(.t 35), (.t 37)])⟩, ⟨(some 33), none, (.mv (.t 38))⟩, ⟨(some 39), none, (.ext (.t 33) 0)⟩, ⟨(some 40), none, (.ext (.t 33) 1)⟩, ⟨(some 5), none, (.mv (.t 39))⟩])
  (.seq (.reg [⟨(some 41), none, (.faddr 0 (.t 3))⟩, ⟨(some 42), none, (.load false 1 (.t 41))⟩, ⟨(some 43), none, (.mv (.t 5))⟩, ⟨(some 44), none, (.call 90 [(.t 42), (.t 43)])⟩, ⟨none, none, (.store 2 (.t 4) (.t 44))⟩])
  .ret))))))
theorem tr95 : trFun Tryz.prog 95 = some ⟨45, [.cell 4 true 2], c95⟩ := by kernel_rfl
theorem ok_r2Add : SpecOK Tryz.prog 95 (flat spI2Add) := by
  refine flat_run (env_cons ok_r2of (env_cons ok_r1Add (env_cons ok_r1Sub (env_nil _)))) mixed tr95 ?_
  intro args v h N hG
  unfold spI2Add at hG
  split at hG
  case h_2 => cases hG
  rename_i s l t m
  split at hG
  case isFalse => cases hG
  rename_i hl
  obtain ⟨hl, hm⟩ := hl
  cases hG
  refine ⟨rfl, by simp, ?_⟩
  have la := bl_length_nl l
  have lb := bl_length_nl m
  have ls : (bl (nl l + nl m)).length ≤ 1099511627776 := Nat.le_trans (bl_length_add (k := max l.length m.length) (by omega) (by omega)) (by omega)
  have ld1 : (bl (nl l - nl m)).length ≤ 1099511627776 := Nat.le_trans (bl_length_mono (Nat.sub_le _ _)) (by omega)
  have ld2 : (bl (nl m - nl l)).length ≤ 1099511627776 := Nat.le_trans (bl_length_mono (Nat.sub_le _ _)) (by omega)
  by_cases hst : s = t
  · subst hst
    have hz : sv s l + sv s m = sv s (bl (nl l + nl m)) := by rw [sv_bl]; cases s <;> simp [sv] <;> omega
    rw [hz]
    simp only [c95, initT, List.zipIdx_cons, List.zipIdx_nil, List.map_cons, List.map_nil, Nat.reduceAdd]
    simp only [↓R0, R1, rdL, rdH, isCall, istep, ibin, vcells, fillI, setR, flat, okCell, isBase, List.set, List.drop, List.take, List.append, bnds, bhi, blo, srcOf, simprocAttr, -Int.reduceAbs, spAdd, spI2of, hl, hm, ls, iE, Fin, isEnd, resL, res1]
    refine ⟨_, rfl, rfl, fun k hk => ?_⟩
    simp only [if_neg (show ¬ N + 2 = k by omega), if_neg (show ¬ N + 1 = k by omega), if_neg (show ¬ N + 0 = k by omega)]
  · by_cases hlt : nl l < nl m
    · have hlt2 : ¬ nl m < nl l := by omega
      have hz : sv s l + sv t m = sv t (bl (nl m - nl l)) := by rw [sv_bl]; cases s <;> cases t <;> simp [sv] at hst ⊢ <;> omega
      rw [hz]
      simp only [c95, initT, List.zipIdx_cons, List.zipIdx_nil, List.map_cons, List.map_nil, Nat.reduceAdd]
      simp only [↓R0, R1, rdL, rdH, isCall, istep, ibin, vcells, fillI, setR, flat, okCell, isBase, List.set, List.drop, List.take, List.append, bnds, bhi, blo, srcOf, simprocAttr, -Int.reduceAbs, hst, spSub, spI2of, hl, hm, hlt, hlt2, ld2, iE, Fin, isEnd, resL, res1]
      refine ⟨_, rfl, rfl, fun k hk => ?_⟩
      simp only [if_neg (show ¬ N + 2 = k by omega), if_neg (show ¬ N + 1 = k by omega), if_neg (show ¬ N + 0 = k by omega)]
    · have hz : sv s l + sv t m = sv s (bl (nl l - nl m)) := by rw [sv_bl]; cases s <;> cases t <;> simp [sv] at hst ⊢ <;> omega
      rw [hz]
      simp only [c95, initT, List.zipIdx_cons, List.zipIdx_nil, List.map_cons, List.map_nil, Nat.reduceAdd]
      simp only [↓R0, R1, rdL, rdH, isCall, istep, ibin, vcells, fillI, setR, flat, okCell, isBase, List.set, List.drop, List.take, List.append, bnds, bhi, blo, srcOf, simprocAttr, -Int.reduceAbs, hst, spSub, spI2of, hl, hm, hlt, ld1, iE, Fin, isEnd, resL, res1]
      refine ⟨_, rfl, rfl, fun k hk => ?_⟩
      simp only [if_neg (show ¬ N + 2 = k by omega), if_neg (show ¬ N + 1 = k by omega), if_neg (show ¬ N + 0 = k by omega)]
end Go.Eng
end
section
set_option linter.unusedVariables false
set_option linter.unusedSimpArgs false
set_option linter.unusedSectionVars false
set_option maxRecDepth 4000
namespace Go.Eng
open Go Go.Proofs Go.IntWalk
def spI2Sub : List Value → Option Value
  | [.agg ⟨[.bool s, .string ⟨⟨l⟩⟩]⟩, .agg ⟨[.bool t, .string ⟨⟨m⟩⟩]⟩] => if l.length ≤ 549755813888 ∧ m.length ≤ 549755813888 then some (.agg ⟨iE (sv s l - sv t m)⟩) else none
  | _ => none
def c96 : ICode :=
  (.seq (.reg [⟨(some 2), none, (.box 23 2 (.t 0))⟩, ⟨(some 3), none, (.box 23 2 (.t 1))⟩, ⟨(some 4), none, (.alloc 23 2 [(.bool false), (.string ⟨⟨[]⟩⟩)])⟩])
  (.seq (.dreg [⟨(some 5), none, [], (.load true 2 (.t 2))⟩, ⟨(some 6), none, [], (.load true 2 (.t 3))⟩, ⟨(some 7), none, [], (.call 50 [(.t 6)])⟩, ⟨(some 8), none, [], (.call 95 [(.t 5), (.t 7)])⟩, ⟨none, none, [], (.store 2 (.t 4) (.t 8))⟩])
  .ret))
theorem tr96 : trFun Tryz.prog 96 = some ⟨9, [.cell 4 true 2], c96⟩ := by kernel_rfl
theorem ok_r2Sub : SpecOK Tryz.prog 96 (flat spI2Sub) := by
  refine flat_run (env_cons ok_r2Neg (env_cons ok_r2Add (env_nil _))) mixed tr96 ?_
  intro args v h N hG
  unfold spI2Sub at hG
  split at hG
  case h_2 => cases hG
  rename_i s l t m
  split at hG
  case isFalse => cases hG
  rename_i hl
  obtain ⟨hl, hm⟩ := hl
  cases hG
  refine ⟨rfl, by simp, ?_⟩
  have hm2 : m.length ≤ 1099511627776 := by omega
  have hn : (bl (-sv t m).natAbs).length ≤ 549755813888 := by rw [Int.natAbs_neg, sv_natAbs]; exact Nat.le_trans (bl_length_nl m) hm
  rw [Int.sub_eq_add_neg]
  simp only [c96, initT, List.zipIdx_cons, List.zipIdx_nil, List.map_cons, List.map_nil, Nat.reduceAdd]
  simp only [↓R0, R1, rdL, rdH, isCall, istep, ibin, vcells, fillI, setR, flat, okCell, isBase, List.set, List.drop, List.take, List.append, bnds, bhi, blo, srcOf, simprocAttr, -Int.reduceAbs, spI2Neg, spI2Add, iE, hl, hm2, hn, Fin, isEnd, resL, res1]
  refine ⟨_, rfl, rfl, fun k hk => ?_⟩
  simp only [if_neg (show ¬ N + 2 = k by omega), if_neg (show ¬ N + 1 = k by omega), if_neg (show ¬ N + 0 = k by omega)]
def spI2Mul : List Value → Option Value
  | [.agg ⟨[.bool s, .string ⟨⟨l⟩⟩]⟩, .agg ⟨[.bool t, .string ⟨⟨m⟩⟩]⟩] => if l.length + m.length ≤ 274877906944 then some (.agg ⟨iE (sv s l * sv t m)⟩) else none
  | _ => none
def c87 : ICode :=
  (.seq (.reg [⟨(some 2), none, (.box 23 2 (.t 0))⟩, ⟨(some 3), none, (.box 23 2 (.t 1))⟩, ⟨(some 4), none, (.alloc 23 2 [(.bool false), (.string ⟨⟨[]⟩⟩)])⟩])
  (.seq (.dreg [⟨(some 5), none, [], (.faddr 0 (.t 2))⟩, ⟨(some 6), none, [], (.load false 1 (.t 5))⟩, ⟨(some 7), none, [], (.faddr 0 (.t 3))⟩, ⟨(some 8), none, [], (.load false 1 (.t 7))⟩, ⟨(some 9), none, [], (.eqb true (.t 6) (.t 8))⟩, ⟨(some 10), none, [], (.faddr 1 (.t 2))⟩, ⟨(some 11), none, [], (.load false 1 (.t 10))⟩, ⟨(some 12), none, [], (.faddr 1 (.t 3))⟩, ⟨(some 13), none, [], (.load false 1 (.t 12))⟩, ⟨(some 14), none, [], (.call 125 [(.t 11), (.t 13)])⟩, ⟨(some 15), none, [], (.call 90 [(.t 9), (.t 14)])⟩, ⟨none, none, [], (.store 2 (.t 4) (.t 15))⟩])
  .ret))
theorem tr87 : trFun Tryz.prog 87 = some ⟨16, [.cell 4 true 2], c87⟩ := by kernel_rfl
theorem sv_mul (s t : Bool) (l m : List UInt8) : sv (decide (s ≠ t)) (bl (nl l * nl m)) = sv s l * sv t m := by
  rw [sv_bl]
  cases s <;> cases t <;> simp [sv, Int.neg_mul, Int.mul_neg]
theorem ok_r2Mul : SpecOK Tryz.prog 87 (flat spI2Mul) := by
  refine flat_run (env_cons ok_r2of (env_cons ok_r1Mul (env_nil _))) mixed tr87 ?_
  intro args v h N hG
  unfold spI2Mul at hG
  split at hG
  case h_2 => cases hG
  rename_i s l t m
  split at hG
  case isFalse => cases hG
  rename_i hl
  cases hG
  refine ⟨rfl, by simp, ?_⟩
  have la := bl_length_nl l
  have lb := bl_length_nl m
  have hp : (bl (nl l * nl m)).length ≤ 1099511627776 := Nat.le_trans (bl_length_mul _ _) (by omega)
  have hz := sv_mul s t l m
  simp only [ne_eq] at hz
  simp only [c87, initT, List.zipIdx_cons, List.zipIdx_nil, List.map_cons, List.map_nil, Nat.reduceAdd]
  simp only [↓R0, R1, rdL, rdH, isCall, istep, ibin, vcells, fillI, setR, flat, okCell, isBase, List.set, List.drop, List.take, List.append, bnds, bhi, blo, srcOf, simprocAttr, -Int.reduceAbs, spMul, spI2of, iE, hl, hp, hz, Fin, isEnd, resL, res1]
  refine ⟨_, rfl, rfl, fun k hk => ?_⟩
  simp only [if_neg (show ¬ N + 2 = k by omega), if_neg (show ¬ N + 1 = k by omega), if_neg (show ¬ N + 0 = k by omega)]
end Go.Eng
end
section
set_option linter.unusedVariables false
set_option linter.unusedSimpArgs false
set_option linter.unusedSectionVars false
set_option maxRecDepth 4000
namespace Go.Eng
open Go Go.Proofs Go.IntWalk
def spI2Div : List Value → Option Value
  | [.agg ⟨[.bool s, .string ⟨⟨l⟩⟩]⟩, .agg ⟨[.bool t, .string ⟨⟨m⟩⟩]⟩] => if l.length ≤ 68719476736 ∧ m.length ≤ 68719476736 then
      (if nl m = 0 then some (.tuple ⟨[.agg ⟨[.bool false, .string ⟨⟨[]⟩⟩]⟩, .agg ⟨[.bool false, .string ⟨⟨[]⟩⟩]⟩, .bool false]⟩) else
        some (.tuple ⟨[.agg ⟨iE (sv s l / sv t m)⟩, .agg ⟨iE (sv s l % sv t m)⟩, .bool true]⟩)) else none
  | _ => none
def c51 : ICode :=
  (.seq (.reg [⟨(some 2), none, (.box 23 2 (.t 0))⟩, ⟨(some 3), none, (.box 23 2 (.t 1))⟩, ⟨(some 4), none, (.alloc 23 2 [(.bool false), (.string ⟨⟨[]⟩⟩)])⟩, ⟨(some 5), none, (.alloc 23 2 [(.bool false), (.string ⟨⟨[]⟩⟩)])⟩, ⟨(some 6), none, (.mv (.c (.bool false)))⟩])
  (.seq (.reg [⟨(some 13), none, (.faddr 1 (.t 2))⟩, ⟨(some 14), none, (.load false 1 (.t 13))⟩, ⟨(some 15), none, (.faddr 1 (.t 3))⟩, ⟨(some 16), none, (.load false 1 (.t 15))⟩, ⟨(some 17), none, (.call 94 [(.t 14), (.t 16)])⟩, ⟨(some 12), none, (.mv (.t 17))⟩, ⟨(some 18), none, (.ext (.t 12) 0)⟩, ⟨(some 19), none, (.ext (.t 12) 1)⟩, ⟨(some 20), none, (.ext (.t 12) 2)⟩, ⟨(some 7), none, (.mv (.t 18))⟩, ⟨(some 8), none, (.mv (.t 19))⟩, ⟨(some 9), none, (.mv (.t 20))⟩])
  (.seq (.seq (.reg [⟨(some 21), none, (.mv (.t 9))⟩, ⟨(some 22), none, (.un .not (.t 21))⟩])
  (.cond (.t 22)
  (.seq (.reg [⟨(some 23), none, (.build [(.bool false), (.string ⟨⟨[]⟩⟩)] [])⟩, ⟨(some 24), none, (.build [(.bool false), (.string ⟨⟨[]⟩⟩)] [])⟩, ⟨none, none, (.store 2 (.t 4) (.t 23))⟩, ⟨none, none, (.store 2 (.t 5) (.t 24))⟩, ⟨(some 6), none, (.mv (.c (.bool false)))⟩])
  .ret)
  .skip))
  (.seq (.reg [⟨(some 25), none, (.faddr 0 (.t 2))⟩, ⟨(some 26), none, (.load false 1 (.t 25))⟩, ⟨(some 27), none, (.mv (.t 8))⟩, ⟨(some 28), none, (.call 90 [(.t 26), (.t 27)])⟩, ⟨(some 10), none, (.alloc 23 2 [(.bool false), (.string ⟨⟨[]⟩⟩)])⟩, ⟨none, none, (.store 2 (.t 10) (.t 28))⟩])
  (.seq (.reg [⟨(some 29), none, (.faddr 0 (.t 2))⟩, ⟨(some 30), none, (.load false 1 (.t 29))⟩, ⟨(some 31), none, (.faddr 0 (.t 3))⟩, ⟨(some 32), none, (.load false 1 (.t 31))⟩, ⟨(some 33), none, (.eqb true (.t 30) (.t 32))⟩, ⟨(some 34), none, (.mv (.t 7))⟩, ⟨(some 35), none, (.call 90 [(.t 33), (.t 34)])⟩, ⟨(some 11), none, (.alloc 23 2 [(.bool false), (.string ⟨⟨[]⟩⟩)])⟩, ⟨none, none, (.store 2 (.t 11) (.t 35))⟩])
  (.seq (.seq (.reg [⟨(some 36), none, (.load true 2 (.t 10))⟩, ⟨(some 37), none, (.call 47 [(.t 36)])⟩, ⟨(some 38), none, (.bin .lss (.t 37) (.c (.int .i64 0)))⟩])
  (.cond (.t 38)
  (.seq (.dreg [⟨(some 39), none, [], (.load true 2 (.t 10))⟩, ⟨(some 40), none, [], (.faddr 1 (.t 3))⟩, ⟨(some 41), none, [], (.load false 1 (.t 40))⟩, ⟨(some 42), none, [], (.call 90 [(.c (.bool false)), (.t 41)])⟩, ⟨(some 43), none, [], (.call 95 [(.t 39), (.t 42)])⟩, ⟨none, none, [], (.store 2 (.t 10) (.t 43))⟩])
  (.seq (.reg [⟨(some 44), none, (.load true 2 (.t 3))⟩, ⟨(some 45), none, (.call 47 [(.t 44)])⟩, ⟨(some 46), none, (.bin .gtr (.t 45) (.c (.int .i64 0)))⟩])
  (.cond (.t 46)
  (.dreg [⟨(some 47), none, [], (.load true 2 (.t 11))⟩, ⟨(some 48), none, [], (.call 48 [(.c (.int .i64 1))])⟩, ⟨(some 49), none, [], (.call 96 [(.t 47), (.t 48)])⟩, ⟨none, none, [], (.store 2 (.t 11) (.t 49))⟩])
  (.dreg [⟨(some 50), none, [], (.load true 2 (.t 11))⟩, ⟨(some 51), none, [], (.call 48 [(.c (.int .i64 1))])⟩, ⟨(some 52), none, [], (.call 95 [(.t 50), (.t 51)])⟩, ⟨none, none, [], (.store 2 (.t 11) (.t 52))⟩]))))
  .skip))
  (.seq (.dreg [⟨(some 53), none, [], (.load true 2 (.t 11))⟩, ⟨(some 54), none, [], (.load true 2 (.t 10))⟩, ⟨none, none, [1001], (.store 2 (.t 4) (.t 53))⟩, ⟨none, none, [], (.store 2 (.t 5) (.t 54))⟩, ⟨(some 6), none, [], (.mv (.c (.bool true)))⟩])
  .ret)))))))
theorem tr51 : trFun Tryz.prog 51 = some ⟨55, [.cell 4 true 2, .cell 5 true 2, .t 6], c51⟩ := by kernel_rfl
theorem sv_div {s t : Bool} {l m : List UInt8} (hm : nl m ≠ 0) :
    (s = false ∨ nl l % nl m = 0 → sv s l / sv t m = sv (decide (s ≠ t)) (bl (nl l / nl m)) ∧ sv s l % sv t m = sv s (bl (nl l % nl m))) ∧
    (s = true → nl l % nl m ≠ 0 → sv s l % sv t m = sv s (bl (nl l % nl m)) + sv false (bl (nl m)) ∧
      sv s l / sv t m = if t then sv (decide (s ≠ t)) (bl (nl l / nl m)) + 1 else sv (decide (s ≠ t)) (bl (nl l / nl m)) - 1) := by
  have hd := Nat.div_add_mod (nl l) (nl m)
  have hr := Nat.mod_lt (nl l) (Nat.pos_of_ne_zero hm)
  simp only [sv_bl]
  generalize nl l / nl m = q at *
  generalize nl l % nl m = r at *
  generalize hL : nl l = L at *
  generalize hM : nl m = M at *
  have hdi : (M : Int) * (q : Int) + (r : Int) = (L : Int) := by rw [← hd]; simp
  have pos : ∀ A Q R : Int, R + (M : Int) * Q = A → 0 ≤ R → R < M → A / (M : Int) = Q ∧ A % (M : Int) = R := fun A Q R h1 h2 h3 => (Int.ediv_emod_unique (by omega)).2 ⟨h1, h2, h3⟩
  have neg : ∀ A Q R : Int, R + -(M : Int) * Q = A → 0 ≤ R → R < M → A / -(M : Int) = Q ∧ A % -(M : Int) = R := by
    intro A Q R h1 h2 h3
    have := pos A (-Q) R (by rw [Int.mul_neg, ← Int.neg_mul]; exact h1) h2 h3
    rw [Int.ediv_neg, Int.emod_neg, this.1, this.2]
    simp
  have e1 : (M : Int) * (-(q : Int)) = -((M : Int) * (q : Int)) := by rw [Int.mul_neg]
  have e2 : -(M : Int) * (q : Int) = -((M : Int) * (q : Int)) := by rw [Int.neg_mul]
  have e3 : -(M : Int) * (-(q : Int)) = ((M : Int) * (q : Int)) := by rw [Int.neg_mul, Int.mul_neg]; simp
  constructor
  · intro h
    cases s <;> cases t <;> simp only [sv, hL, hM, ne_eq, reduceCtorEq, not_true_eq_false, not_false_eq_true, decide_true, decide_false, if_true, if_false, Bool.false_eq_true]
    · exact pos _ _ _ (by omega) (by omega) (by omega)
    · exact neg _ _ _ (by omega) (by omega) (by omega)
    · have : r = 0 := by simpa using h
      exact pos _ _ _ (by omega) (by omega) (by omega)
    · have : r = 0 := by simpa using h
      exact neg _ _ _ (by omega) (by omega) (by omega)
  · intro hs h
    subst hs
    cases t <;> simp only [sv, hL, hM, ne_eq, reduceCtorEq, not_true_eq_false, not_false_eq_true, decide_true, decide_false, if_true, if_false, Bool.false_eq_true]
    · have := pos (-(L : Int)) (-(q : Int) - 1) (-(r : Int) + M) (by rw [Int.mul_sub, e1]; omega) (by omega) (by omega)
      exact ⟨this.2, this.1⟩
    · have := neg (-(L : Int)) ((q : Int) + 1) (-(r : Int) + M) (by rw [Int.mul_add, e2]; omega) (by omega) (by omega)
      exact ⟨this.2, this.1⟩
theorem ok_r2Div : SpecOK Tryz.prog 51 (flat spI2Div) := by
  refine flat_run (env_cons ok_r2of (env_cons ok_r1Div (env_cons ok_r2Sign (env_cons ok_r2Add (env_cons ok_r2Sub (env_cons ok_r2From (env_nil _))))))) mixed tr51 ?_
  intro args v h N hG
  unfold spI2Div at hG
  split at hG
  case h_2 => cases hG
  rename_i s l t m
  split at hG
  case isFalse => cases hG
  rename_i hl
  obtain ⟨hl, hm⟩ := hl
  split at hG
  · rename_i h0
    cases hG
    refine ⟨rfl, by simp, ?_⟩
    simp only [c51, initT, List.zipIdx_cons, List.zipIdx_nil, List.map_cons, List.map_nil, Nat.reduceAdd]
    simp only [↓R0, R1, rdL, rdH, isCall, istep, ibin, vcells, fillI, setR, flat, okCell, isBase, List.set, List.drop, List.take, List.append, bnds, bhi, blo, srcOf, simprocAttr, -Int.reduceAbs, spDiv, hl, hm, h0, Bool.not_false, Fin, isEnd, resL, res1]
    refine ⟨_, rfl, rfl, fun k hk => ?_⟩
    simp only [if_neg (show ¬ N + 3 = k by omega), if_neg (show ¬ N + 2 = k by omega), if_neg (show ¬ N + 1 = k by omega), if_neg (show ¬ N + 0 = k by omega)]
  rename_i h0
  cases hG
  refine ⟨rfl, by simp, ?_⟩
  have la := bl_length_nl l
  have lb := bl_length_nl m
  have q1 : (bl (nl l / nl m)).length ≤ 68719476736 := Nat.le_trans (bl_length_mono (Nat.div_le_self _ _)) (by omega)
  have r1 : (bl (nl l % nl m)).length ≤ 68719476736 := Nat.le_trans (bl_length_mono (Nat.mod_le _ _)) (by omega)
  have q2 : (bl (nl l / nl m)).length ≤ 1099511627776 := by omega
  have r2 : (bl (nl l % nl m)).length ≤ 1099511627776 := by omega
  have m2 : m.length ≤ 1099511627776 := by omega
  have X1 : (bl (sv s (bl (nl l % nl m))).natAbs).length ≤ 1099511627776 := by rw [sv_natAbs, nl_bl]; omega
  have X2 : (bl (sv s (bl (nl l % nl m))).natAbs).length ≤ 549755813888 := by rw [sv_natAbs, nl_bl]; omega
  have M2 : (bl (sv false m).natAbs).length ≤ 549755813888 := by rw [sv_natAbs]; omega
  have Y2 : (bl (sv (decide (s ≠ t)) (bl (nl l / nl m))).natAbs).length ≤ 549755813888 := by rw [sv_natAbs, nl_bl]; omega
  simp only [ne_eq] at Y2
  have o1 : sv false (bl (Int.natAbs 1)) = 1 := by rw [sv_false, nl_bl]; rfl
  have o2 : (bl (Int.natAbs 1)).length ≤ 549755813888 := Nat.le_trans (bl_length_le (k := 1).2 (by decide)) (by omega)
  obtain ⟨d1, d2⟩ := sv_div (s := s) (t := t) (l := l) (m := m) h0
  simp only [ne_eq] at d1 d2
  by_cases hc : s = false ∨ nl l % nl m = 0
  · have hs : ¬ (sv s (bl (nl l % nl m))).sign < 0 := by
      rw [sgn_sv, nl_bl]
      rcases hc with hc | hc
      · subst hc; split <;> simp
      · rw [if_pos hc]; simp
    obtain ⟨d3, d4⟩ := d1 hc
    rw [d3, d4]
    simp only [c51, initT, List.zipIdx_cons, List.zipIdx_nil, List.map_cons, List.map_nil, Nat.reduceAdd]
    simp only [↓R0, R1, rdL, rdH, isCall, istep, ibin, vcells, fillI, setR, flat, okCell, isBase, List.set, List.drop, List.take, List.append, bnds, bhi, blo, srcOf, simprocAttr, -Int.reduceAbs, spDiv, spI2of, spI2Sign, iE, hl, hm, h0, q2, r2, X1, hs, Bool.not_true, Fin, isEnd, resL, res1]
    refine ⟨_, rfl, rfl, fun k hk => ?_⟩
    simp only [if_neg (show ¬ N + 5 = k by omega), if_neg (show ¬ N + 4 = k by omega), if_neg (show ¬ N + 3 = k by omega), if_neg (show ¬ N + 2 = k by omega), if_neg (show ¬ N + 1 = k by omega), if_neg (show ¬ N + 0 = k by omega)]
  · have hs1 : s = true := by
      cases s
      · simp at hc
      · rfl
    have hr0 : nl l % nl m ≠ 0 := fun e => hc (.inr e)
    have hs : (sv s (bl (nl l % nl m))).sign < 0 := by
      rw [sgn_sv, nl_bl, if_neg hr0, hs1]; simp
    obtain ⟨d3, d4⟩ := d2 hs1 hr0
    have hfm : sv false (bl (nl m)) = sv false m := by rw [sv_false, nl_bl]; rfl
    rw [d3, d4, hfm]
    have ht : (sv t m).sign > 0 ↔ t = false := by
      rw [sgn_sv, if_neg h0]
      cases t <;> simp
    cases t
    · have ht' : (sv false m).sign > 0 := ht.2 rfl
      simp only [c51, initT, List.zipIdx_cons, List.zipIdx_nil, List.map_cons, List.map_nil, Nat.reduceAdd]
      simp only [↓R0, R1, rdL, rdH, isCall, istep, ibin, vcells, fillI, setR, flat, okCell, isBase, List.set, List.drop, List.take, List.append, bnds, bhi, blo, srcOf, simprocAttr, -Int.reduceAbs, spDiv, spI2of, spI2Sign, spI2Add, spI2From, spI2Sub, iE, hl, hm, h0, q2, r2, m2, X1, X2, M2, Y2, o1, o2, hs, ht', Bool.not_true, Fin, isEnd, resL, res1]
      refine ⟨_, rfl, rfl, fun k hk => ?_⟩
      simp only [if_neg (show ¬ N + 5 = k by omega), if_neg (show ¬ N + 4 = k by omega), if_neg (show ¬ N + 3 = k by omega), if_neg (show ¬ N + 2 = k by omega), if_neg (show ¬ N + 1 = k by omega), if_neg (show ¬ N + 0 = k by omega)]
    · have ht' : ¬ (sv true m).sign > 0 := fun e => by have := ht.1 e; cases this
      simp only [c51, initT, List.zipIdx_cons, List.zipIdx_nil, List.map_cons, List.map_nil, Nat.reduceAdd]
      simp only [↓R0, R1, rdL, rdH, isCall, istep, ibin, vcells, fillI, setR, flat, okCell, isBase, List.set, List.drop, List.take, List.append, bnds, bhi, blo, srcOf, simprocAttr, -Int.reduceAbs, spDiv, spI2of, spI2Sign, spI2Add, spI2From, iE, hl, hm, h0, q2, r2, m2, X1, X2, M2, Y2, o1, o2, hs, ht', Bool.not_true, Fin, isEnd, resL, res1]
      refine ⟨_, rfl, rfl, fun k hk => ?_⟩
      simp only [if_neg (show ¬ N + 5 = k by omega), if_neg (show ¬ N + 4 = k by omega), if_neg (show ¬ N + 3 = k by omega), if_neg (show ¬ N + 2 = k by omega), if_neg (show ¬ N + 1 = k by omega), if_neg (show ¬ N + 0 = k by omega)]
end Go.Eng
end
section
set_option linter.unusedVariables false
set_option linter.unusedSimpArgs false
set_option linter.unusedSectionVars false
set_option maxRecDepth 4000
namespace Go.Eng
open Go Go.Proofs Go.IntWalk
def ints : List Value → Option (List (Bool × List UInt8))
  | [] => some []
  | .bool s :: .string ⟨⟨l⟩⟩ :: r => (ints r).map ((s, l) :: ·)
  | _ => none
theorem ints_get : ∀ (zs : List (Bool × List UInt8)) {cells : List Value}, ints cells = some zs → ∀ (i : Nat) s l, zs[i]? = some (s, l) → cells[i * 2]? = some (.bool s) ∧ cells[i * 2 + 1]? = some (.string ⟨⟨l⟩⟩)
  | [], cells, h, i, s, l, hi => by simp at hi
  | z :: zs, cells, h, i, s, l, hi => by
    unfold ints at h
    split at h
    · cases h
    · rename_i s' l' r
      simp only [Option.map_eq_some_iff] at h
      obtain ⟨zs', h1, h2⟩ := h
      cases h2
      cases i with
      | zero => simp at hi; obtain ⟨rfl, rfl⟩ := hi; simp
      | succ i =>
        have := ints_get zs h1 i s l (by simpa using hi)
        have e : (i + 1) * 2 = i * 2 + 2 := by omega
        rw [e]
        simpa using this
    · cases h
def gcds (zs : List (Bool × List UInt8)) : Nat := zs.foldl (fun g z => Nat.gcd g (nl z.2)) 0
def spI2Gcd : List Value → Heap → Option Value
  | [.slice (some ⟨k, 0, none⟩) len _], h => match hget h k with
    | some blk => match ints blk.cells with
      | some zs => if len ≤ zs.length ∧ len ≤ 1000 ∧ (∀ z ∈ zs, z.2.length ≤ 68719476736) then some (.agg ⟨iE (gcds (zs.take len) : Int)⟩) else none
      | none => none
    | none => none
  | _, _ => none
def c49 : ICode :=
  (.seq (.reg [⟨(some 2), none, (.alloc 23 2 [(.bool false), (.string ⟨⟨[]⟩⟩)])⟩])
  (.seq (.reg [⟨(some 3), none, (.mv (.c (.string ⟨⟨[]⟩⟩)))⟩])
  (.seq (.seq (.reg [⟨(some 4), none, (.mv (.c (.int .i64 0)))⟩])
  (.block 0 (.loop (.seq (.seq (.reg [⟨(some 5), none, (.mv (.t 4))⟩, ⟨(some 6), none, (.mv (.t 0))⟩, ⟨(some 7), none, (.lensl (.t 6))⟩, ⟨(some 8), none, (.bin .lss (.t 5) (.t 7))⟩])
  (.cond (.t 8)
  .skip
  (.exit 0)))
  (.seq (.block 1 (.reg [⟨(some 11), none, (.mv (.t 3))⟩, ⟨(some 12), none, (.mv (.t 0))⟩, ⟨(some 13), none, (.mv (.t 4))⟩, ⟨(some 14), none, (.ixsl 2 (.t 12) (.t 13))⟩, ⟨(some 15), none, (.faddr 1 (.t 14))⟩, ⟨(some 16), none, (.load false 1 (.t 15))⟩, ⟨(some 17), none, (.call 93 [(.t 11), (.t 16)])⟩, ⟨(some 3), none, (.mv (.t 17))⟩]))
  (.reg [⟨(some 9), none, (.mv (.t 4))⟩, ⟨(some 10), none, (.bin .add (.t 9) (.c (.int .i64 1)))⟩, ⟨(some 4), none, (.mv (.t 10))⟩]))))))
  (.seq (.reg [⟨(some 18), none, (.mv (.t 3))⟩, ⟨(some 19), none, (.call 90 [(.c (.bool false)), (.t 18)])⟩, ⟨none, none, (.store 2 (.t 2) (.t 19))⟩])
  .ret))))
theorem tr49 : trFun Tryz.prog 49 = some ⟨20, [.cell 2 true 2], c49⟩ := by kernel_rfl
theorem ok_r2Gcd : SpecOK Tryz.prog 49 (rdS spI2Gcd) := by
  refine rd_run (env_cons ok_r2of (env_cons ok_r1Gcd (env_nil _))) mixed tr49 ?_ ?_
  · intro args h h' v hle e
    unfold spI2Gcd at e ⊢
    split at e
    · rename_i k len c
      split at e
      · rename_i blk hb
        simp only [hle _ _ hb]; exact e
      · cases e
    · cases e
  intro args v h N hG hN
  unfold spI2Gcd at hG
  split at hG
  case h_2 => cases hG
  rename_i k len c
  split at hG
  case h_2 => cases hG
  rename_i blk hb
  split at hG
  case h_2 => cases hG
  rename_i zs hz
  split at hG
  case isFalse => cases hG
  rename_i hl
  obtain ⟨hl1, hl2, hl3⟩ := hl
  cases hG
  have hk := hN _ _ hb
  have hne : ¬ (N + 0 = k) := by omega
  refine ⟨rfl, by simp, ?_⟩
  simp only [c49, initT, List.zipIdx_cons, List.zipIdx_nil, List.map_cons, List.map_nil, Nat.reduceAdd]
  simp only [↓R0, R1, rdL, rdH, isCall, istep, ibin, vcells, fillI, setR, flat, okCell, isBase, List.set, List.drop, List.take, List.append, bnds, bhi, blo, srcOf, simprocAttr, -Int.reduceAbs]
  refine lp_parts (fun n tm hp nx => ∃ (i : Nat), n + i = len ∧ tmget tm 0 = .slice (some ⟨k, 0, none⟩) len c ∧ tmget tm 4 = .int .i64 i ∧ tmget tm 3 = .string ⟨⟨bl (gcds (zs.take i))⟩⟩ ∧
      tmget tm 2 = .pointer (some ⟨N + 0, 0, none⟩) ∧ hp = (N + 0, some ⟨23, 2, true, [.bool false, .string ⟨⟨[]⟩⟩]⟩) :: h ∧ (bl (gcds (zs.take i))).length ≤ 68719476736) ?_ len
    ⟨0, by omega, ?_, ?_, ?_, ?_, rfl, ?_⟩
  · intro n tm hp nx ⟨i, hn, t0, t4, t3, t2, hh, hg⟩
    subst hh
    by_cases c1 : i < len
    · obtain ⟨⟨s, l⟩, hi⟩ : ∃ z, zs[i]? = some z := ⟨_, List.getElem?_eq_getElem (by omega)⟩
      obtain ⟨g1, g2⟩ := ints_get zs hz i s l hi
      have hll : l.length ≤ 68719476736 := hl3 (s, l) (List.mem_of_getElem? hi)
      have e1 : IntKind.i64.wrap ((i : Int) + 1) = ((i + 1 : Nat) : Int) := by rw [i64_in _ (by omega)]; omega
      have hgs : gcds (zs.take (i + 1)) = Nat.gcd (gcds (zs.take i)) (nl l) := by
        unfold gcds; rw [List.take_add_one, hi]; simp
      simp only [↓R0, R1, rdL, rdH, isCall, istep, ibin, vcells, fillI, setR, flat, okCell, isBase, List.set, List.drop, List.take, List.append, bnds, bhi, blo, srcOf, simprocAttr, -Int.reduceAbs, t0, t4, t3, t2, c1, hne, hb, g2, e1, spGcd, hg, hll, nl_bl]
      refine ⟨n - 1, by omega, i + 1, by omega, rfl, ?_, ?_⟩
      · rw [hgs]
      · rw [hgs]
        rcases Nat.eq_zero_or_pos (nl l) with e | e
        · rw [e, Nat.gcd_zero_right]; exact hg
        · exact Nat.le_trans (bl_length_mono (Nat.gcd_le_right _ e)) (Nat.le_trans (bl_length_nl l) hll)
    · have ei : i = len := by omega
      subst ei
      have hg2 : (bl (gcds (zs.take i))).length ≤ 1099511627776 := by omega
      have hz2 : sv false (bl (gcds (zs.take i))) = (gcds (zs.take i) : Int) := by rw [sv_false, nl_bl]
      simp only [↓R0, R1, rdL, rdH, isCall, istep, ibin, vcells, fillI, setR, flat, okCell, isBase, List.set, List.drop, List.take, List.append, bnds, bhi, blo, srcOf, simprocAttr, -Int.reduceAbs, t0, t4, t3, t2, c1, spI2of, hg2, hz2, iE, Fin, isEnd, resL, res1]
      refine ⟨_, rfl, rfl, fun k hk => ?_⟩
      simp only [if_neg (show ¬ N + 0 = k by omega)]
  · (first | (simp only [↓R0, R1, rdL, rdH, isCall, istep, ibin, vcells, fillI, setR, flat, okCell, isBase, List.set, List.drop, List.take, List.append, bnds, bhi, blo, srcOf, simprocAttr, -Int.reduceAbs]; done) | (simp only [↓R0, R1, rdL, rdH, isCall, istep, ibin, vcells, fillI, setR, flat, okCell, isBase, List.set, List.drop, List.take, List.append, bnds, bhi, blo, srcOf, simprocAttr, -Int.reduceAbs]; rfl) | rfl)
  · (first | (simp only [↓R0, R1, rdL, rdH, isCall, istep, ibin, vcells, fillI, setR, flat, okCell, isBase, List.set, List.drop, List.take, List.append, bnds, bhi, blo, srcOf, simprocAttr, -Int.reduceAbs]; done) | (simp only [↓R0, R1, rdL, rdH, isCall, istep, ibin, vcells, fillI, setR, flat, okCell, isBase, List.set, List.drop, List.take, List.append, bnds, bhi, blo, srcOf, simprocAttr, -Int.reduceAbs]; rfl) | rfl)
  · (first | (simp only [↓R0, R1, rdL, rdH, isCall, istep, ibin, vcells, fillI, setR, flat, okCell, isBase, List.set, List.drop, List.take, List.append, bnds, bhi, blo, srcOf, simprocAttr, -Int.reduceAbs, gcds, List.foldl_nil, bl_zero]; done) | (simp only [↓R0, R1, rdL, rdH, isCall, istep, ibin, vcells, fillI, setR, flat, okCell, isBase, List.set, List.drop, List.take, List.append, bnds, bhi, blo, srcOf, simprocAttr, -Int.reduceAbs, gcds, List.foldl_nil, bl_zero]; rfl) | rfl)
  · (first | (simp only [↓R0, R1, rdL, rdH, isCall, istep, ibin, vcells, fillI, setR, flat, okCell, isBase, List.set, List.drop, List.take, List.append, bnds, bhi, blo, srcOf, simprocAttr, -Int.reduceAbs]; done) | (simp only [↓R0, R1, rdL, rdH, isCall, istep, ibin, vcells, fillI, setR, flat, okCell, isBase, List.set, List.drop, List.take, List.append, bnds, bhi, blo, srcOf, simprocAttr, -Int.reduceAbs]; rfl) | rfl)
  · simp [gcds, bl_zero]
end Go.Eng
end
section
set_option linter.unusedVariables false
set_option linter.unusedSimpArgs false
set_option linter.unusedSectionVars false
namespace Go.Eng
def rE (q : Rat) : List Value := [.bool (decide (q.num < 0)), .string ⟨⟨bl q.num.natAbs⟩⟩, .string ⟨⟨if q.den = 1 then [] else bl q.den⟩⟩]
def dv (d : List UInt8) : Int := if nl d = 0 then 1 else (nl d : Int)
def rv (s : Bool) (n d : List UInt8) : Rat := Rat.divInt (sv s n) (dv d)
theorem dv_pos (d : List UInt8) : 0 < dv d := by unfold dv; split <;> omega
theorem dv_can (q : Rat) : dv (if q.den = 1 then [] else bl q.den) = (q.den : Int) := by
  unfold dv
  by_cases h : q.den = 1
  · rw [if_pos h]; simp [nl, h]
  · rw [if_neg h, nl_bl, if_neg q.den_nz]
theorem rv_can (q : Rat) : rv (decide (q.num < 0)) (bl q.num.natAbs) (if q.den = 1 then [] else bl q.den) = q := by
  unfold rv; rw [sv_can, dv_can, Rat.num_divInt_den]
theorem divInt_cells {N D : Int} (hD : D ≠ 0) : (Rat.divInt N D).num.natAbs = N.natAbs / Nat.gcd N.natAbs D.natAbs ∧ (Rat.divInt N D).den = D.natAbs / Nat.gcd N.natAbs D.natAbs ∧
    ((Rat.divInt N D).num < 0 ↔ (decide (N < 0) ≠ decide (D < 0) ∧ N ≠ 0)) := by
  have hg : D.gcd N = Nat.gcd N.natAbs D.natAbs := by rw [Int.gcd_comm]; rfl
  have hG : 0 < Nat.gcd N.natAbs D.natAbs := Nat.gcd_pos_of_pos_right _ (by omega)
  rw [Rat.num_divInt, Rat.den_divInt, if_neg hD, hg]
  obtain ⟨k, hk⟩ : ∃ k, N.natAbs = Nat.gcd N.natAbs D.natAbs * k := Nat.gcd_dvd_left _ _
  generalize Nat.gcd N.natAbs D.natAbs = G at *
  have e : D.sign * N = (G : Int) * (D.sign * N.sign * (k : Int)) := by
    have : N = N.sign * (N.natAbs : Int) := by rw [Int.sign_mul_natAbs]
    conv => lhs; rw [this, hk]
    rw [Int.natCast_mul]
    grind
  rw [e, Int.mul_ediv_cancel_left _ (by omega)]
  refine ⟨?_, rfl, ?_⟩
  · rw [Int.natAbs_mul, Int.natAbs_mul, hk, Nat.mul_div_cancel_left _ hG]
    rcases Int.lt_trichotomy N 0 with h | h | h
    · rw [Int.sign_eq_neg_one_of_neg h]
      rcases Int.lt_trichotomy D 0 with h' | h' | h'
      · rw [Int.sign_eq_neg_one_of_neg h']; simp
      · exact absurd h' hD
      · rw [Int.sign_eq_one_of_pos h']; simp
    · subst h
      have : k = 0 := by
        rcases Nat.eq_zero_or_pos k with h | h
        · exact h
        · have := Nat.mul_pos hG h; simp at hk; omega
      subst this; simp
    · rw [Int.sign_eq_one_of_pos h]
      rcases Int.lt_trichotomy D 0 with h' | h' | h'
      · rw [Int.sign_eq_neg_one_of_neg h']; simp
      · exact absurd h' hD
      · rw [Int.sign_eq_one_of_pos h']; simp
  · have hk0 : N ≠ 0 → 0 < k := by
      intro h
      rcases Nat.eq_zero_or_pos k with e | e
      · subst e; simp at hk; omega
      · exact e
    rcases Int.lt_trichotomy N 0 with h | h | h
    · have := hk0 (by omega)
      rw [Int.sign_eq_neg_one_of_neg h]
      rcases Int.lt_trichotomy D 0 with h' | h' | h'
      · rw [Int.sign_eq_neg_one_of_neg h']; simp [h, h']
      · exact absurd h' hD
      · rw [Int.sign_eq_one_of_pos h']; simp [h]; omega
    · subst h; simp
    · have := hk0 (by omega)
      rw [Int.sign_eq_one_of_pos h]
      rcases Int.lt_trichotomy D 0 with h' | h' | h'
      · rw [Int.sign_eq_neg_one_of_neg h']; simp [h']; omega
      · exact absurd h' hD
      · rw [Int.sign_eq_one_of_pos h']; simp; omega
end Go.Eng
end
section
set_option linter.unusedVariables false
set_option linter.unusedSimpArgs false
set_option linter.unusedSectionVars false
set_option maxRecDepth 4000
namespace Go.Eng
open Go Go.Proofs Go.IntWalk
def spOne : List Value → Option Value
  | [] => some (.agg ⟨iE 1⟩)
  | _ => none
def c124 : ICode :=
  (.seq (.reg [⟨(some 0), none, (.alloc 23 2 [(.bool false), (.string ⟨⟨[]⟩⟩)])⟩])
  (.seq (.reg [⟨(some 1), none, (.call 48 [(.c (.int .i64 1))])⟩, ⟨none, none, (.store 2 (.t 0) (.t 1))⟩])
  .ret))
theorem tr124 : trFun Tryz.prog 124 = some ⟨2, [.cell 0 true 2], c124⟩ := by kernel_rfl
theorem ok_r3one : SpecOK Tryz.prog 124 (flat spOne) := by
  refine flat_run (env_cons ok_r2From (env_nil _)) mixed tr124 ?_
  intro args v h N hG
  unfold spOne at hG
  split at hG
  case h_2 => cases hG
  cases hG
  refine ⟨rfl, by simp, ?_⟩
  simp only [c124, initT, List.zipIdx_cons, List.zipIdx_nil, List.map_cons, List.map_nil, Nat.reduceAdd]
  simp only [↓R0, R1, rdL, rdH, isCall, istep, ibin, vcells, fillI, setR, flat, okCell, isBase, List.set, List.drop, List.take, List.append, bnds, bhi, blo, srcOf, simprocAttr, -Int.reduceAbs, spI2From, iE, Fin, isEnd, resL, res1]
  refine ⟨_, rfl, rfl, fun k hk => ?_⟩
  simp only [if_neg (show ¬ N + 0 = k by omega)]
def spAbove : List Value → Option Value
  | [.agg ⟨[.bool s, .string ⟨⟨n⟩⟩, .string ⟨⟨d⟩⟩]⟩] => if n.length ≤ 1099511627776 then some (.agg ⟨iE (sv s n)⟩) else none
  | _ => none
def c85 : ICode :=
  (.seq (.reg [⟨(some 1), none, (.box 47 3 (.t 0))⟩, ⟨(some 2), none, (.alloc 23 2 [(.bool false), (.string ⟨⟨[]⟩⟩)])⟩])
  (.seq (.reg [⟨(some 3), none, (.faddr 0 (.t 1))⟩, ⟨(some 4), none, (.load false 1 (.t 3))⟩, ⟨(some 5), none, (.faddr 1 (.t 1))⟩, ⟨(some 6), none, (.load false 1 (.t 5))⟩, ⟨(some 7), none, (.build [(.bool false), (.string ⟨⟨[]⟩⟩)] [(0, 1, (.t 4)), (1, 1, (.t 6))])⟩, ⟨(some 8), none, (.call 46 [(.t 7)])⟩, ⟨none, none, (.store 2 (.t 2) (.t 8))⟩])
  .ret))
theorem tr85 : trFun Tryz.prog 85 = some ⟨9, [.cell 2 true 2], c85⟩ := by kernel_rfl
theorem ok_r3above : SpecOK Tryz.prog 85 (flat spAbove) := by
  refine flat_run (env_cons ok_r2Norm (env_nil _)) mixed tr85 ?_
  intro args v h N hG
  unfold spAbove at hG
  split at hG
  case h_2 => cases hG
  rename_i s n d
  split at hG
  case isFalse => cases hG
  rename_i hl
  cases hG
  refine ⟨rfl, by simp, ?_⟩
  simp only [c85, initT, List.zipIdx_cons, List.zipIdx_nil, List.map_cons, List.map_nil, Nat.reduceAdd]
  simp only [↓R0, R1, rdL, rdH, isCall, istep, ibin, vcells, fillI, setR, flat, okCell, isBase, List.set, List.drop, List.take, List.append, bnds, bhi, blo, srcOf, simprocAttr, -Int.reduceAbs, spI2Norm, hl, iE, Fin, isEnd, resL, res1]
  refine ⟨_, rfl, rfl, fun k hk => ?_⟩
  simp only [if_neg (show ¬ N + 1 = k by omega), if_neg (show ¬ N + 0 = k by omega)]
def spBelow : List Value → Option Value
  | [.agg ⟨[.bool s, .string ⟨⟨n⟩⟩, .string ⟨⟨d⟩⟩]⟩] => if d.length ≤ 1099511627776 then some (.agg ⟨iE (dv d)⟩) else none
  | _ => none
def c88 : ICode :=
  (.seq (.reg [⟨(some 1), none, (.box 47 3 (.t 0))⟩, ⟨(some 2), none, (.alloc 23 2 [(.bool false), (.string ⟨⟨[]⟩⟩)])⟩])
  (.seq (.reg [⟨(some 4), none, (.faddr 2 (.t 1))⟩, ⟨(some 5), none, (.load false 1 (.t 4))⟩, ⟨(some 6), none, (.build [(.bool false), (.string ⟨⟨[]⟩⟩)] [(1, 1, (.t 5))])⟩, ⟨(some 7), none, (.call 46 [(.t 6)])⟩, ⟨(some 3), none, (.alloc 23 2 [(.bool false), (.string ⟨⟨[]⟩⟩)])⟩, ⟨none, none, (.store 2 (.t 3) (.t 7))⟩])
  (.seq (.seq (.reg [⟨(some 8), none, (.faddr 1 (.t 3))⟩, ⟨(some 9), none, (.load false 1 (.t 8))⟩, ⟨(some 10), none, (.bin .eql (.t 9) (.c (.string ⟨⟨[]⟩⟩)))⟩])
  (.cond (.t 10)
  (.seq (.reg [⟨(some 11), none, (.call 124 [])⟩, ⟨none, none, (.store 2 (.t 2) (.t 11))⟩])
  .ret)
  .skip))
  (.seq (.reg [⟨(some 12), none, (.load true 2 (.t 3))⟩, ⟨none, none, (.store 2 (.t 2) (.t 12))⟩])
  .ret))))
theorem tr88 : trFun Tryz.prog 88 = some ⟨13, [.cell 2 true 2], c88⟩ := by kernel_rfl
theorem ok_r3below : SpecOK Tryz.prog 88 (flat spBelow) := by
  refine flat_run (env_cons ok_r2Norm (env_cons ok_r3one (env_nil _))) mixed tr88 ?_
  intro args v h N hG
  unfold spBelow at hG
  split at hG
  case h_2 => cases hG
  rename_i s n d
  split at hG
  case isFalse => cases hG
  rename_i hl
  cases hG
  refine ⟨rfl, by simp, ?_⟩
  have e0 : (sv false d).natAbs = nl d := sv_natAbs _ _
  by_cases h0 : nl d = 0
  · have e1 : dv d = 1 := by unfold dv; rw [if_pos h0]
    rw [e1]
    simp only [c88, initT, List.zipIdx_cons, List.zipIdx_nil, List.map_cons, List.map_nil, Nat.reduceAdd]
    simp only [↓R0, R1, rdL, rdH, isCall, istep, ibin, vcells, fillI, setR, flat, okCell, isBase, List.set, List.drop, List.take, List.append, bnds, bhi, blo, srcOf, simprocAttr, -Int.reduceAbs, spI2Norm, spOne, hl, iE, bl_eq_nil, e0, h0, Fin, isEnd, resL, res1]
    refine ⟨_, rfl, rfl, fun k hk => ?_⟩
    simp only [if_neg (show ¬ N + 2 = k by omega), if_neg (show ¬ N + 1 = k by omega), if_neg (show ¬ N + 0 = k by omega)]
  · have e1 : dv d = sv false d := by unfold dv; rw [if_neg h0]; rfl
    rw [e1]
    simp only [c88, initT, List.zipIdx_cons, List.zipIdx_nil, List.map_cons, List.map_nil, Nat.reduceAdd]
    simp only [↓R0, R1, rdL, rdH, isCall, istep, ibin, vcells, fillI, setR, flat, okCell, isBase, List.set, List.drop, List.take, List.append, bnds, bhi, blo, srcOf, simprocAttr, -Int.reduceAbs, spI2Norm, spOne, hl, iE, bl_eq_nil, e0, h0, Fin, isEnd, resL, res1]
    refine ⟨_, rfl, ?_, fun k hk => ?_⟩
    · simp only [one, e0]
    · simp only [if_neg (show ¬ N + 2 = k by omega), if_neg (show ¬ N + 1 = k by omega), if_neg (show ¬ N + 0 = k by omega)]
end Go.Eng
end
section
set_option linter.unusedVariables false
set_option linter.unusedSimpArgs false
set_option linter.unusedSectionVars false
set_option maxRecDepth 4000
namespace Go.Eng
open Go Go.Proofs Go.IntWalk
def spR3Make : List Value → Option Value
  | [.agg ⟨[.bool s, .string ⟨⟨l⟩⟩]⟩, .agg ⟨[.bool t, .string ⟨⟨m⟩⟩]⟩] => if l.length ≤ 68719476736 ∧ m.length ≤ 68719476736 then
      (if nl m = 0 then some (.tuple ⟨[.agg ⟨[.bool false, .string ⟨⟨[]⟩⟩, .string ⟨⟨[]⟩⟩]⟩, .bool false]⟩) else
        some (.tuple ⟨[.agg ⟨rE (Rat.divInt (sv s l) (sv t m))⟩, .bool true]⟩)) else none
  | _ => none
def c86 : ICode :=
  (.seq (.reg [⟨(some 2), none, (.box 23 2 (.t 0))⟩, ⟨(some 3), none, (.box 23 2 (.t 1))⟩, ⟨(some 4), none, (.alloc 47 3 [(.bool false), (.string ⟨⟨[]⟩⟩), (.string ⟨⟨[]⟩⟩)])⟩, ⟨(some 5), none, (.mv (.c (.bool false)))⟩])
  (.seq (.dreg [⟨(some 9), none, [], (.load true 2 (.t 2))⟩, ⟨(some 10), none, [], (.call 46 [(.t 9)])⟩, ⟨(some 11), none, [1], (.load true 2 (.t 3))⟩, ⟨(some 12), none, [], (.call 46 [(.t 11)])⟩, ⟨none, none, [], (.store 2 (.t 2) (.t 10))⟩, ⟨none, none, [], (.store 2 (.t 3) (.t 12))⟩])
  (.seq (.seq (.reg [⟨(some 13), none, (.faddr 1 (.t 3))⟩, ⟨(some 14), none, (.load false 1 (.t 13))⟩, ⟨(some 15), none, (.bin .eql (.t 14) (.c (.string ⟨⟨[]⟩⟩)))⟩])
  (.cond (.t 15)
  (.seq (.reg [⟨(some 16), none, (.build [(.bool false), (.string ⟨⟨[]⟩⟩), (.string ⟨⟨[]⟩⟩)] [])⟩, ⟨none, none, (.store 3 (.t 4) (.t 16))⟩, ⟨(some 5), none, (.mv (.c (.bool false)))⟩])
  .ret)
  .skip))
  (.seq (.reg [⟨(some 17), none, (.faddr 0 (.t 2))⟩, ⟨(some 18), none, (.load false 1 (.t 17))⟩, ⟨(some 19), none, (.faddr 0 (.t 3))⟩, ⟨(some 20), none, (.load false 1 (.t 19))⟩, ⟨(some 21), none, (.eqb true (.t 18) (.t 20))⟩, ⟨(some 6), none, (.mv (.t 21))⟩])
  (.seq (.reg [⟨(some 22), none, (.faddr 0 (.t 2))⟩, ⟨none, none, (.store 1 (.t 22) (.c (.bool false)))⟩, ⟨(some 23), none, (.faddr 0 (.t 3))⟩, ⟨none, none, (.store 1 (.t 23) (.c (.bool false)))⟩])
  (.seq (.reg [⟨(some 24), none, (.load true 2 (.t 2))⟩, ⟨(some 25), none, (.load true 2 (.t 3))⟩, ⟨(some 26), none, (.bslice 23 2 2 [(.bool false), (.string ⟨⟨[]⟩⟩), (.bool false), (.string ⟨⟨[]⟩⟩)] [(0, 2, (.t 24)), (2, 2, (.t 25))])⟩, ⟨(some 27), none, (.call 49 [(.t 26)])⟩, ⟨(some 7), none, (.alloc 23 2 [(.bool false), (.string ⟨⟨[]⟩⟩)])⟩, ⟨none, none, (.store 2 (.t 7) (.t 27))⟩])
  (.seq (.reg [⟨(some 29), none, (.load true 2 (.t 2))⟩, ⟨(some 30), none, (.load true 2 (.t 7))⟩, ⟨(some 31), none, (.call 51 [(.t 29), (.t 30)])⟩, ⟨(some 28), none, (.mv (.t 31))⟩, ⟨(some 32), none, (.ext (.t 28) 0)⟩, ⟨(some 33), none, (.ext (.t 28) 1)⟩, ⟨(some 34), none, (.ext (.t 28) 2)⟩, ⟨none, none, (.store 2 (.t 2) (.t 32))⟩])
  (.seq (.reg [⟨(some 36), none, (.load true 2 (.t 3))⟩, ⟨(some 37), none, (.load true 2 (.t 7))⟩, ⟨(some 38), none, (.call 51 [(.t 36), (.t 37)])⟩, ⟨(some 35), none, (.mv (.t 38))⟩, ⟨(some 39), none, (.ext (.t 35) 0)⟩, ⟨(some 40), none, (.ext (.t 35) 1)⟩, ⟨(some 41), none, (.ext (.t 35) 2)⟩, ⟨none, none, (.store 2 (.t 3) (.t 39))⟩])
  (.seq (.reg [⟨(some 42), none, (.mv (.t 6))⟩, ⟨(some 43), none, (.faddr 1 (.t 2))⟩, ⟨(some 44), none, (.load false 1 (.t 43))⟩, ⟨(some 45), none, (.faddr 1 (.t 3))⟩, ⟨(some 46), none, (.load false 1 (.t 45))⟩, ⟨(some 47), none, (.build [(.bool false), (.string ⟨⟨[]⟩⟩), (.string ⟨⟨[]⟩⟩)] [(0, 1, (.t 42)), (1, 1, (.t 44)), (2, 1, (.t 46))])⟩, ⟨(some 8), none, (.alloc 47 3 [(.bool false), (.string ⟨⟨[]⟩⟩), (.string ⟨⟨[]⟩⟩)])⟩, ⟨none, none, (.store 3 (.t 8) (.t 47))⟩])
  (.seq (.seq (.reg [⟨(some 48), none, (.faddr 1 (.t 8))⟩, ⟨(some 49), none, (.load false 1 (.t 48))⟩, ⟨(some 50), none, (.bin .eql (.t 49) (.c (.string ⟨⟨[]⟩⟩)))⟩])
  (.cond (.t 50)
  (.reg [⟨(some 51), none, (.faddr 0 (.t 8))⟩, ⟨none, none, (.store 1 (.t 51) (.c (.bool false)))⟩])
  .skip))
  (.seq (.seq (.dreg [⟨(some 52), none, [], (.load true 2 (.t 3))⟩, ⟨(some 53), none, [], (.call 124 [])⟩, ⟨(some 54), none, [], (.eqa false [.b, .s] (.t 52) (.t 53))⟩])
  (.cond (.t 54)
  (.reg [⟨(some 55), none, (.faddr 2 (.t 8))⟩, ⟨none, none, (.store 1 (.t 55) (.c (.string ⟨⟨[]⟩⟩)))⟩])
  .skip))
  (.seq (.reg [⟨(some 56), none, (.load true 3 (.t 8))⟩, ⟨none, none, (.store 3 (.t 4) (.t 56))⟩, ⟨(some 5), none, (.mv (.c (.bool true)))⟩])
  .ret))))))))))))
theorem tr86 : trFun Tryz.prog 86 = some ⟨57, [.cell 4 true 3, .t 5], c86⟩ := by kernel_rfl
theorem ok_r3Make : SpecOK Tryz.prog 86 (flat spR3Make) := by
  refine flat_run (env_cons ok_r2Norm (env_cons ok_r2Gcd (env_cons ok_r2Div (env_cons ok_r3one (env_nil _))))) mixed tr86 ?_
  intro args v h N hG
  unfold spR3Make at hG
  split at hG
  case h_2 => cases hG
  rename_i s l t m
  split at hG
  case isFalse => cases hG
  rename_i hl
  obtain ⟨hl, hm⟩ := hl
  have l2 : l.length ≤ 1099511627776 := by omega
  have m2 : m.length ≤ 1099511627776 := by omega
  have aN : (sv s l).natAbs = nl l := sv_natAbs _ _
  have aD : (sv t m).natAbs = nl m := sv_natAbs _ _
  split at hG
  · rename_i h0
    cases hG
    refine ⟨rfl, by simp, ?_⟩
    simp only [c86, initT, List.zipIdx_cons, List.zipIdx_nil, List.map_cons, List.map_nil, Nat.reduceAdd]
    simp only [↓R0, R1, rdL, rdH, isCall, istep, ibin, vcells, fillI, setR, flat, okCell, isBase, List.set, List.drop, List.take, List.append, bnds, bhi, blo, srcOf, simprocAttr, -Int.reduceAbs, spI2Norm, l2, m2, iE, bl_eq_nil, aD, h0, Fin, isEnd, resL, res1]
    refine ⟨_, rfl, rfl, fun k hk => ?_⟩
    simp only [if_neg (show ¬ N + 2 = k by omega), if_neg (show ¬ N + 1 = k by omega), if_neg (show ¬ N + 0 = k by omega)]
  rename_i h0
  cases hG
  refine ⟨rfl, by simp, ?_⟩
  have hD : sv t m ≠ 0 := fun e => h0 ((sv_eq_zero t m).1 e)
  obtain ⟨d1, d2, d3⟩ := divInt_cells (N := sv s l) hD
  rw [aN, aD] at d1 d2
  have lN : (bl (nl l)).length ≤ 68719476736 := Nat.le_trans (bl_length_nl l) hl
  have lD : (bl (nl m)).length ≤ 68719476736 := Nat.le_trans (bl_length_nl m) hm
  have hst : decide ((Rat.divInt (sv s l) (sv t m)).num < 0) = (decide (decide (sv s l < 0) ≠ decide (sv t m < 0)) && decide (nl l ≠ 0)) := by
    rw [Bool.eq_iff_iff]
    simp only [decide_eq_true_eq, Bool.and_eq_true, d3, ne_eq, sv_eq_zero]
  have hG0 : 0 < (nl l).gcd (nl m) := Nat.gcd_pos_of_pos_right _ (by omega)
  have lG : (bl ((nl l).gcd (nl m))).length ≤ 68719476736 := Nat.le_trans (bl_length_mono (Nat.gcd_le_right _ (by omega))) lD
  have hL0 : nl l / (nl l).gcd (nl m) = 0 ↔ nl l = 0 := by
    obtain ⟨k, hk⟩ := Nat.gcd_dvd_left (nl l) (nl m)
    generalize (nl l).gcd (nl m) = G at *
    constructor
    · intro e
      rw [hk, Nat.mul_div_cancel_left _ hG0] at e
      rw [hk, e]; simp
    · intro e; rw [e]; simp
  unfold rE
  rw [hst, d1, d2]
  clear hst d1 d2 d3
  generalize hGG : (nl l).gcd (nl m) = G at *
  have f1 : ¬ ((G : Int) < 0) := by omega
  have f2 : ¬ (G = 0) := by omega
  have f3 : sv false (bl (nl l)) = (nl l : Int) := by rw [sv_false, nl_bl]
  have f4 : sv false (bl (nl m)) = (nl m : Int) := by rw [sv_false, nl_bl]
  have f5 : sv false (bl G) = (G : Int) := by rw [sv_false, nl_bl]
  have f6 : (nl l : Int) / (G : Int) = ((nl l / G : Nat) : Int) := by simp
  have f7 : (nl m : Int) / (G : Int) = ((nl m / G : Nat) : Int) := by simp
  have f8 : ¬ (((nl l / G : Nat) : Int) < 0) := Int.not_lt.2 (Int.natCast_nonneg _)
  have f9 : ¬ (((nl m / G : Nat) : Int) < 0) := Int.not_lt.2 (Int.natCast_nonneg _)
  have f10 : (bl (nl m / G) = bl (Int.natAbs 1)) = (nl m / G = 1) := propext ⟨fun e => bl_inj e, fun e => by rw [e]; rfl⟩
  simp only [c86, initT, List.zipIdx_cons, List.zipIdx_nil, List.map_cons, List.map_nil, Nat.reduceAdd]
  simp only [↓R0, R1, rdL, rdH, isCall, istep, ibin, vcells, fillI, setR, flat, okCell, isBase, List.set, List.drop, List.take, List.append, bnds, bhi, blo, srcOf, simprocAttr, -Int.reduceAbs, spI2Norm, l2, m2, iE, bl_eq_nil, aN, aD, h0, rdS, spI2Gcd, ints, gcds, List.foldl_cons, List.foldl_nil, Nat.gcd_zero_left, nl_bl, List.forall_mem_cons, lN, lD, List.not_mem_nil, false_implies, implies_true, hGG, f1, f2, f3, f4, f5, f6, f7, f8, f9, lG, Int.natAbs_natCast, spI2Div, spOne, ceq, f10]
  have f11 : (bl 1 = bl (Int.natAbs 1)) = True := eq_true rfl
  have nb : ∀ k, k < N → ¬ N + 7 = k ∧ ¬ N + 6 = k ∧ ¬ N + 5 = k ∧ ¬ N + 4 = k ∧ ¬ N + 3 = k ∧ ¬ N + 2 = k ∧ ¬ N + 1 = k ∧ ¬ N + 0 = k := fun k hk => by omega
  by_cases c1 : nl l / G = 0
  · have c2 : nl l = 0 := hL0.1 c1
    by_cases c3 : nl m / G = 1
    · simp only [↓R0, R1, rdL, rdH, isCall, istep, ibin, vcells, fillI, setR, flat, okCell, isBase, List.set, List.drop, List.take, List.append, bnds, bhi, blo, srcOf, simprocAttr, -Int.reduceAbs, c1, c3, f11, spOne, iE, ceq, f10, Option.map_some, Bool.true_and, Bool.and_true, Fin, isEnd, resL, res1]
      refine ⟨_, rfl, ?_, fun k hk => ?_⟩
      · simp [one, c2, c3]
      · simp only [nb k hk, if_false]
    · simp only [↓R0, R1, rdL, rdH, isCall, istep, ibin, vcells, fillI, setR, flat, okCell, isBase, List.set, List.drop, List.take, List.append, bnds, bhi, blo, srcOf, simprocAttr, -Int.reduceAbs, c1, c3, f11, spOne, iE, ceq, f10, Option.map_some, Bool.true_and, Bool.and_true, Fin, isEnd, resL, res1]
      refine ⟨_, rfl, ?_, fun k hk => ?_⟩
      · simp [one, c2, c3]
      · simp only [nb k hk, if_false]
  · have c2 : ¬ nl l = 0 := fun e => c1 (hL0.2 e)
    by_cases c3 : nl m / G = 1
    · simp only [↓R0, R1, rdL, rdH, isCall, istep, ibin, vcells, fillI, setR, flat, okCell, isBase, List.set, List.drop, List.take, List.append, bnds, bhi, blo, srcOf, simprocAttr, -Int.reduceAbs, c1, c3, f11, spOne, iE, ceq, f10, Option.map_some, Bool.true_and, Bool.and_true, Fin, isEnd, resL, res1]
      refine ⟨_, rfl, ?_, fun k hk => ?_⟩
      · simp [one, c2, c3]
      · simp only [nb k hk, if_false]
    · simp only [↓R0, R1, rdL, rdH, isCall, istep, ibin, vcells, fillI, setR, flat, okCell, isBase, List.set, List.drop, List.take, List.append, bnds, bhi, blo, srcOf, simprocAttr, -Int.reduceAbs, c1, c3, f11, spOne, iE, ceq, f10, Option.map_some, Bool.true_and, Bool.and_true, Fin, isEnd, resL, res1]
      refine ⟨_, rfl, ?_, fun k hk => ?_⟩
      · simp [one, c2, c3]
      · simp only [nb k hk, if_false]
end Go.Eng
end
section
set_option linter.unusedVariables false
set_option linter.unusedSimpArgs false
set_option linter.unusedSectionVars false
set_option maxRecDepth 4000
namespace Go.Eng
open Go Go.Proofs Go.IntWalk
def spR3Norm : List Value → Option Value
  | [.agg ⟨[.bool s, .string ⟨⟨n⟩⟩, .string ⟨⟨d⟩⟩]⟩] => if n.length ≤ 34359738368 ∧ d.length ≤ 34359738368 then some (.agg ⟨rE (rv s n d)⟩) else none
  | _ => none
theorem bl_dv (d : List UInt8) : (bl (dv d).natAbs).length ≤ d.length + 1 := by
  unfold dv
  split
  · exact Nat.le_trans (bl_length_le (k := 1).2 (by decide)) (by omega)
  · exact Nat.le_trans (bl_length_nl d) (by omega)
theorem dv_nl (d : List UInt8) : ¬ (dv d).natAbs = 0 := by have := dv_pos d; omega
def c126 : ICode :=
  (.seq (.reg [⟨(some 1), none, (.box 47 3 (.t 0))⟩, ⟨(some 2), none, (.alloc 47 3 [(.bool false), (.string ⟨⟨[]⟩⟩), (.string ⟨⟨[]⟩⟩)])⟩])
  (.seq (.dreg [⟨(some 6), none, [], (.load true 3 (.t 1))⟩, ⟨(some 7), none, [], (.call 85 [(.t 6)])⟩, ⟨(some 8), none, [1], (.load true 3 (.t 1))⟩, ⟨(some 9), none, [], (.call 88 [(.t 8)])⟩, ⟨(some 10), none, [], (.call 86 [(.t 7), (.t 9)])⟩, ⟨(some 5), none, [], (.mv (.t 10))⟩, ⟨(some 11), none, [], (.ext (.t 5) 0)⟩, ⟨(some 12), none, [], (.ext (.t 5) 1)⟩, ⟨(some 3), none, [], (.alloc 47 3 [(.bool false), (.string ⟨⟨[]⟩⟩), (.string ⟨⟨[]⟩⟩)])⟩, ⟨none, none, [], (.store 3 (.t 3) (.t 11))⟩, ⟨(some 4), none, [], (.mv (.t 12))⟩])
  (.seq (.reg [⟨(some 13), none, (.load true 3 (.t 3))⟩, ⟨none, none, (.store 3 (.t 2) (.t 13))⟩])
  .ret)))
theorem tr126 : trFun Tryz.prog 126 = some ⟨14, [.cell 2 true 3], c126⟩ := by kernel_rfl
theorem ok_r3Norm : SpecOK Tryz.prog 126 (flat spR3Norm) := by
  refine flat_run (env_cons ok_r3above (env_cons ok_r3below (env_cons ok_r3Make (env_nil _)))) mixed tr126 ?_
  intro args v h N hG
  unfold spR3Norm at hG
  split at hG
  case h_2 => cases hG
  rename_i s n d
  split at hG
  case isFalse => cases hG
  rename_i hl
  cases hG
  refine ⟨rfl, by simp, ?_⟩
  have n2 : n.length ≤ 1099511627776 := by omega
  have d2 : d.length ≤ 1099511627776 := by omega
  have n3 : (bl (sv s n).natAbs).length ≤ 68719476736 := by rw [sv_natAbs]; exact Nat.le_trans (bl_length_nl n) (by omega)
  have d3 : (bl (dv d).natAbs).length ≤ 68719476736 := Nat.le_trans (bl_dv d) (by omega)
  have d4 := dv_nl d
  unfold rv
  simp only [c126, initT, List.zipIdx_cons, List.zipIdx_nil, List.map_cons, List.map_nil, Nat.reduceAdd]
  simp only [↓R0, R1, rdL, rdH, isCall, istep, ibin, vcells, fillI, setR, flat, okCell, isBase, List.set, List.drop, List.take, List.append, bnds, bhi, blo, srcOf, simprocAttr, -Int.reduceAbs, spAbove, spBelow, spR3Make, n2, d2, n3, d3, d4, nl_bl, iE, rE, Fin, isEnd, resL, res1]
  exact ⟨_, rfl, rfl, fun k hk => by simp only [ne_nb hk, if_false]⟩
end Go.Eng
end
section
set_option linter.unusedVariables false
set_option linter.unusedSimpArgs false
set_option linter.unusedSectionVars false
set_option maxRecDepth 4000
namespace Go.Eng
open Go Go.Proofs Go.IntWalk
def spR3Sign : List Value → Option Value
  | [.agg ⟨[.bool s, .string ⟨⟨n⟩⟩, .string ⟨⟨d⟩⟩]⟩] => if n.length ≤ 34359738368 ∧ d.length ≤ 34359738368 then some (.int .i64 (sv s n).sign) else none
  | _ => none
def c41 : ICode :=
  (.seq (.reg [⟨(some 1), none, (.box 47 3 (.t 0))⟩, ⟨(some 2), none, (.mv (.c (.int .i64 0)))⟩])
  (.seq (.reg [⟨(some 3), none, (.load true 3 (.t 1))⟩, ⟨(some 4), none, (.call 85 [(.t 3)])⟩, ⟨(some 5), none, (.call 47 [(.t 4)])⟩, ⟨(some 2), none, (.mv (.t 5))⟩])
  .ret))
theorem tr41 : trFun Tryz.prog 41 = some ⟨6, [.t 2], c41⟩ := by kernel_rfl
theorem ok_r3Sign : SpecOK Tryz.prog 41 (flat spR3Sign) := by
  refine flat_run (env_cons ok_r3above (env_cons ok_r2Sign (env_nil _))) mixed tr41 ?_
  intro args v h N hG
  unfold spR3Sign at hG
  split at hG
  case h_2 => cases hG
  rename_i s n d
  split at hG
  case isFalse => cases hG
  rename_i hl
  cases hG
  refine ⟨rfl, by simp, ?_⟩
  have n2 : n.length ≤ 1099511627776 := by omega
  have n3 : (bl (sv s n).natAbs).length ≤ 1099511627776 := by rw [sv_natAbs]; exact Nat.le_trans (bl_length_nl n) (by omega)
  simp only [c41, initT, List.zipIdx_cons, List.zipIdx_nil, List.map_cons, List.map_nil, Nat.reduceAdd]
  simp only [↓R0, R1, rdL, rdH, isCall, istep, ibin, vcells, fillI, setR, flat, okCell, isBase, List.set, List.drop, List.take, List.append, bnds, bhi, blo, srcOf, simprocAttr, -Int.reduceAbs, spAbove, spI2Sign, n2, n3, Fin, isEnd, resL, res1, iE, rE]
  exact ⟨_, rfl, rfl, fun k hk => by simp only [ne_nb hk, if_false]⟩
def spR3Neg : List Value → Option Value
  | [.agg ⟨[.bool s, .string ⟨⟨n⟩⟩, .string ⟨⟨d⟩⟩]⟩] => if n.length ≤ 34359738368 ∧ d.length ≤ 34359738368 then some (.agg ⟨rE (- rv s n d)⟩) else none
  | _ => none
def c98 : ICode :=
  (.seq (.reg [⟨(some 1), none, (.box 47 3 (.t 0))⟩, ⟨(some 2), none, (.alloc 47 3 [(.bool false), (.string ⟨⟨[]⟩⟩), (.string ⟨⟨[]⟩⟩)])⟩])
  (.seq (.dreg [⟨(some 6), none, [], (.load true 3 (.t 1))⟩, ⟨(some 7), none, [], (.call 85 [(.t 6)])⟩, ⟨(some 8), none, [], (.call 50 [(.t 7)])⟩, ⟨(some 9), none, [1, 2], (.load true 3 (.t 1))⟩, ⟨(some 10), none, [], (.call 88 [(.t 9)])⟩, ⟨(some 11), none, [], (.call 86 [(.t 8), (.t 10)])⟩, ⟨(some 5), none, [], (.mv (.t 11))⟩, ⟨(some 12), none, [], (.ext (.t 5) 0)⟩, ⟨(some 13), none, [], (.ext (.t 5) 1)⟩, ⟨(some 3), none, [], (.alloc 47 3 [(.bool false), (.string ⟨⟨[]⟩⟩), (.string ⟨⟨[]⟩⟩)])⟩, ⟨none, none, [], (.store 3 (.t 3) (.t 12))⟩, ⟨(some 4), none, [], (.mv (.t 13))⟩])
  (.seq (.reg [⟨(some 14), none, (.load true 3 (.t 3))⟩, ⟨none, none, (.store 3 (.t 2) (.t 14))⟩])
  .ret)))
theorem tr98 : trFun Tryz.prog 98 = some ⟨15, [.cell 2 true 3], c98⟩ := by kernel_rfl
theorem ok_r3Neg : SpecOK Tryz.prog 98 (flat spR3Neg) := by
  refine flat_run (env_cons ok_r3above (env_cons ok_r3below (env_cons ok_r3Make (env_cons ok_r2Neg (env_nil _))))) mixed tr98 ?_
  intro args v h N hG
  unfold spR3Neg at hG
  split at hG
  case h_2 => cases hG
  rename_i s n d
  split at hG
  case isFalse => cases hG
  rename_i hl
  cases hG
  refine ⟨rfl, by simp, ?_⟩
  have n2 : n.length ≤ 1099511627776 := by omega
  have d2 : d.length ≤ 1099511627776 := by omega
  have n3 : (bl (sv s n).natAbs).length ≤ 1099511627776 := by rw [sv_natAbs]; exact Nat.le_trans (bl_length_nl n) (by omega)
  have n4 : (bl (-sv s n).natAbs).length ≤ 68719476736 := by rw [Int.natAbs_neg, sv_natAbs]; exact Nat.le_trans (bl_length_nl n) (by omega)
  have d3 : (bl (dv d).natAbs).length ≤ 68719476736 := Nat.le_trans (bl_dv d) (by omega)
  have d4 := dv_nl d
  unfold rv
  rw [Rat.neg_divInt]
  simp only [c98, initT, List.zipIdx_cons, List.zipIdx_nil, List.map_cons, List.map_nil, Nat.reduceAdd]
  simp only [↓R0, R1, rdL, rdH, isCall, istep, ibin, vcells, fillI, setR, flat, okCell, isBase, List.set, List.drop, List.take, List.append, bnds, bhi, blo, srcOf, simprocAttr, -Int.reduceAbs, spAbove, spBelow, spR3Make, spI2Neg, n2, d2, n3, n4, d3, d4, nl_bl, Fin, isEnd, resL, res1, iE, rE]
  exact ⟨_, rfl, rfl, fun k hk => by simp only [ne_nb hk, if_false]⟩
theorem len_mul {a b : Int} {j k : Nat} (ha : (bl a.natAbs).length ≤ j) (hb : (bl b.natAbs).length ≤ k) : (bl (a * b).natAbs).length ≤ j + k := by
  rw [Int.natAbs_mul]; exact Nat.le_trans (bl_length_mul _ _) (by omega)
theorem len_add {a b : Int} {k : Nat} (ha : (bl a.natAbs).length ≤ k) (hb : (bl b.natAbs).length ≤ k) : (bl (a + b).natAbs).length ≤ k + 1 :=
  Nat.le_trans (bl_length_mono (Int.natAbs_add_le a b)) (bl_length_add ha hb)
theorem len_sv {s : Bool} {n : List UInt8} {k : Nat} (h : n.length ≤ k) : (bl (sv s n).natAbs).length ≤ k := by rw [sv_natAbs]; exact Nat.le_trans (bl_length_nl n) h
theorem len_dv {d : List UInt8} {k : Nat} (h : d.length + 1 ≤ k) : (bl (dv d).natAbs).length ≤ k := Nat.le_trans (bl_dv d) h
def spR3Mul : List Value → Option Value
  | [.agg ⟨[.bool s, .string ⟨⟨n⟩⟩, .string ⟨⟨d⟩⟩]⟩, .agg ⟨[.bool t, .string ⟨⟨m⟩⟩, .string ⟨⟨e⟩⟩]⟩] => if n.length ≤ 8589934592 ∧ d.length ≤ 8589934592 ∧ m.length ≤ 8589934592 ∧ e.length ≤ 8589934592 then some (.agg ⟨rE (rv s n d * rv t m e)⟩) else none
  | _ => none
def c84 : ICode :=
  (.seq (.reg [⟨(some 2), none, (.box 47 3 (.t 0))⟩, ⟨(some 3), none, (.box 47 3 (.t 1))⟩, ⟨(some 4), none, (.alloc 47 3 [(.bool false), (.string ⟨⟨[]⟩⟩), (.string ⟨⟨[]⟩⟩)])⟩])
  (.seq (.dreg [⟨(some 8), none, [], (.load true 3 (.t 2))⟩, ⟨(some 9), none, [], (.call 85 [(.t 8)])⟩, ⟨(some 10), none, [1], (.load true 3 (.t 3))⟩, ⟨(some 11), none, [], (.call 85 [(.t 10)])⟩, ⟨(some 12), none, [], (.call 87 [(.t 9), (.t 11)])⟩, ⟨(some 13), none, [1, 3, 4], (.load true 3 (.t 2))⟩, ⟨(some 14), none, [], (.call 88 [(.t 13)])⟩, ⟨(some 15), none, [1, 3, 4, 6], (.load true 3 (.t 3))⟩, ⟨(some 16), none, [], (.call 88 [(.t 15)])⟩, ⟨(some 17), none, [], (.call 87 [(.t 14), (.t 16)])⟩, ⟨(some 18), none, [], (.call 86 [(.t 12), (.t 17)])⟩, ⟨(some 7), none, [], (.mv (.t 18))⟩, ⟨(some 19), none, [], (.ext (.t 7) 0)⟩, ⟨(some 20), none, [], (.ext (.t 7) 1)⟩, ⟨(some 5), none, [], (.alloc 47 3 [(.bool false), (.string ⟨⟨[]⟩⟩), (.string ⟨⟨[]⟩⟩)])⟩, ⟨none, none, [], (.store 3 (.t 5) (.t 19))⟩, ⟨(some 6), none, [], (.mv (.t 20))⟩])
  (.seq (.reg [⟨(some 21), none, (.load true 3 (.t 5))⟩, ⟨none, none, (.store 3 (.t 4) (.t 21))⟩])
  .ret)))
theorem tr84 : trFun Tryz.prog 84 = some ⟨22, [.cell 4 true 3], c84⟩ := by kernel_rfl
theorem ok_r3Mul : SpecOK Tryz.prog 84 (flat spR3Mul) := by
  refine flat_run (env_cons ok_r3above (env_cons ok_r3below (env_cons ok_r3Make (env_cons ok_r2Mul (env_nil _))))) mixed tr84 ?_
  intro args v h N hG
  unfold spR3Mul at hG
  split at hG
  case h_2 => cases hG
  rename_i s n d t m e
  split at hG
  case isFalse => cases hG
  rename_i hl
  obtain ⟨h1, h2, h3, h4⟩ := hl
  cases hG
  refine ⟨rfl, by simp, ?_⟩
  have n2 : n.length ≤ 1099511627776 := by omega
  have d2 : d.length ≤ 1099511627776 := by omega
  have m2 : m.length ≤ 1099511627776 := by omega
  have e2 : e.length ≤ 1099511627776 := by omega
  have n3 := len_sv (s := s) h1
  have m3 := len_sv (s := t) h3
  have d3 : (bl (dv d).natAbs).length ≤ 8589934593 := len_dv (by omega)
  have e3 : (bl (dv e).natAbs).length ≤ 8589934593 := len_dv (by omega)
  have p1 : (bl (sv s n).natAbs).length + (bl (sv t m).natAbs).length ≤ 274877906944 := by omega
  have p2 : (bl (dv d).natAbs).length + (bl (dv e).natAbs).length ≤ 274877906944 := by omega
  have q1 : (bl (sv s n * sv t m).natAbs).length ≤ 68719476736 := Nat.le_trans (len_mul n3 m3) (by omega)
  have q2 : (bl (dv d * dv e).natAbs).length ≤ 68719476736 := Nat.le_trans (len_mul d3 e3) (by omega)
  have q3 : ¬ (dv d * dv e).natAbs = 0 := by have := Int.mul_pos (dv_pos d) (dv_pos e); omega
  unfold rv
  rw [Rat.divInt_mul_divInt]
  simp only [c84, initT, List.zipIdx_cons, List.zipIdx_nil, List.map_cons, List.map_nil, Nat.reduceAdd]
  simp only [↓R0, R1, rdL, rdH, isCall, istep, ibin, vcells, fillI, setR, flat, okCell, isBase, List.set, List.drop, List.take, List.append, bnds, bhi, blo, srcOf, simprocAttr, -Int.reduceAbs, spAbove, spBelow, spR3Make, spI2Mul, n2, d2, m2, e2, p1, p2, q1, q2, q3, nl_bl, Fin, isEnd, resL, res1, iE, rE]
  exact ⟨_, rfl, rfl, fun k hk => by simp only [ne_nb hk, if_false]⟩
end Go.Eng
end
section
set_option linter.unusedVariables false
set_option linter.unusedSimpArgs false
set_option linter.unusedSectionVars false
set_option maxRecDepth 4000
namespace Go.Eng
open Go Go.Proofs Go.IntWalk
def spR3Add : List Value → Option Value
  | [.agg ⟨[.bool s, .string ⟨⟨n⟩⟩, .string ⟨⟨d⟩⟩]⟩, .agg ⟨[.bool t, .string ⟨⟨m⟩⟩, .string ⟨⟨e⟩⟩]⟩] => if n.length ≤ 8589934592 ∧ d.length ≤ 8589934592 ∧ m.length ≤ 8589934592 ∧ e.length ≤ 8589934592 then some (.agg ⟨rE (rv s n d + rv t m e)⟩) else none
  | _ => none
def c83 : ICode :=
  (.seq (.reg [⟨(some 2), none, (.box 47 3 (.t 0))⟩, ⟨(some 3), none, (.box 47 3 (.t 1))⟩, ⟨(some 4), none, (.alloc 47 3 [(.bool false), (.string ⟨⟨[]⟩⟩), (.string ⟨⟨[]⟩⟩)])⟩])
  (.seq (.dreg [⟨(some 8), none, [], (.load true 3 (.t 2))⟩, ⟨(some 9), none, [], (.call 85 [(.t 8)])⟩, ⟨(some 10), none, [1], (.load true 3 (.t 3))⟩, ⟨(some 11), none, [], (.call 88 [(.t 10)])⟩, ⟨(some 12), none, [], (.call 87 [(.t 9), (.t 11)])⟩, ⟨(some 13), none, [1, 3, 4], (.load true 3 (.t 3))⟩, ⟨(some 14), none, [], (.call 85 [(.t 13)])⟩, ⟨(some 15), none, [1, 3, 4, 6], (.load true 3 (.t 2))⟩, ⟨(some 16), none, [], (.call 88 [(.t 15)])⟩, ⟨(some 17), none, [], (.call 87 [(.t 14), (.t 16)])⟩, ⟨(some 18), none, [], (.call 95 [(.t 12), (.t 17)])⟩, ⟨(some 19), none, [1, 3, 4, 6, 8, 9, 10], (.load true 3 (.t 2))⟩, ⟨(some 20), none, [], (.call 88 [(.t 19)])⟩, ⟨(some 21), none, [1, 3, 4, 6, 8, 9, 10, 12], (.load true 3 (.t 3))⟩, ⟨(some 22), none, [], (.call 88 [(.t 21)])⟩, ⟨(some 23), none, [], (.call 87 [(.t 20), (.t 22)])⟩, ⟨(some 24), none, [], (.call 86 [(.t 18), (.t 23)])⟩, ⟨(some 7), none, [], (.mv (.t 24))⟩, ⟨(some 25), none, [], (.ext (.t 7) 0)⟩, ⟨(some 26), none, [], (.ext (.t 7) 1)⟩, ⟨(some 5), none, [], (.alloc 47 3 [(.bool false), (.string ⟨⟨[]⟩⟩), (.string ⟨⟨[]⟩⟩)])⟩, ⟨none, none, [], (.store 3 (.t 5) (.t 25))⟩, ⟨(some 6), none, [], (.mv (.t 26))⟩])
  (.seq (.reg [⟨(some 27), none, (.load true 3 (.t 5))⟩, ⟨none, none, (.store 3 (.t 4) (.t 27))⟩])
  .ret)))
theorem tr83 : trFun Tryz.prog 83 = some ⟨28, [.cell 4 true 3], c83⟩ := by kernel_rfl
theorem ok_r3Add : SpecOK Tryz.prog 83 (flat spR3Add) := by
  refine flat_run (env_cons ok_r3above (env_cons ok_r3below (env_cons ok_r3Make (env_cons ok_r2Mul (env_cons ok_r2Add (env_nil _)))))) mixed tr83 ?_
  intro args v h N hG
  unfold spR3Add at hG
  split at hG
  case h_2 => cases hG
  rename_i s n d t m e
  split at hG
  case isFalse => cases hG
  rename_i hl
  obtain ⟨h1, h2, h3, h4⟩ := hl
  cases hG
  refine ⟨rfl, by simp, ?_⟩
  have n2 : n.length ≤ 1099511627776 := by omega
  have d2 : d.length ≤ 1099511627776 := by omega
  have m2 : m.length ≤ 1099511627776 := by omega
  have e2 : e.length ≤ 1099511627776 := by omega
  have n3 := len_sv (s := s) h1
  have m3 := len_sv (s := t) h3
  have d3 : (bl (dv d).natAbs).length ≤ 8589934593 := len_dv (by omega)
  have e3 : (bl (dv e).natAbs).length ≤ 8589934593 := len_dv (by omega)
  have p1 : (bl (sv s n).natAbs).length + (bl (dv e).natAbs).length ≤ 274877906944 := by omega
  have p2 : (bl (sv t m).natAbs).length + (bl (dv d).natAbs).length ≤ 274877906944 := by omega
  have p3 : (bl (dv d).natAbs).length + (bl (dv e).natAbs).length ≤ 274877906944 := by omega
  have q1 := len_mul n3 e3
  have q2 := len_mul m3 d3
  have q3 : (bl (dv d * dv e).natAbs).length ≤ 68719476736 := Nat.le_trans (len_mul d3 e3) (by omega)
  have q4 : ¬ (dv d * dv e).natAbs = 0 := by have := Int.mul_pos (dv_pos d) (dv_pos e); omega
  have q5 : (bl (sv s n * dv e + sv t m * dv d).natAbs).length ≤ 68719476736 := Nat.le_trans (len_add q1 q2) (by omega)
  have q6 : (bl (sv s n * dv e).natAbs).length ≤ 549755813888 := Nat.le_trans q1 (by omega)
  have q7 : (bl (sv t m * dv d).natAbs).length ≤ 549755813888 := Nat.le_trans q2 (by omega)
  unfold rv
  rw [Rat.divInt_add_divInt _ _ (by have := dv_pos d; omega) (by have := dv_pos e; omega)]
  simp only [c83, initT, List.zipIdx_cons, List.zipIdx_nil, List.map_cons, List.map_nil, Nat.reduceAdd]
  simp only [↓R0, R1, rdL, rdH, isCall, istep, ibin, vcells, fillI, setR, flat, okCell, isBase, List.set, List.drop, List.take, List.append, bnds, bhi, blo, srcOf, simprocAttr, -Int.reduceAbs, spAbove, spBelow, spR3Make, spI2Mul, spI2Add, n2, d2, m2, e2, p1, p2, p3, q3, q4, q5, q6, q7, nl_bl, Fin, isEnd, resL, res1, iE, rE]
  exact ⟨_, rfl, rfl, fun k hk => by simp only [ne_nb hk, if_false]⟩
def spR3Div : List Value → Option Value
  | [.agg ⟨[.bool s, .string ⟨⟨n⟩⟩, .string ⟨⟨d⟩⟩]⟩, .agg ⟨[.bool t, .string ⟨⟨m⟩⟩, .string ⟨⟨e⟩⟩]⟩] => if n.length ≤ 8589934592 ∧ d.length ≤ 8589934592 ∧ m.length ≤ 8589934592 ∧ e.length ≤ 8589934592 then
      (if nl m = 0 then some (.tuple ⟨[.agg ⟨[.bool false, .string ⟨⟨[]⟩⟩, .string ⟨⟨[]⟩⟩]⟩, .bool false]⟩) else some (.tuple ⟨[.agg ⟨rE (rv s n d / rv t m e)⟩, .bool true]⟩)) else none
  | _ => none
end Go.Eng
end
section
set_option linter.unusedVariables false
set_option linter.unusedSimpArgs false
set_option linter.unusedSectionVars false
set_option maxRecDepth 4000
namespace Go.Eng
open Go Go.Proofs Go.IntWalk
theorem len_rneg (q : Rat) : (-q).num.natAbs = q.num.natAbs ∧ (-q).den = q.den := by
  constructor
  · rw [Rat.neg_num]; simp
  · rw [Rat.neg_den]
theorem len_den (q : Rat) {k : Nat} (h : (bl q.den).length ≤ k) : (if q.den = 1 then ([] : List UInt8) else bl q.den).length ≤ k := by
  split
  · simp
  · exact h
def spR3Parts : List Value → Option Value
  | [.agg ⟨[.bool s, .string ⟨⟨n⟩⟩, .string ⟨⟨d⟩⟩]⟩] => if n.length ≤ 34359738368 ∧ d.length ≤ 34359738368 then some (.tuple ⟨[.agg ⟨iE (rv s n d).num⟩, .agg ⟨iE ((rv s n d).den : Int)⟩]⟩) else none
  | _ => none
def c89 : ICode :=
  (.seq (.reg [⟨(some 1), none, (.box 47 3 (.t 0))⟩, ⟨(some 2), none, (.alloc 23 2 [(.bool false), (.string ⟨⟨[]⟩⟩)])⟩, ⟨(some 3), none, (.alloc 23 2 [(.bool false), (.string ⟨⟨[]⟩⟩)])⟩])
  (.seq (.reg [⟨(some 5), none, (.load true 3 (.t 1))⟩, ⟨(some 6), none, (.call 126 [(.t 5)])⟩, ⟨(some 4), none, (.alloc 47 3 [(.bool false), (.string ⟨⟨[]⟩⟩), (.string ⟨⟨[]⟩⟩)])⟩, ⟨none, none, (.store 3 (.t 4) (.t 6))⟩])
  (.seq (.dreg [⟨(some 7), none, [], (.load true 3 (.t 4))⟩, ⟨(some 8), none, [], (.call 85 [(.t 7)])⟩, ⟨(some 9), none, [1], (.load true 3 (.t 4))⟩, ⟨(some 10), none, [], (.call 88 [(.t 9)])⟩, ⟨none, none, [], (.store 2 (.t 2) (.t 8))⟩, ⟨none, none, [], (.store 2 (.t 3) (.t 10))⟩])
  .ret)))
theorem tr89 : trFun Tryz.prog 89 = some ⟨11, [.cell 2 true 2, .cell 3 true 2], c89⟩ := by kernel_rfl
theorem divInt_le {N D : Int} (hD : 0 < D) : (Rat.divInt N D).num.natAbs ≤ N.natAbs ∧ (Rat.divInt N D).den ≤ D.natAbs := by
  obtain ⟨h1, h2, _⟩ := divInt_cells (N := N) (D := D) (by omega)
  rw [h1, h2]
  exact ⟨Nat.div_le_self _ _, Nat.div_le_self _ _⟩
theorem ok_r3Parts : SpecOK Tryz.prog 89 (flat spR3Parts) := by
  refine flat_run (env_cons ok_r3Norm (env_cons ok_r3above (env_cons ok_r3below (env_nil _)))) mixed tr89 ?_
  intro args v h N hG
  unfold spR3Parts at hG
  split at hG
  case h_2 => cases hG
  rename_i s n d
  split at hG
  case isFalse => cases hG
  rename_i hl
  obtain ⟨h1, h2⟩ := hl
  cases hG
  refine ⟨rfl, by simp, ?_⟩
  obtain ⟨g1, g2⟩ := divInt_le (N := sv s n) (dv_pos d)
  have n2 : (bl (rv s n d).num.natAbs).length ≤ 1099511627776 := Nat.le_trans (bl_length_mono g1) (Nat.le_trans (len_sv h1) (by omega))
  have d2 : (if (rv s n d).den = 1 then ([] : List UInt8) else bl (rv s n d).den).length ≤ 1099511627776 :=
    len_den _ (Nat.le_trans (bl_length_mono g2) (Nat.le_trans (bl_dv d) (by omega)))
  have dc := dv_can (rv s n d)
  simp only [c89, initT, List.zipIdx_cons, List.zipIdx_nil, List.map_cons, List.map_nil, Nat.reduceAdd]
  simp only [↓R0, R1, rdL, rdH, isCall, istep, ibin, vcells, fillI, setR, flat, okCell, isBase, List.set, List.drop, List.take, List.append, bnds, bhi, blo, srcOf, simprocAttr, -Int.reduceAbs, spR3Norm, spAbove, spBelow, h1, h2, n2, d2, dc, Fin, isEnd, resL, res1, iE, rE]
  exact ⟨_, rfl, rfl, fun k hk => by simp only [ne_nb hk, if_false]⟩
def spR3Sub : List Value → Option Value
  | [.agg ⟨[.bool s, .string ⟨⟨n⟩⟩, .string ⟨⟨d⟩⟩]⟩, .agg ⟨[.bool t, .string ⟨⟨m⟩⟩, .string ⟨⟨e⟩⟩]⟩] => if n.length ≤ 8589934592 ∧ d.length ≤ 8589934592 ∧ m.length ≤ 8589934592 ∧ e.length + 1 ≤ 8589934592 then some (.agg ⟨rE (rv s n d - rv t m e)⟩) else none
  | _ => none
def c56 : ICode :=
  (.seq (.reg [⟨(some 2), none, (.box 47 3 (.t 0))⟩, ⟨(some 3), none, (.box 47 3 (.t 1))⟩, ⟨(some 4), none, (.alloc 47 3 [(.bool false), (.string ⟨⟨[]⟩⟩), (.string ⟨⟨[]⟩⟩)])⟩])
  (.seq (.dreg [⟨(some 5), none, [], (.load true 3 (.t 2))⟩, ⟨(some 6), none, [], (.load true 3 (.t 3))⟩, ⟨(some 7), none, [], (.call 98 [(.t 6)])⟩, ⟨(some 8), none, [], (.call 83 [(.t 5), (.t 7)])⟩, ⟨none, none, [], (.store 3 (.t 4) (.t 8))⟩])
  .ret))
theorem tr56 : trFun Tryz.prog 56 = some ⟨9, [.cell 4 true 3], c56⟩ := by kernel_rfl
theorem ok_r3Sub : SpecOK Tryz.prog 56 (flat spR3Sub) := by
  refine flat_run (env_cons ok_r3Neg (env_cons ok_r3Add (env_nil _))) mixed tr56 ?_
  intro args v h N hG
  unfold spR3Sub at hG
  split at hG
  case h_2 => cases hG
  rename_i s n d t m e
  split at hG
  case isFalse => cases hG
  rename_i hl
  obtain ⟨h1, h2, h3, h4⟩ := hl
  cases hG
  refine ⟨rfl, by simp, ?_⟩
  obtain ⟨g1, g2⟩ := divInt_le (N := sv t m) (dv_pos e)
  have m2 : m.length ≤ 34359738368 := by omega
  have e2 : e.length ≤ 34359738368 := by omega
  have m3 : (bl (-rv t m e).num.natAbs).length ≤ 8589934592 := by
    rw [(len_rneg _).1]; exact Nat.le_trans (bl_length_mono g1) (len_sv h3)
  have e3 : (if (-rv t m e).den = 1 then ([] : List UInt8) else bl (-rv t m e).den).length ≤ 8589934592 := by
    refine len_den _ ?_
    rw [(len_rneg _).2]; exact Nat.le_trans (bl_length_mono g2) (Nat.le_trans (bl_dv e) h4)
  rw [Rat.sub_eq_add_neg]
  simp only [c56, initT, List.zipIdx_cons, List.zipIdx_nil, List.map_cons, List.map_nil, Nat.reduceAdd]
  simp only [↓R0, R1, rdL, rdH, isCall, istep, ibin, vcells, fillI, setR, flat, okCell, isBase, List.set, List.drop, List.take, List.append, bnds, bhi, blo, srcOf, simprocAttr, -Int.reduceAbs, spR3Neg, spR3Add, h1, h2, m2, e2, m3, e3, rv_can, Fin, isEnd, resL, res1, iE, rE]
  exact ⟨_, rfl, rfl, fun k hk => by simp only [ne_nb hk, if_false]⟩
def spR3Cmp : List Value → Option Value
  | [.agg ⟨[.bool s, .string ⟨⟨n⟩⟩, .string ⟨⟨d⟩⟩]⟩, .agg ⟨[.bool t, .string ⟨⟨m⟩⟩, .string ⟨⟨e⟩⟩]⟩] => if n.length ≤ 4294967296 ∧ d.length ≤ 4294967296 ∧ m.length ≤ 4294967296 ∧ e.length ≤ 4294967296 then some (.int .i64 (rv s n d - rv t m e).num.sign) else none
  | _ => none
def c107 : ICode :=
  (.seq (.reg [⟨(some 2), none, (.box 47 3 (.t 0))⟩, ⟨(some 3), none, (.box 47 3 (.t 1))⟩, ⟨(some 4), none, (.mv (.c (.int .i64 0)))⟩])
  (.seq (.reg [⟨(some 5), none, (.load true 3 (.t 2))⟩, ⟨(some 6), none, (.load true 3 (.t 3))⟩, ⟨(some 7), none, (.call 56 [(.t 5), (.t 6)])⟩, ⟨(some 8), none, (.call 41 [(.t 7)])⟩, ⟨(some 4), none, (.mv (.t 8))⟩])
  .ret))
theorem tr107 : trFun Tryz.prog 107 = some ⟨9, [.t 4], c107⟩ := by kernel_rfl
theorem ok_r3Cmp : SpecOK Tryz.prog 107 (flat spR3Cmp) := by
  refine flat_run (env_cons ok_r3Sub (env_cons ok_r3Sign (env_nil _))) mixed tr107 ?_
  intro args v h N hG
  unfold spR3Cmp at hG
  split at hG
  case h_2 => cases hG
  rename_i s n d t m e
  split at hG
  case isFalse => cases hG
  rename_i hl
  obtain ⟨h1, h2, h3, h4⟩ := hl
  cases hG
  refine ⟨rfl, by simp, ?_⟩
  have hd := dv_pos d
  have he := dv_pos e
  have eq : rv s n d - rv t m e = Rat.divInt (sv s n * dv e + -sv t m * dv d) (dv d * dv e) := by
    unfold rv
    rw [Rat.sub_eq_add_neg, Rat.neg_divInt, Rat.divInt_add_divInt _ _ (by omega) (by omega)]
  obtain ⟨g1, g2⟩ := divInt_le (N := sv s n * dv e + -sv t m * dv d) (Int.mul_pos hd he)
  rw [← eq] at g1 g2
  have l1 := len_sv (s := s) h1
  have l2 : (bl (-sv t m).natAbs).length ≤ 4294967296 := by rw [Int.natAbs_neg]; exact len_sv h3
  have l3 : (bl (dv d).natAbs).length ≤ 4294967297 := len_dv (by omega)
  have l4 : (bl (dv e).natAbs).length ≤ 4294967297 := len_dv (by omega)
  have k1 : (bl (rv s n d - rv t m e).num.natAbs).length ≤ 34359738368 :=
    Nat.le_trans (bl_length_mono g1) (Nat.le_trans (len_add (len_mul l1 l4) (len_mul l2 l3)) (by omega))
  have k2 : (if (rv s n d - rv t m e).den = 1 then ([] : List UInt8) else bl (rv s n d - rv t m e).den).length ≤ 34359738368 :=
    len_den _ (Nat.le_trans (bl_length_mono g2) (Nat.le_trans (len_mul l3 l4) (by omega)))
  have n2 : n.length ≤ 8589934592 := by omega
  have d2 : d.length ≤ 8589934592 := by omega
  have m2 : m.length ≤ 8589934592 := by omega
  have e2 : e.length + 1 ≤ 8589934592 := by omega
  simp only [c107, initT, List.zipIdx_cons, List.zipIdx_nil, List.map_cons, List.map_nil, Nat.reduceAdd]
  simp only [↓R0, R1, rdL, rdH, isCall, istep, ibin, vcells, fillI, setR, flat, okCell, isBase, List.set, List.drop, List.take, List.append, bnds, bhi, blo, srcOf, simprocAttr, -Int.reduceAbs, spR3Sub, spR3Sign, n2, d2, m2, e2, k1, k2, Fin, isEnd, resL, res1, iE, rE]
  exact ⟨_, rfl, rfl, fun k hk => by simp only [ne_nb hk, if_false]⟩
end Go.Eng
end
section
set_option linter.unusedVariables false
set_option linter.unusedSimpArgs false
set_option linter.unusedSectionVars false
namespace Go.Eng
def pW (w : Int) : Int := if w = 0 then 1 else w
def pG (x y z w : Int) : Nat := Nat.gcd (Nat.gcd (Nat.gcd x.natAbs y.natAbs) z.natAbs) (pW w).natAbs
def pQ (x y z w a : Int) : Int := (if pW w < 0 then -a else a) / (pG x y z w : Int)
def pE (x y z w : Int) : List Value := iE (pQ x y z w x) ++ iE (pQ x y z w y) ++ iE (pQ x y z w z) ++ iE (pQ x y z w (pW w))
theorem pW_ne (w : Int) : pW w ≠ 0 := by unfold pW; split <;> omega
theorem pG_pos (x y z w : Int) : 0 < pG x y z w := Nat.gcd_pos_of_pos_right _ (by have := pW_ne w; omega)
theorem pW_of {w : Int} (h : w ≠ 0) : pW w = w := by unfold pW; rw [if_neg h]
theorem pQ_scale {x y z w a k : Int} (hw : w ≠ 0) (hk : k ≠ 0) : pQ (k * x) (k * y) (k * z) (k * w) (k * a) = pQ x y z w a := by
  have hkw : k * w ≠ 0 := by simp [hk, hw]
  unfold pQ
  rw [pW_of hkw, pW_of hw]
  have hG : pG (k * x) (k * y) (k * z) (k * w) = k.natAbs * pG x y z w := by
    unfold pG
    rw [pW_of hkw, pW_of hw, Int.natAbs_mul, Int.natAbs_mul, Int.natAbs_mul, Int.natAbs_mul, Nat.gcd_mul_left, Nat.gcd_mul_left, Nat.gcd_mul_left]
  rw [hG, Int.natCast_mul]
  have hk0 : 0 < (k.natAbs : Int) := by omega
  rcases Int.lt_trichotomy k 0 with h | h | h
  · have e : k = -(k.natAbs : Int) := by omega
    generalize (k.natAbs : Int) = n at *
    subst e
    rcases Int.lt_trichotomy w 0 with g | g | g
    · have g2 : ¬ -n * w < 0 := by
        have := Int.mul_pos_of_neg_of_neg h g; omega
      rw [if_neg g2, if_pos g, Int.neg_mul, ← Int.mul_neg, Int.mul_ediv_mul_of_pos _ _ hk0]
    · exact absurd g hw
    · have g2 : -n * w < 0 := Int.mul_neg_of_neg_of_pos h g
      rw [if_pos g2, if_neg (by omega), Int.neg_mul, Int.neg_neg, Int.mul_ediv_mul_of_pos _ _ hk0]
  · exact absurd h hk
  · have e : k = (k.natAbs : Int) := by omega
    generalize (k.natAbs : Int) = n at *
    subst e
    rcases Int.lt_trichotomy w 0 with g | g | g
    · have g2 : k * w < 0 := Int.mul_neg_of_pos_of_neg h g
      rw [if_pos g2, if_pos g, ← Int.mul_neg, Int.mul_ediv_mul_of_pos _ _ hk0]
    · exact absurd g hw
    · have g2 : ¬ k * w < 0 := by have := Int.mul_pos h g; omega
      rw [if_neg g2, if_neg (by omega), Int.mul_ediv_mul_of_pos _ _ hk0]
theorem pE_scale {x y z w k : Int} (hw : w ≠ 0) (hk : k ≠ 0) : pE (k * x) (k * y) (k * z) (k * w) = pE x y z w := by
  have hkw : k * w ≠ 0 := by simp [hk, hw]
  unfold pE
  rw [pW_of hkw, pW_of hw, pQ_scale hw hk, pQ_scale hw hk, pQ_scale hw hk, pQ_scale hw hk]
theorem pE_eq {x y z w x' y' z' w' : Int} (hw : w ≠ 0) (hw' : w' ≠ 0) (hx : x * w' = x' * w) (hy : y * w' = y' * w) (hz : z * w' = z' * w) : pE x y z w = pE x' y' z' w' := by
  rw [← pE_scale (k := w') hw hw', ← pE_scale (k := w) hw' hw, Int.mul_comm w' x, Int.mul_comm w' y, Int.mul_comm w' z, Int.mul_comm w' w, hx, hy, hz, Int.mul_comm x', Int.mul_comm y', Int.mul_comm z']
end Go.Eng
end
