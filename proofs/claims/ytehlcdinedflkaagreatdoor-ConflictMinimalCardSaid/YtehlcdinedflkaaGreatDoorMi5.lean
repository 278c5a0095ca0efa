/-
  A part of the proof: the machine, the contracts of the functions and the plain laws, merged from smaller texts.
-/
import Derived.Test.YtehlcdinedflkaaGreatDoorMi4
import Derived.RowKit3
import Derived.ChangeSame
import Derived.ReadAgain
import Derived.Deep.Slices
import Derived.WideShapes
section
set_option linter.unusedVariables false
set_option linter.unusedSimpArgs false
set_option linter.unusedSectionVars false
set_option maxRecDepth 20000
namespace Go.Eng
open Go Go.Proofs Go.IntWalk
def togL (n : Int) (l : List EqR) : Bool := decide ((solveL n l).1 ≠ 14)
def spTog : List Value → Heap → Option Value
  | [.int .i64 n, sl], h => match decRows h sl with
    | some l => if SysOK n l then some (.bool (togL n l)) else none
    | none => none
  | _, _ => none
theorem spTog_mono {args : List Value} {h h' : Heap} {r : Value} (hl : hle h h') (e : spTog args h = some r) : spTog args h' = some r := by
  unfold spTog at e ⊢
  split at e
  · split at e
    · rename_i l hb
      simp only [decRows_mono hl hb]; exact e
    · cases e
  · cases e
theorem tog_of {h : Heap} {n : Int} {l : List EqR} {sl : Value} (hx : decRows h sl = some l) (hs : SysOK n l) : spTog [.int .i64 n, sl] h = some (.bool (togL n l)) := by
  unfold spTog
  simp only [hx]
  exact if_pos hs
def c28 : ICode :=
  (.seq (.reg [qq 4 (.mv (.c (.bool false)))]) (.seq (.reg [qq 8 (.mv (.t 0)), qq 9 (.mv (.t 1)), qq 10 (.call 16 [(.t 8), (.t 9)]), qq 7 (.mv (.t 10)), qq 11 (.ext (.t 7) 0), qq 12 (.ext (.t 7) 1), qq 5 (.mv (.t 11)), qq 6 (.mv (.t 12))]) (.seq (.reg [qq 13 (.mv (.t 6)), qq 14 (.bin .neq (.t 13) (ci 14)), qq 4 (.mv (.t 14))]) .ret)))
theorem tr28 : trFun Tryz.prog 28 = some ⟨15, [.t 4], c28⟩ := by kernel_rfl
set_option maxHeartbeats 2000000 in
theorem ok_tog : SpecOK Tryz.prog 28 (rdS spTog) := by
  refine rd_run (env_cons ok_solve (env_nil _)) mixed tr28 (fun _ _ _ _ => spTog_mono) ?_
  intro args v h N hG hN
  unfold spTog at hG
  split at hG
  case h_2 => cases hG
  rename_i n sl
  split at hG
  case h_2 => cases hG
  rename_i l hx
  split at hG
  case isFalse => cases hG
  rename_i hs
  cases hG
  refine ⟨by rfl, by simp, ?_⟩
  obtain ⟨a9, D, mm, kc, gq, hV⟩ := solve_call (b := N + 0) hx hs
  generalize eHP : D ++ h = HP at *
  have ac : ∀ (d : Nat) (tm : List (Nat × Value)) (V : Value) (K : St → Prop), @aft (some d) (some (V, D, mm)) ⟨(⟨tm, h, N + 0⟩, K)⟩ = K ⟨(d, V) :: tm, HP, N + (0 + mm)⟩ := fun _ _ _ _ => by rw [← eHP]; exact a_newL
  have dn : ∀ a b : Int, decide (a ≠ b) = !decide (a = b) := fun a b => by by_cases h : a = b <;> simp [h]
  have ft : togL n l = !decide ((solveL n l).1 = 14) := dn _ _
  simp only [c28, G0, Nat.reduceAdd]
  simp only [↓R0, R1, simprocAttr, -Int.reduceAbs, kc, ac, Fin, isEnd, resL, res1]
  exact ⟨_, rfl, rfl, fun q hq => gq q (by omega)⟩
def selfOK (h : Heap) (v : Value) : Bool := isBase v || slOK h v
theorem selfOK_vr {h : Heap} {v : Value} {β : Emb} (e : selfOK h v = true) (hβ : ∀ k, hget h k ≠ none → β k = some ⟨k, 0, []⟩) : VR β v v := by
  unfold selfOK at e
  rw [Bool.or_eq_true] at e
  rcases e with e | e
  · exact .base _ e
  · exact slOK_vr e hβ
theorem selfOK_cell {h : Heap} {v : Value} (e : selfOK h v = true) : okCell v = true := by
  unfold selfOK at e
  rw [Bool.or_eq_true] at e
  rcases e with e | e
  · cases v <;> simp_all [isBase, okCell]
  · unfold slOK at e
    split at e
    · rfl
    · cases e
theorem selfOK_mono {h h' : Heap} {v : Value} (hl : hle h h') (e : selfOK h v = true) : selfOK h' v = true := by
  unfold selfOK at e ⊢
  rw [Bool.or_eq_true] at e ⊢
  exact e.imp id (slOK_mono hl)
theorem selfsOK_vrs {h : Heap} {β : Emb} (hβ : ∀ k, hget h k ≠ none → β k = some ⟨k, 0, []⟩) : ∀ {cs : List Value}, cs.all (selfOK h) = true → VRs β cs cs
  | [], _ => .nil
  | c :: cs, e => by
    rw [List.all_cons, Bool.and_eq_true] at e
    exact .cons _ _ _ _ (selfOK_vr e.1 hβ) (selfsOK_vrs hβ e.2)
theorem selfsOK_cells {h : Heap} {cs : List Value} (e : cs.all (selfOK h) = true) : cs.all okCell = true := by
  rw [List.all_eq_true] at e ⊢
  exact fun v hv => selfOK_cell (e v hv)
theorem selfsOK_mono {h h' : Heap} (hl : hle h h') {cs : List Value} (e : cs.all (selfOK h) = true) : cs.all (selfOK h') = true := by
  rw [List.all_eq_true] at e ⊢
  exact fun v hv => selfOK_mono hl (e v hv)
def eqC (cs : List Value) (p : Int) : List Value := (cs.drop (p.toNat * 5)).take 5
def thoC (cs : List Value) (ps : List Int) : List Value := ps.flatMap (eqC cs)
theorem eqC_all {cs : List Value} {p : Int} {f : Value → Bool} (h : cs.all f = true) : (eqC cs p).all f = true := by
  rw [List.all_eq_true] at h ⊢
  exact fun v hv => h v (List.mem_of_mem_drop (List.mem_of_mem_take hv))
theorem thoC_all {cs : List Value} {ps : List Int} {f : Value → Bool} (h : cs.all f = true) : (thoC cs ps).all f = true := by
  rw [List.all_eq_true]
  intro v hv
  unfold thoC at hv
  obtain ⟨p, _, hv⟩ := List.mem_flatMap.1 hv
  have := eqC_all (p := p) h
  rw [List.all_eq_true] at this
  exact this v hv
def inR (cs : List Value) (p : Int) : Bool := decide (0 ≤ p) && decide (p.toNat * 5 + 5 ≤ cs.length)
theorem eqC_len {cs : List Value} {p : Int} (h : inR cs p = true) : (eqC cs p).length = 5 := by
  unfold inR at h
  rw [Bool.and_eq_true, decide_eq_true_eq, decide_eq_true_eq] at h
  unfold eqC
  rw [List.length_take, List.length_drop]; omega
theorem thoC_len {cs : List Value} : ∀ {ps : List Int}, ps.all (inR cs) = true → (thoC cs ps).length = ps.length * 5
  | [], _ => rfl
  | p :: ps, h => by
    rw [List.all_cons, Bool.and_eq_true] at h
    have := thoC_len h.2
    unfold thoC at this ⊢
    rw [List.flatMap_cons, List.length_append, eqC_len h.1, this, List.length_cons]; omega
def thNL (cs : List Value) (ps : List Int) : NewL :=
  if ps = [] then ⟨0, fun _ => .slice none 0 0, fun _ => 0, fun _ => 0, fun _ _ => []⟩
  else ⟨1, fun σ => .slice (some ⟨σ 0, 0, none⟩) ps.length ps.length, fun _ => 40, fun _ => 5, fun _ _ => thoC cs ps⟩
def spThose : List Value → Heap → Option NewL
  | [sl, pl], h => match lay 5 h sl, listAt 1 decN h pl with
    | some cs, some ps => if cs.all (selfOK h) = true ∧ ps.all (inR cs) = true ∧ ps.length ≤ 1000 then some (thNL cs ps) else none
    | _, _ => none
  | _, _ => none
theorem spThose_mono {args : List Value} {h h' : Heap} {r : NewL} (hl : hle h h') (e : spThose args h = some r) : spThose args h' = some r := by
  unfold spThose at e ⊢
  split at e
  · split at e
    · rename_i cs ps h1 h2
      split at e
      · rename_i hc
        simp only [lay_mono hl h1, listAt_mono hl (fun _ _ e => e) h2]
        rw [if_pos ⟨selfsOK_mono hl hc.1, hc.2⟩]; exact e
      · cases e
    · cases e
  · cases e
def OutE (hp : Heap) (lo hi : Nat) (sl : Value) (m : Nat) (C : List Value) : Prop :=
  (m = 0 ∧ sl = .slice none 0 0) ∨ (0 < m ∧ ∃ kk x, sl = .slice (some ⟨kk, 0, none⟩) m m ∧ hget hp kk = some ⟨40, 5, x, C⟩ ∧ lo ≤ kk ∧ kk < hi)
def c32 : ICode :=
  (.seq (.reg [qq 4 (.mv (.c (.slice none 0 0)))]) (.seq (.reg [qq 5 (.mv (.c (.slice none 0 0)))]) (.seq (.seq (.reg [qq 8 (.mv (.t 1)), qq 9 (.lensl (.t 8)), qq 10 (.mv (ci 0))]) (.block 0 (.loop (.seq (.reg [qq 11 (.bin .lss (.t 10) (.t 9))]) (.seq (.cond (.t 11) .skip (.exit 0)) (.seq (.block 1 (.seq (.reg [qq 12 (.ixsl 1 (.t 8) (.t 10)), qq 13 (.load false 1 (.t 12)), qq 7 (.mv (.t 13))]) (.reg [qq 14 (.mv (.t 5)), qq 15 (.mv (.t 0)), qq 16 (.mv (.t 7)), qq 17 (.ixsl 5 (.t 15) (.t 16)), qq 18 (.load true 5 (.t 17)), qq 19 (.bslice 40 5 1 [(.slice none 0 0), (.bool false), e0, e0, (.int .i64 0)] [(0, 5, (.t 18))]), qq 20 (.app 40 5 72 (.t 14) (.t 19)), qq 5 (.mv (.t 20))]))) (.reg [qq 21 (.bin .add (.t 10) (ci 1)), qq 10 (.mv (.t 21))]))))))) (.seq (.reg [qq 22 (.mv (.t 5)), qq 4 (.mv (.t 22))]) .ret))))
theorem tr32 : trFun Tryz.prog 32 = some ⟨23, [.t 4], c32⟩ := by kernel_rfl
set_option maxHeartbeats 8000000 in
theorem ok_those : SpecOK Tryz.prog 32 (nwL spThose) := by
  refine newL_run (env_nil _) mixed tr32 (fun _ _ _ _ => spThose_mono) ?_
  intro args h N r hG hN
  unfold spThose at hG
  split at hG
  case h_2 => cases hG
  rename_i sl pl
  split at hG
  case h_2 => cases hG
  rename_i cs ps h1 h2
  split at hG
  case isFalse => cases hG
  rename_i hs
  obtain ⟨hself, hin, hps⟩ := hs
  cases hG
  obtain ⟨a', c', rfl⟩ := listAt_sl h2
  refine ⟨?_, by simp, ?_⟩
  · unfold thNL
    split
    · exact ⟨fun β σ σ' _ _ => .base _ rfl, fun β σ σ' _ _ i hi => absurd hi (Nat.not_lt_zero i)⟩
    · exact ⟨fun β σ σ' b1 _ => VR.sl (σ 0) 0 _ _ ⟨σ' 0, 0, []⟩ (b1 0 Nat.one_pos), fun β σ σ' _ b2 i hi => selfsOK_vrs b2 (thoC_all hself)⟩
  simp only [c32, G0, Nat.reduceAdd]
  simp only [↓R0, R1, simprocAttr, -Int.reduceAbs]
  refine lp_parts (fun q tm hp nx => ∃ (i M : Nat) (o : Value), q + i = ps.length ∧ tmget tm 0 = sl ∧ tmget tm 8 = .slice a' ps.length c' ∧ tmget tm 9 = .int .i64 ps.length ∧ tmget tm 10 = .int .i64 i ∧ tmget tm 5 = o ∧ OutE hp N M o i (thoC cs (ps.take i)) ∧ (∀ q, q < N → hget hp q = hget h q) ∧ N ≤ M ∧ nx = M + 0) ?_ ps.length
    ⟨0, N, .slice none 0 0, by omega, ?_, ?_, ?_, ?_, ?_, .inl ⟨rfl, rfl⟩, ?_, Nat.le_refl _, rfl⟩
  rotate_left
  all_goals first | (simp only [↓R0, R1, simprocAttr, -Int.reduceAbs]; done) | (simp only [↓R0, R1, simprocAttr, -Int.reduceAbs]; rfl) | skip
  · exact fun q _ => rfl
  rintro q tm hp nx ⟨i, M, o, hq, t0, t8, t9, t10, t5, hO, hh, hM, hnx⟩
  rw [hnx]
  clear hnx nx
  have wi : IntKind.i64.wrap ((i : Int) + 1) = ((i + 1 : Nat) : Int) := by rw [i64_in _ (by omega)]; omega
  by_cases ci : i < ps.length
  case neg =>
    have ei : i = ps.length := by omega
    subst ei
    have ci' : ((ps.length : Int) < (ps.length : Int)) = False := eq_false (by omega)
    rw [List.take_length] at hO
    unfold thNL
    rcases hO with ⟨z, rfl⟩ | ⟨z, kk, x, rfl, h3, h4, h5⟩
    · have z0 : ps = [] := List.eq_nil_of_length_eq_zero z
      rw [if_pos z0]
      simp only [↓R0, R1, simprocAttr, -Int.reduceAbs, t0, t8, t9, t10, t5, ci', FinL, isEnd, resL, res1]
      refine ⟨fun i => i, _, fun i hi => absurd hi (Nat.not_lt_zero i), fun i j hi => absurd hi (Nat.not_lt_zero i), rfl, rfl, fun i hi => absurd hi (Nat.not_lt_zero i), hh⟩
    · have z0 : ¬ ps = [] := fun e => by rw [e] at z; exact absurd z (Nat.not_lt_zero _)
      rw [if_neg z0]
      simp only [↓R0, R1, simprocAttr, -Int.reduceAbs, t0, t8, t9, t10, t5, ci', FinL, isEnd, resL, res1]
      refine ⟨fun _ => kk, _, fun i hi => (by omega : N ≤ kk), fun i j (hi : i < 1) (hj : j < 1) _ => by omega, rfl, rfl, fun i hi => ⟨x, h3⟩, hh⟩
  have ci' : ((i : Int) < (ps.length : Int)) = True := eq_true (by omega)
  have HL : hle h hp := fun q b e => by rw [hh q (hN _ _ e)]; exact e
  obtain ⟨p, pt⟩ : ∃ p, ps[i]? = some p := ⟨_, List.getElem?_eq_getElem ci⟩
  obtain ⟨kp, op, bp, ea, hbp, _, _, hat⟩ := listAt_get h2 (by omega)
  obtain ⟨q1, q2⟩ := hat i p pt
  have q2 := cell1_of (decN_eq q2)
  rw [Nat.mul_one] at q2
  subst ea
  have hbb := HL _ _ hbp
  have inp : inR cs p = true := by
    rw [List.all_eq_true] at hin
    exact hin p (List.mem_of_getElem? pt)
  have len5 := eqC_len inp
  have inp0 := inp
  unfold inR at inp0
  rw [Bool.and_eq_true, decide_eq_true_eq, decide_eq_true_eq] at inp0
  obtain ⟨p0, p1⟩ := inp0
  obtain ⟨m, rfl⟩ := Int.eq_ofNat_of_zero_le p0
  rw [Int.toNat_natCast] at p1
  obtain ⟨ar, lr, cr, rfl, hlr⟩ := lay_len h1
  obtain ⟨kr, orr, br, ea, hbr, hlc, hle, ecs⟩ := lay_pos h1 (by omega)
  subst ea
  have hbr' := HL _ _ hbr
  have nkr := hN _ _ hbr
  have nkp := hN _ _ hbp
  have ml : m < lr := by omega
  have ml' : ((m : Int) < (lr : Int)) = True := eq_true (by omega)
  have m5 : orr + m * 5 + 5 ≤ br.cells.length := by omega
  have ec : (br.cells.drop (orr + m * 5)).take 5 = eqC cs m := by
    unfold eqC
    rw [Int.toNat_natCast, ecs, List.drop_take, List.take_take, Nat.min_eq_left (by omega), List.drop_drop]
  have fok : (eqC cs m).all okCell = true := eqC_all (selfsOK_cells hself)
  have ths : thoC cs (ps.take (i + 1)) = thoC cs (ps.take i) ++ eqC cs m := by
    unfold thoC
    rw [List.take_add_one, pt, List.flatMap_append]
    simp
  have thl : (thoC cs (ps.take i)).length = i * 5 := by
    rw [thoC_len (by rw [List.all_eq_true] at hin ⊢; exact fun x hx => hin x (List.mem_of_mem_take hx)), List.length_take, Nat.min_eq_left (by omega)]
  generalize eqC cs m = C5 at *
  generalize thoC cs (ps.take i) = CT at *
  generalize eT1 : thoC cs (ps.take (i + 1)) = CT1 at *
  have tk5 : C5.take 5 = C5 := List.take_of_length_le (by omega)
  have st5 : setR [.slice none 0 0, .bool false, .string ⟨⟨[]⟩⟩, .string ⟨⟨[]⟩⟩, .int .i64 0] 0 C5 = C5 := by
    match C5, len5 with
    | [x1, x2, x3, x4, x5], _ => rfl
  have M0 : ∀ j, (M + j = kr) = False := fun j => eq_false (by omega)
  have M1 : ∀ j, (M + j = kp) = False := fun j => eq_false (by omega)
  rcases hO with ⟨z0, rfl⟩ | ⟨z0, kk, x, rfl, h3, h4, h5⟩
  · have hCT : CT = [] := List.eq_nil_of_length_eq_zero (by omega)
    subst hCT
    rw [List.nil_append] at ths
    simp only [↓R0, R1, simprocAttr, -Int.reduceAbs, t0, t8, t9, t10, t5, ci, ci', hbb, q1, q2, hbr', ml, ml', m5, ec, len5, fok, st5, tk5, setR_length, wi, M0, M1, vcells, fillI]
    refine ⟨q - 1, by omega, i + 1, M + 2, .slice (some ⟨M + 1, 0, none⟩) 1 1, by omega, rfl, rfl, .inr ⟨by omega, M + 1, false, by rw [z0], ?_, by omega, by omega⟩, fun q hq => ?_, by omega, rfl⟩
    · rw [eT1, ths]
      simp only [↓R0, R1, simprocAttr, -Int.reduceAbs]
    · have nb : ∀ d, (M + d = q) = False := fun d => eq_false (by omega)
      simp only [↓R0, R1, simprocAttr, -Int.reduceAbs, nb]
      exact hh q hq
  · have v1 : ∀ d, (M + d = kk) = False := fun d => eq_false (by omega)
    have v2 : ∀ d, (kk = M + d) = False := fun d => eq_false (by omega)
    have nler : (i + 1 ≤ i) = False := eq_false (by omega)
    have ovr : ((i + 1) * 72 ≤ 140737488355328) = True := eq_true (by omega)
    simp only [↓R0, R1, simprocAttr, -Int.reduceAbs, t0, t8, t9, t10, t5, ci, ci', hbb, q1, q2, hbr', ml, ml', m5, ec, len5, fok, st5, tk5, setR_length, wi, M0, M1, h3, thl, nler, ovr, v1, v2, vcells, fillI]
    refine ⟨q - 1, by omega, i + 1, M + 2, .slice (some ⟨M + 1, 0, none⟩) (i + 1) (i + 1), by omega, rfl, rfl, .inr ⟨by omega, M + 1, false, rfl, ?_, by omega, by omega⟩, fun q hq => ?_, by omega, rfl⟩
    · rw [eT1, ths]
      simp only [↓R0, R1, simprocAttr, -Int.reduceAbs, v1, v2]
    · have nb : ∀ d, (M + d = q) = False := fun d => eq_false (by omega)
      have nq : (kk = q) = False := eq_false (by omega)
      simp only [↓R0, R1, simprocAttr, -Int.reduceAbs, nb, nq]
      exact hh q hq
end Go.Eng
end
section
set_option linter.unusedVariables false
set_option linter.unusedSimpArgs false
set_option linter.unusedSectionVars false
set_option maxRecDepth 20000
namespace Go.Eng
open Go Go.Proofs Go.IntWalk
def selL (l : List EqR) (ps : List Int) : List EqR := ps.map fun p => eqAt l p.toNat
theorem thoC_at {cs : List Value} : ∀ {ps : List Int} {i : Nat} {p : Int}, ps.all (inR cs) = true → ps[i]? = some p → ((thoC cs ps).drop (i * 5)).take 5 = eqC cs p
  | [], i, p, _, e => by simp at e
  | q :: ps, i, p, h, e => by
    rw [List.all_cons, Bool.and_eq_true] at h
    have l5 := eqC_len h.1
    show ((eqC cs q ++ thoC cs ps).drop (i * 5)).take 5 = _
    cases i with
    | zero =>
      simp only [List.getElem?_cons_zero, Option.some.injEq] at e
      subst e
      rw [Nat.zero_mul, List.drop_zero, List.take_append_of_le_length (by omega), List.take_of_length_le (by omega)]
    | succ i =>
      simp only [List.getElem?_cons_succ] at e
      rw [Nat.succ_mul, List.drop_append, List.drop_of_length_le (by omega), l5, List.nil_append, Nat.add_sub_cancel]
      exact thoC_at h.2 e
structure RowsS (h : Heap) (sl : Value) (l : List EqR) (cs : List Value) : Prop where
  lay : lay 5 h sl = some cs
  rows : decRows h sl = some l
  self : cs.all (selfOK h) = true
theorem RowsS.mono {h h' : Heap} {sl : Value} {l : List EqR} {cs : List Value} (r : RowsS h sl l cs) (hl : hle h h') : RowsS h' sl l cs :=
  ⟨lay_mono hl r.lay, decRows_mono hl r.rows, selfsOK_mono hl r.self⟩
theorem RowsS.len {h : Heap} {sl : Value} {l : List EqR} {cs : List Value} (r : RowsS h sl l cs) : cs.length = l.length * 5 ∧ ∃ a c, sl = .slice a l.length c := by
  obtain ⟨a, c, e⟩ := listAt_sl r.rows
  obtain ⟨a', l', c', e', h2⟩ := lay_len r.lay
  rw [e] at e'
  cases e'
  exact ⟨h2, a, c, e⟩
theorem RowsS.eq {h : Heap} {sl : Value} {l : List EqR} {cs : List Value} (r : RowsS h sl l cs) {p : Int} (hp : inR cs p = true) : decEq h (eqC cs p) = some (eqAt l p.toNat) := by
  have e := r.rows
  unfold decRows listAt at e
  rw [r.lay, Option.bind_some] at e
  have hlen := r.len.1
  unfold inR at hp
  rw [Bool.and_eq_true, decide_eq_true_eq, decide_eq_true_eq] at hp
  exact (many_get e).2 _ _ (eqAt_some (by omega))
theorem RowsS.inR {h : Heap} {sl : Value} {l : List EqR} {cs : List Value} (r : RowsS h sl l cs) {p : Nat} (hp : p < l.length) : inR cs p = true := by
  have hlen := r.len.1
  unfold Go.Eng.inR
  rw [Bool.and_eq_true, decide_eq_true_eq, decide_eq_true_eq, Int.toNat_natCast]
  omega
theorem RowsS.those {h h' : Heap} {sl : Value} {l : List EqR} {cs : List Value} (r : RowsS h sl l cs) {ps : List Int} (hin : ps.all (Go.Eng.inR cs) = true) (hl : hle h h') {k el sz c : Nat} {x : Bool} (hc : ps.length ≤ c) (hk : hget h' k = some ⟨el, sz, x, thoC cs ps⟩) :
    RowsS h' (.slice (some ⟨k, 0, none⟩) ps.length c) (selL l ps) (thoC cs ps) := by
  have hlen := thoC_len hin
  have la : Go.Eng.lay 5 h' (.slice (some ⟨k, 0, none⟩) ps.length c) = some (thoC cs ps) := by
    unfold Go.Eng.lay
    cases e : ps.length with
    | zero =>
      rw [e] at hlen hc
      simp only [hk]
      rw [if_pos ⟨hc, by omega⟩, List.drop_zero, List.take_of_length_le (by omega)]
    | succ n =>
      rw [e] at hlen hc
      simp only [hk]
      rw [if_pos ⟨hc, by omega⟩, List.drop_zero, List.take_of_length_le (by omega)]
  refine ⟨la, ?_, selfsOK_mono hl (thoC_all r.self)⟩
  unfold decRows listAt
  rw [la, Option.bind_some]
  refine many_some (by unfold selL; rw [List.length_map]; rfl) fun i x hx => ?_
  unfold selL at hx
  rw [List.getElem?_map, Option.map_eq_some_iff] at hx
  obtain ⟨p, hp, rfl⟩ := hx
  rw [thoC_at hin hp]
  rw [List.all_eq_true] at hin
  exact decEq_mono hl (r.eq (hin p (List.mem_of_getElem? hp)))
def spSpare : List Value → Heap → Option Value
  | [.slice a m c, .pointer (some ⟨kn, 0, none⟩), .pointer (some ⟨kr, 0, none⟩)], h => match hget h kn, hget h kr with
    | some ⟨_, _, _, [.int .i64 n]⟩, some ⟨_, _, _, [sl]⟩ => match lay 5 h sl, decRows h sl, listAt 1 decN h (.slice a m c) with
      | some cs, some l, some ps => if cs.all (selfOK h) = true ∧ ps.all (inR cs) = true ∧ ps.length ≤ 1000 ∧ SysOK n (selL l ps) then some (.bool (!togL n (selL l ps))) else none
      | _, _, _ => none
    | _, _ => none
  | _, _ => none
def c31 : ICode :=
  (.seq (.reg [qq 4 (.mv (.c (.bool false)))]) (.seq (.dreg [qu 5 (.load false 1 (.t 1)), qu 6 (.load false 1 (.t 2)), qu 7 (.mv (.t 0)), qu 8 (.call 32 [(.t 6), (.t 7)]), qu 9 (.call 28 [(.t 5), (.t 8)]), qu 10 (.un .not (.t 9)), qu 4 (.mv (.t 10))]) .ret))
theorem tr31 : trFun Tryz.prog 31 = some ⟨11, [.t 4], c31⟩ := by kernel_rfl
set_option maxHeartbeats 4000000 in
theorem ok_spare : SpecOK Tryz.prog 31 (rdS spSpare) := by
  refine rd_run (env_cons ok_those (env_cons ok_tog (env_nil _))) mixed tr31 ?_ ?_
  · intro args h h' v hl e
    unfold spSpare at e ⊢
    split at e
    · split at e
      · rename_i b1 b2
        simp only [hl _ _ b1, hl _ _ b2]
        split at e
        · rename_i cs l ps h1 h2 h3
          split at e
          · rename_i hc
            simp only [lay_mono hl h1, decRows_mono hl h2, listAt_mono hl (fun _ _ e => e) h3]
            rw [if_pos ⟨selfsOK_mono hl hc.1, hc.2⟩]; exact e
          · cases e
        · cases e
      · cases e
    · cases e
  intro args v h N hG hN
  unfold spSpare at hG
  split at hG
  case h_2 => cases hG
  rename_i a m c kn kr
  split at hG
  case h_2 => cases hG
  rename_i e1 z1 x1 n e2 z2 x2 sl hn hr
  split at hG
  case h_2 => cases hG
  rename_i cs l ps h1 h2 h3
  split at hG
  case isFalse => cases hG
  rename_i hs
  obtain ⟨hself, hin, hps, sys⟩ := hs
  cases hG
  obtain ⟨a', c', e⟩ := listAt_sl h3
  cases e
  have R : RowsS h sl l cs := ⟨h1, h2, hself⟩
  refine ⟨by rfl, by simp, ?_⟩
  have ft : spThose [sl, .slice a ps.length c] h = some (thNL cs ps) := by
    unfold spThose
    simp only [h1, h3]
    exact if_pos ⟨hself, hin, hps⟩
  by_cases z : ps = []
  · subst z
    have kt : nwL spThose [sl, .slice a 0 c] h (N + 0) = some (.slice none 0 0, [], 0) := by
      unfold nwL
      rw [show spThose [sl, .slice a 0 c] h = some (thNL cs []) from ft]; rfl
    have tk : spTog [.int .i64 n, .slice none 0 0] h = some (.bool (togL n (selL l []))) := tog_of rfl sys
    simp only [c31, G0, Nat.reduceAdd]
    simp only [↓R0, R1, simprocAttr, -Int.reduceAbs, rdS, hn, hr, kt, tk, Fin, isEnd, resL, res1]
    exact ⟨_, rfl, rfl, fun k hk => by simp only [ne_nb hk, if_false]⟩
  · have kt : nwL spThose [sl, .slice a ps.length c] h (N + 0) = some (.slice (some ⟨N + 0, 0, none⟩) ps.length ps.length, [(N + 0, some ⟨40, 5, false, thoC cs ps⟩)], 1) := by
      unfold nwL
      rw [ft]
      unfold thNL
      rw [if_neg z]; rfl
    have hl2 : hle h ((N + 0, some ⟨40, 5, false, thoC cs ps⟩) :: h) := fun k b e => by
      have := hN _ _ e
      simp only [hget]
      rw [if_neg (by omega)]; exact e
    have tk : spTog [.int .i64 n, .slice (some ⟨N + 0, 0, none⟩) ps.length ps.length] ((N + 0, some ⟨40, 5, false, thoC cs ps⟩) :: h) = some (.bool (togL n (selL l ps))) :=
      tog_of (R.those hin hl2 (Nat.le_refl _) (if_pos rfl)).rows sys
    generalize thoC cs ps = CS at *
    simp only [c31, G0, Nat.reduceAdd]
    simp only [↓R0, R1, simprocAttr, -Int.reduceAbs, rdS, hn, hr, kt, tk, Fin, isEnd, resL, res1]
    exact ⟨_, rfl, rfl, fun k hk => by simp only [ne_nb hk, if_false]⟩
end Go.Eng
end
section
set_option linter.unusedVariables false
set_option linter.unusedSimpArgs false
set_option linter.unusedSectionVars false
set_option maxRecDepth 20000
namespace Go.Eng
open Go Go.Proofs Go.IntWalk
def minS (n : Int) (l : List EqR) : Nat → List Int × Nat
  | 0 => ((List.range l.length).map fun (i : Nat) => ((i : Nat) : Int), 0)
  | i + 1 => if togL n (selL l (delL i (minS n l i).1)) = true then minS n l i else (delL i (minS n l i).1, (minS n l i).1.length - (delL i (minS n l i).1).length)
theorem minS_mem (n : Int) (l : List EqR) : ∀ i, ∀ p ∈ (minS n l i).1, 0 ≤ p ∧ p.toNat < l.length
  | 0, p, hp => by
    unfold minS at hp
    obtain ⟨j, hj, rfl⟩ := List.mem_map.1 hp
    have := List.mem_range.1 hj
    omega
  | i + 1, p, hp => by
    unfold minS at hp
    split at hp
    · exact minS_mem n l i p hp
    · exact minS_mem n l i p (List.mem_filter.1 hp).1
theorem minS_len (n : Int) (l : List EqR) : ∀ i, (minS n l i).1.length ≤ l.length
  | 0 => by unfold minS; rw [List.length_map, List.length_range]; exact Nat.le_refl _
  | i + 1 => by
    unfold minS
    split
    · exact minS_len n l i
    · exact Nat.le_trans (delL_len _ _) (minS_len n l i)
theorem selL_all (l : List EqR) : selL l ((List.range l.length).map fun (i : Nat) => ((i : Nat) : Int)) = l := by
  unfold selL
  rw [List.map_map]
  refine List.ext_getElem? fun i => ?_
  rw [List.getElem?_map]
  by_cases h : i < l.length
  · rw [List.getElem?_range h, eqAt_some h]; rfl
  · rw [List.getElem?_eq_none (by rw [List.length_range]; omega), List.getElem?_eq_none (by omega)]; rfl
theorem minS_clash {n : Int} {l : List EqR} (h : togL n l = false) : ∀ i, togL n (selL l (minS n l i).1) = false
  | 0 => by
    have : selL l (minS n l 0).1 = l := selL_all l
    rw [this]; exact h
  | i + 1 => by
    unfold minS
    split
    · exact minS_clash h i
    · rename_i e; simpa using e
structure MinOK (n : Int) (l : List EqR) : Prop where
  len : l.length ≤ 1000
  sys : SysOK n l
  sub : ∀ ps : List Int, (∀ p ∈ ps, 0 ≤ p ∧ p.toNat < l.length) → ps.length ≤ l.length → SysOK n (selL l ps)
  nil : togL n [] = true
noncomputable instance {n : Int} {l : List EqR} : Decidable (MinOK n l) := Classical.propDecidable _
def minNL (n : Int) (l : List EqR) : NewL :=
  if togL n l = true then ⟨0, fun _ => .slice none 0 0, fun _ => 0, fun _ => 0, fun _ _ => []⟩
  else ⟨1, fun σ => .slice (some ⟨σ 0, 0, none⟩) (minS n l l.length).1.length ((minS n l l.length).1.length + (minS n l l.length).2), fun _ => 3, fun _ => 1,
    fun _ _ => intZ ((minS n l l.length).1 ++ List.replicate (minS n l l.length).2 0)⟩
noncomputable def spMin : List Value → Heap → Option NewL
  | [.int .i64 n, sl], h => match lay 5 h sl, decRows h sl with
    | some cs, some l => if cs.all (selfOK h) = true ∧ MinOK n l then some (minNL n l) else none
    | _, _ => none
  | _, _ => none
theorem spMin_mono {args : List Value} {h h' : Heap} {r : NewL} (hl : hle h h') (e : spMin args h = some r) : spMin args h' = some r := by
  unfold spMin at e ⊢
  split at e
  · split at e
    · rename_i cs l h1 h2
      split at e
      · rename_i hc
        simp only [lay_mono hl h1, decRows_mono hl h2]
        rw [if_pos ⟨selfsOK_mono hl hc.1, hc.2⟩]; exact e
      · cases e
    · cases e
  · cases e
theorem min_of {h : Heap} {n : Int} {l : List EqR} {sl : Value} {cs : List Value} (R : RowsS h sl l cs) (hs : MinOK n l) : spMin [.int .i64 n, sl] h = some (minNL n l) := by
  unfold spMin
  simp only [R.lay, R.rows]
  exact if_pos ⟨R.self, hs⟩
theorem intC_Z (l : List Nat) : intC l = intZ (l.map fun (i : Nat) => ((i : Nat) : Int)) := by unfold intC intZ; rw [List.map_map]; rfl
theorem intZ_list {h : Heap} {k e s c : Nat} {x : Bool} {L Z : List Int} (hb : hget h k = some ⟨e, s, x, intZ (L ++ Z)⟩) (hc : L.length ≤ c) : listAt 1 decN h (.slice (some ⟨k, 0, none⟩) L.length c) = some L := by
  have ll := intZ_len (L ++ Z)
  rw [List.length_append] at ll
  have la : lay 1 h (.slice (some ⟨k, 0, none⟩) L.length c) = some ((intZ (L ++ Z)).take L.length) := by
    unfold lay
    cases e : L.length with
    | zero =>
      simp only [hb]
      rw [if_pos ⟨by omega, by omega⟩, List.drop_zero, Nat.mul_one]
    | succ n =>
      simp only [hb]
      rw [if_pos ⟨by omega, by omega⟩, List.drop_zero, Nat.mul_one]
  unfold listAt
  rw [la, Option.bind_some]
  refine many_some rfl fun i z hz => ?_
  have hlt := (List.getElem?_eq_some_iff.1 hz).1
  have g : ((intZ (L ++ Z)).take L.length)[i]? = some (.int .i64 z) := by
    rw [List.getElem?_take_of_lt hlt]
    exact intZ_get (by rw [List.getElem?_append_left hlt]; exact hz)
  rw [Nat.mul_one, List.drop_eq_getElem_cons (List.getElem?_eq_some_iff.1 g).1, (List.getElem?_eq_some_iff.1 g).2]
  rfl
def c12 : RCode :=
  (.seq (.plain (.reg [qq 2 (.box 3 1 (.t 0)), qq 3 (.box 22 1 (.t 1)), qq 4 (.mv (.c (.slice none 0 0)))])) (.seq (.plain (.seq (.reg [qq 9 (.load false 1 (.t 2)), qq 10 (.load false 1 (.t 3)), qq 11 (.call 28 [(.t 9), (.t 10)])]) (.cond (.t 11) (.seq (.reg [qq 4 (.mv (.c (.slice none 0 0)))]) .ret) .skip))) (.seq (.plain (.reg [qq 12 (.load false 1 (.t 3)), qq 13 (.call 30 [(.t 12)]), qq 14 (.call 29 [(.t 13)]), qq 5 (.alloc 27 1 [(.slice none 0 0)]), qn (.store 1 (.t 5) (.t 14))])) (.seq (.plain (.reg [qq 15 (.mkfn 31 [(.t 2), (.t 3)]), qq 6 (.alloc 57 1 [.nilFunc]), qn (.store 1 (.t 6) (.t 15))])) (.seq (.seq (.plain (.reg [qq 16 (.load false 1 (.t 3)), qq 17 (.call 30 [(.t 16)])])) (.block 0 (.rng (.t 17) 18 (.reg [qq 7 (.alloc 3 1 [(.int .i64 0)]), qn (.store 1 (.t 7) (.t 18))]) (.block 1 (.seq (.reg [qq 19 (.load false 1 (.t 5)), qq 20 (.call 34 [(.t 19)]), qq 21 (.mkfn 35 [(.t 7)]), qq 22 (.call 33 [(.t 20), (.t 21)]), qq 8 (.mv (.t 22))]) (.seq (.reg [qq 23 (.load false 1 (.t 6)), qq 24 (.mv (.t 8)), qq 25 (.callv (.t 23) [(.t 24)])]) (.cond (.t 25) (.reg [qq 26 (.mv (.t 8)), qn (.store 1 (.t 5) (.t 26))]) .skip))))))) (.plain (.seq (.reg [qq 27 (.load false 1 (.t 5)), qq 4 (.mv (.t 27))]) .ret)))))))
theorem tr12 : trFunR Tryz.prog 12 = some ⟨28, [.t 4], c12⟩ := by kernel_rfl
set_option maxHeartbeats 16000000 in
theorem ok_min : SpecOK Tryz.prog 12 (nwL spMin) := by
  refine newR_run (env_cons ok_tog (env_cons ok_eachC (env_cons ok_col (env_cons ok_cloneI (env_cons ok_delI (env_cons ok_spare (env_nil _))))))) mixed each_iters tr12 (fun _ _ _ _ => spMin_mono) ?_
  intro args h N r hG hN
  unfold spMin at hG
  split at hG
  case h_2 => cases hG
  rename_i n sl
  split at hG
  case h_2 => cases hG
  rename_i cs l h1 h2
  split at hG
  case isFalse => cases hG
  rename_i hs
  obtain ⟨hself, ok⟩ := hs
  cases hG
  have R : RowsS h sl l cs := ⟨h1, h2, hself⟩
  obtain ⟨hcl, a, c, rfl⟩ := R.len
  refine ⟨?_, by simp, ?_⟩
  · unfold minNL
    split
    · exact ⟨fun β σ σ' _ _ => .base _ rfl, fun β σ σ' _ _ i hi => absurd hi (Nat.not_lt_zero i)⟩
    · exact ⟨fun β σ σ' b1 _ => VR.sl (σ 0) 0 _ _ ⟨σ' 0, 0, []⟩ (b1 0 Nat.one_pos), fun β σ σ' _ b2 i hi => VRs.of_base (intZ_base _)⟩
  have rows : ∀ hp, ExtL N h hp → RowsS hp (.slice a l.length c) l cs := fun hp he => R.mono fun k b e => by rw [he k (hN _ _ e)]; exact e
  have tk : ∀ hp, ExtL N h hp → spTog [.int .i64 n, .slice a l.length c] hp = some (.bool (togL n l)) := fun hp he => tog_of (rows hp he).rows ok.sys
  have x0 := extL_ge (Nat.le_refl N)
  have x1 : ExtL N h h = True := eq_true fun _ _ => rfl
  by_cases tg : togL n l = true
  · rw [tg] at tk
    unfold minNL
    rw [if_pos tg]
    simp only [c12, G0, Nat.reduceAdd]
    simp only [↓R0, R1, simprocAttr, -Int.reduceAbs, y_plain, y_seq, y_block, y_rng, rdS, tk, x0, x1, FinL, isEnd, resL, res1]
    refine ⟨fun i => i, _, fun i hi => absurd hi (Nat.not_lt_zero i), fun i j hi => absurd hi (Nat.not_lt_zero i), rfl, rfl, fun i hi => absurd hi (Nat.not_lt_zero i), fun k hk => ?_⟩
    have nb : ∀ q, (N + q = k) = False := fun q => eq_false (by omega)
    simp only [↓R0, R1, simprocAttr, -Int.reduceAbs, nb]
  have tf : togL n l = false := by simpa using tg
  rw [tf] at tk
  unfold minNL
  rw [if_neg tg]
  have m0 : 0 < l.length := by
    cases l with
    | nil => exact absurd ok.nil tg
    | cons x l => simp
  have hlen := ok.len
  have so : slOK h (.slice a l.length c) = true := by
    obtain ⟨k, off, blk, ea, hb, _⟩ := lay_pos h1 m0
    subst ea
    simp [slOK, hb]
  have ke : ∀ hp k, ExtL N h hp → nwL spEachC [.slice a l.length c] hp k = some (eachV k, [(k, some ⟨22, 1, false, [.slice a l.length c]⟩)], 1) := fun hp k he => by
    unfold nwL spEachC
    simp only
    rw [if_pos (slOK_mono (fun k b e => by rw [he k (hN _ _ e)]; exact e) so)]
    rfl
  have kc : ∀ hp k, hget hp k = some ⟨22, 1, false, [.slice a l.length c]⟩ → spColl [.func (.func 51) ⟨[]⟩ ⟨[.pointer (some ⟨k, 0, none⟩)]⟩] hp = some (fun k => .slice (some ⟨k, 0, none⟩) l.length l.length, ⟨3, 1, false, intC (List.range l.length)⟩) := fun hp k hk => by
    unfold spColl spApS
    simp only [hk]
    exact if_pos ⟨trivial, m0, hlen⟩
  simp only [c12, G0, Nat.reduceAdd]
  simp only [↓R0, R1, simprocAttr, -Int.reduceAbs, y_plain, y_seq, y_block, y_rng, rdS, nwS, tk, ke, kc, x0, x1, eachV]
  refine rg_parts (fun i hp nx => ∃ (M kk : Nat) (x : Bool), hget hp (N + 0) = some ⟨3, 1, true, [.int .i64 n]⟩ ∧ hget hp (N + 1) = some ⟨22, 1, true, [.slice a l.length c]⟩ ∧
      hget hp (N + 4) = some ⟨27, 1, true, [.slice (some ⟨kk, 0, none⟩) (minS n l i).1.length ((minS n l i).1.length + (minS n l i).2)]⟩ ∧
      hget hp (N + 5) = some ⟨57, 1, true, [.func (.func 31) ⟨[]⟩ ⟨[.pointer (some ⟨N + 0, 0, none⟩), .pointer (some ⟨N + 1, 0, none⟩)]⟩]⟩ ∧
      hget hp kk = some ⟨3, 1, x, intZ ((minS n l i).1 ++ List.replicate (minS n l i).2 0)⟩ ∧ (kk = N + 3 ∨ N + 7 ≤ kk) ∧ kk < M ∧ (∀ q, q < N → hget hp q = hget h q) ∧ N + 7 ≤ M ∧ nx = M + 0) (k := N + 6) (e := 22) (sz := 1) (x := false) (a := a) (len := l.length) (cap := c) ?_ ?_ hlen ?_ ?_ ?_
  · simp only [↓R0, R1, simprocAttr, -Int.reduceAbs]
  · simp only [↓R0, R1, simprocAttr, -Int.reduceAbs]
  · have s0 : (minS n l 0).1.length = l.length := by unfold minS; rw [List.length_map, List.length_range]
    have s1 : (minS n l 0).2 = 0 := rfl
    have s2 : intZ (minS n l 0).1 = intC (List.range l.length) := (intC_Z _).symm
    refine ⟨N + 7, N + 3, false, ?_, ?_, ?_, ?_, ?_, .inl rfl, by omega, fun q hq => ?_, Nat.le_refl _, rfl⟩
    · simp only [↓R0, R1, simprocAttr, -Int.reduceAbs]
    · simp only [↓R0, R1, simprocAttr, -Int.reduceAbs]
    · rw [s0, s1]
      simp only [↓R0, R1, simprocAttr, -Int.reduceAbs]
      rfl
    · simp only [↓R0, R1, simprocAttr, -Int.reduceAbs]
    · rw [s1, List.replicate_zero, List.append_nil, s2]
      simp only [↓R0, R1, simprocAttr, -Int.reduceAbs]
    · have nb : ∀ d, (N + d = q) = False := fun d => eq_false (by omega)
      simp only [↓R0, R1, simprocAttr, -Int.reduceAbs, nb]
  · rintro i hp nx ⟨M, kk, x, b0, b1, b4, b5, bk, hkk, hkM, hh, hM, hnx⟩ hi hnn
    rw [hnx]
    clear hnx hnn nx
    have mm := minS_mem n l i
    have ml := minS_len n l i
    have mc := minS_clash tf i
    have mS : minS n l (i + 1) = if togL n (selL l (delL i (minS n l i).1)) = true then minS n l i else (delL i (minS n l i).1, (minS n l i).1.length - (delL i (minS n l i).1).length) := rfl
    generalize minS n l i = S at *
    obtain ⟨L, z⟩ := S
    simp only at mm ml mc b4 bk mS
    have L0 : 0 < L.length := by
      cases L with
      | nil => rw [show selL l [] = [] from rfl, ok.nil] at mc; cases mc
      | cons x L => simp
    have zl := intZ_len (L ++ List.replicate z 0)
    rw [List.length_append, List.length_replicate] at zl
    have ztk : (intZ (L ++ List.replicate z 0)).take L.length = intZ L := by rw [intZ_take, List.take_left']; rfl
    have cl : ∀ hp', hget hp' kk = some ⟨3, 1, x, intZ (L ++ List.replicate z 0)⟩ → spCloneI [.slice (some ⟨kk, 0, none⟩) L.length (L.length + z)] hp' = some (fun k => .slice (some ⟨k, 0, none⟩) L.length L.length, ⟨3, 1, false, intZ L⟩) := fun hp' hk => by
      unfold spCloneI
      simp only [hk, ztk, unZ_of]
      exact if_pos ⟨L0, by omega, by omega⟩
    have dl := delL_len (i : Int) L
    have de : ∀ hp', hget hp' (M + 1) = some ⟨3, 1, false, intZ L⟩ → hget hp' (M + 0) = some ⟨3, 1, true, [.int .i64 i]⟩ →
        spDel [.slice (some ⟨M + 1, 0, none⟩) L.length L.length, .func (.func 35) ⟨[]⟩ ⟨[.pointer (some ⟨M + 0, 0, none⟩)]⟩] hp' =
          some (.slice (some ⟨M + 1, 0, none⟩) (delL i L).length L.length, M + 1, ⟨3, 1, false, intZ (delL i L ++ List.replicate (L.length - (delL i L).length) 0)⟩) := fun hp' g1 g2 => by
      unfold spDel
      simp only [g1, g2, unZ_of]
      exact if_pos ⟨trivial, trivial, Nat.le_refl _, by omega, trivial, by omega⟩
    have inps : (delL i L).all (inR cs) = true := by
      rw [List.all_eq_true]
      intro p hp'
      obtain ⟨q1, q2⟩ := mm p (List.mem_filter.1 hp').1
      have := R.inR q2
      rw [Int.toNat_of_nonneg q1] at this
      exact this
    have sys2 := ok.sub (delL i L) (fun p hp' => mm p (List.mem_filter.1 hp').1) (by omega)
    have sp : ∀ hp', ExtL N h hp' → hget hp' (N + 0) = some ⟨3, 1, true, [.int .i64 n]⟩ → hget hp' (N + 1) = some ⟨22, 1, true, [.slice a l.length c]⟩ → hget hp' (M + 1) = some ⟨3, 1, false, intZ (delL i L ++ List.replicate (L.length - (delL i L).length) 0)⟩ →
        spSpare [.slice (some ⟨M + 1, 0, none⟩) (delL i L).length L.length, .pointer (some ⟨N + 0, 0, none⟩), .pointer (some ⟨N + 1, 0, none⟩)] hp' = some (.bool (!togL n (selL l (delL i L)))) := fun hp' he g0 g1 g2 => by
      have R' := rows hp' he
      unfold spSpare
      simp only [g0, g1, R'.lay, R'.rows, intZ_list g2 dl]
      exact if_pos ⟨R'.self, inps, by omega, sys2⟩
    have xg := extL_ge (show N ≤ M by omega)
    have xh : ExtL N h hp = True := eq_true hh
    have M0 : ∀ d d', (M + d = N + d') = (M + d = N + d') := fun _ _ => rfl
    have e0 : ∀ d, (M + d = N + 0) = False := fun d => eq_false (by omega)
    have e1 : ∀ d, (M + d = N + 1) = False := fun d => eq_false (by omega)
    have e4 : ∀ d, (M + d = N + 4) = False := fun d => eq_false (by omega)
    have e5 : ∀ d, (M + d = N + 5) = False := fun d => eq_false (by omega)
    have f4 : ∀ d, (N + 4 = M + d) = False := fun d => eq_false (by omega)
    have ek : ∀ d, (M + d = kk) = False := fun d => eq_false (by omega)
    have ek4 : (N + 4 = kk) = False := eq_false (by omega)
    have eka : (N = kk) = False := eq_false (by omega)
    generalize eZ0 : intZ (L ++ List.replicate z 0) = ZL0 at *
    generalize eZ : intZ (delL i L ++ List.replicate (L.length - (delL i L).length) 0) = ZL1 at *
    by_cases tg2 : togL n (selL l (delL i L)) = true
    · rw [if_pos tg2] at mS
      rw [tg2] at sp
      simp only [↓R0, R1, simprocAttr, -Int.reduceAbs, rdS, nwS, upS, callF, List.append_nil, b0, b1, b4, b5, bk, cl, de, sp, xg, xh, e0, e1, e4, e5, f4, ek, ek4, Bool.not_true]
      refine rk_of ⟨M + 2, kk, x, ?_, ?_, ?_, ?_, ?_, hkk, by omega, fun q hq => ?_, by omega, rfl⟩
      · simp only [↓R0, R1, simprocAttr, -Int.reduceAbs, e0, b0]
      · simp only [↓R0, R1, simprocAttr, -Int.reduceAbs, e1, b1]
      · rw [mS]
        simp only [↓R0, R1, simprocAttr, -Int.reduceAbs, e4, b4]
      · simp only [↓R0, R1, simprocAttr, -Int.reduceAbs, e5, b5]
      · rw [mS]
        simp only [eZ0]
        simp only [↓R0, R1, simprocAttr, -Int.reduceAbs, ek, bk]
      · have nb : ∀ d, (M + d = q) = False := fun d => eq_false (by omega)
        simp only [↓R0, R1, simprocAttr, -Int.reduceAbs, nb]
        exact hh q hq
    · rw [if_neg tg2] at mS
      have tg3 : togL n (selL l (delL i L)) = false := by simpa using tg2
      rw [tg3] at sp
      simp only [↓R0, R1, simprocAttr, -Int.reduceAbs, rdS, nwS, upS, callF, List.append_nil, b0, b1, b4, b5, bk, cl, de, sp, xg, xh, e0, e1, e4, e5, f4, ek, ek4, Bool.not_false]
      refine rk_of ⟨M + 2, M + 1, false, ?_, ?_, ?_, ?_, ?_, .inr (by omega), by omega, fun q hq => ?_, by omega, rfl⟩
      · simp only [↓R0, R1, simprocAttr, -Int.reduceAbs, e0, b0, show (N + 4 = N + 0) = False from eq_false (by omega)]
      · simp only [↓R0, R1, simprocAttr, -Int.reduceAbs, e1, b1]
      · rw [mS]
        simp only [show (delL (i : Int) L).length + (L.length - (delL (i : Int) L).length) = L.length by omega]
        simp only [↓R0, R1, simprocAttr, -Int.reduceAbs, e4, b4]
      · simp only [↓R0, R1, simprocAttr, -Int.reduceAbs, e5, b5]
      · rw [mS]
        simp only [eZ]
        simp only [↓R0, R1, simprocAttr, -Int.reduceAbs, f4]
      · have nb : ∀ d, (M + d = q) = False := fun d => eq_false (by omega)
        have nc : (N + 4 = q) = False := eq_false (by omega)
        simp only [↓R0, R1, simprocAttr, -Int.reduceAbs, nb, nc]
        exact hh q hq
  · rintro hp nx ⟨M, kk, x, b0, b1, b4, b5, bk, hkk, hkM, hh, hM, hnx⟩ hnn
    rw [hnx]
    clear hnx hnn nx
    simp only [↓R0, R1, simprocAttr, -Int.reduceAbs, y_plain, y_seq, y_block, b4, FinL, isEnd, resL, res1]
    exact ⟨fun _ => kk, _, fun i hi => (by omega : N ≤ kk), fun i j (hi : i < 1) (hj : j < 1) _ => by omega, rfl, rfl, fun i hi => ⟨x, bk⟩, hh⟩
end Go.Eng
end
section
set_option linter.unusedVariables false
set_option linter.unusedSimpArgs false
set_option linter.unusedSectionVars false
set_option maxRecDepth 20000
namespace Go.Eng
open Go Go.Proofs Go.IntWalk
theorem src_lay {h : Heap} {sz : Nat} {a : Addr} {n c : Nat} {cs : List Value} (e : lay sz h (.slice (some a) n c) = some cs) : srcOf h sz n (some a) = some cs := by
  by_cases z : n = 0
  · subst z
    obtain ⟨k, off, tag⟩ := a
    have l0 : cs = [] := by
      obtain ⟨a', l', c', e', hl⟩ := lay_len e
      cases e'
      exact List.eq_nil_of_length_eq_zero (by omega)
    subst l0
    cases tag with
    | some t => unfold srcOf; exact if_pos rfl
    | none =>
      unfold lay at e
      cases hb : hget h k with
      | none => simp [hb] at e
      | some blk =>
        simp only [hb] at e
        split at e
        · unfold srcOf
          simp only [hb, Option.bind_some]
          rw [if_pos (by omega)]
          simp
        · cases e
  · obtain ⟨k, off, blk, ea, hb, _, hle, rfl⟩ := lay_pos e (by omega)
    cases ea
    unfold srcOf
    simp only [hb, Option.bind_some]
    rw [if_pos hle]
def eqNLc (n : Nat) (cs : List Value) : NewL := ⟨1, fun σ => .slice (some ⟨σ 0, 0, none⟩) n n, fun _ => 40, fun _ => 5, fun _ _ => cs⟩
def spCloneE : List Value → Heap → Option NewL
  | [.slice (some a) n c], h => match lay 5 h (.slice (some a) n c) with
    | some cs => if cs.all (selfOK h) = true ∧ n ≤ 1000 then some (eqNLc n cs) else none
    | none => none
  | _, _ => none
theorem spCloneE_mono {args : List Value} {h h' : Heap} {r : NewL} (hl : hle h h') (e : spCloneE args h = some r) : spCloneE args h' = some r := by
  unfold spCloneE at e ⊢
  split at e
  · split at e
    · rename_i cs hb
      split at e
      · rename_i hc
        simp only [lay_mono hl hb]
        rw [if_pos ⟨selfsOK_mono hl hc.1, hc.2⟩]; exact e
      · cases e
    · cases e
  · cases e
def c55 : ICode :=
  (.seq (.reg [qq 2 (.mv (.c (.slice none 0 0)))]) (.seq (.seq (.reg [qq 3 (.mv (.t 0)), qq 4 (.nils false (.t 3) (.c (.slice none 0 0)))]) (.cond (.t 4) (.seq (.reg [qq 2 (.mv (.c (.slice none 0 0)))]) .ret) .skip)) (.seq (.reg [qq 5 (.bslice 40 5 0 [] []), qq 6 (.mv (.t 0)), qq 7 (.app 40 5 72 (.t 5) (.t 6)), qq 2 (.mv (.t 7))]) .ret)))
theorem tr55 : trFun Tryz.prog 55 = some ⟨8, [.t 2], c55⟩ := by kernel_rfl
set_option maxHeartbeats 2000000 in
theorem ok_cloneE : SpecOK Tryz.prog 55 (nwL spCloneE) := by
  refine newL_run (env_nil _) mixed tr55 (fun _ _ _ _ => spCloneE_mono) ?_
  intro args h N r hG hN
  unfold spCloneE at hG
  split at hG
  case h_2 => cases hG
  rename_i a n c
  split at hG
  case h_2 => cases hG
  rename_i cs hx
  split at hG
  case isFalse => cases hG
  rename_i hs
  obtain ⟨hself, hn⟩ := hs
  cases hG
  refine ⟨⟨fun β σ σ' b1 _ => VR.sl (σ 0) 0 _ _ ⟨σ' 0, 0, []⟩ (b1 0 Nat.one_pos), fun β σ σ' _ b2 i hi => selfsOK_vrs b2 hself⟩, by simp, ?_⟩
  have ln : cs.length = n * 5 := by
    obtain ⟨a', l', c', e', hl⟩ := lay_len hx
    cases e'
    exact hl
  have sr : ∀ b : Option Blk, srcOf ((N + 0, b) :: h) 5 n (some a) = some cs := fun b => src_lay (lay_mono (fun k b' e => by
    have := hN _ _ e
    simp only [hget, show (N + 0 = k) = False from eq_false (by omega), if_false]; exact e) hx)
  have lok := selfsOK_cells hself
  by_cases z : n = 0
  · subst z
    have hl : cs = [] := List.eq_nil_of_length_eq_zero (by omega)
    subst hl
    simp only [c55, G0, Nat.reduceAdd]
    simp only [↓R0, R1, simprocAttr, -Int.reduceAbs, sr, Bool.not_false, Bool.not_true, FinL, isEnd, resL, res1]
    refine ⟨fun _ => N + 0, _, fun i hi => Nat.le_refl _, fun i j (hi : i < 1) (hj : j < 1) _ => by omega, rfl, rfl, fun i hi => ⟨true, ?_⟩, fun k hk => ?_⟩
    · simp only [↓R0, R1, simprocAttr, -Int.reduceAbs]
      rfl
    · have nb : ∀ q, (N + q = k) = False := fun q => eq_false (by omega)
      simp only [↓R0, R1, simprocAttr, -Int.reduceAbs, nb]
  · have z' : (n = 0) = False := eq_false z
    have z2 : (n ≤ 0) = False := eq_false (by omega)
    have b1 : (n * 72 ≤ 140737488355328) = True := eq_true (by omega)
    simp only [c55, G0, Nat.reduceAdd]
    simp only [↓R0, R1, simprocAttr, -Int.reduceAbs, sr, z', z2, b1, ln, lok, Nat.zero_add, Nat.zero_mul, Bool.not_false, Bool.not_true, FinL, isEnd, resL, res1]
    refine ⟨fun _ => N + 1, _, fun i hi => Nat.le_add_right _ _, fun i j (hi : i < 1) (hj : j < 1) _ => by omega, rfl, rfl, fun i hi => ⟨false, ?_⟩, fun k hk => ?_⟩
    · simp only [↓R0, R1, simprocAttr, -Int.reduceAbs]
      rfl
    · have nb : ∀ q, (N + q = k) = False := fun q => eq_false (by omega)
      simp only [↓R0, R1, simprocAttr, -Int.reduceAbs, nb]
theorem decEq_len {h : Heap} {cs : List Value} {e : EqR} (x : decEq h cs = some e) : cs.length = 5 := by
  obtain ⟨sl, rfl, _⟩ := decEq_eq x
  rfl
theorem RowsS.push {h h' : Heap} {sl : Value} {l : List EqR} {cs : List Value} (r : RowsS h sl l cs) {ec : List Value} {e : EqR} (he : decEq h ec = some e) (hself : ec.all (selfOK h) = true) (hl : hle h h') {k el sz c : Nat} {x : Bool} (hc : l.length + 1 ≤ c) (hk : hget h' k = some ⟨el, sz, x, cs ++ ec⟩) :
    RowsS h' (.slice (some ⟨k, 0, none⟩) (l.length + 1) c) (l ++ [e]) (cs ++ ec) := by
  have hlen := r.len.1
  have h5 := decEq_len he
  have la : Go.Eng.lay 5 h' (.slice (some ⟨k, 0, none⟩) (l.length + 1) c) = some (cs ++ ec) := by
    unfold Go.Eng.lay
    simp only [hk]
    rw [if_pos ⟨hc, by rw [List.length_append]; omega⟩, List.drop_zero, List.take_of_length_le (by rw [List.length_append]; omega)]
  refine ⟨la, ?_, ?_⟩
  · unfold decRows listAt
    rw [la, Option.bind_some]
    refine many_some (by rw [List.length_append]; rfl) fun i x hx => ?_
    by_cases hi : i < l.length
    · rw [List.getElem?_append_left hi] at hx
      have hm : i * 5 + 5 ≤ cs.length := by omega
      rw [List.drop_append_of_le_length (by omega), List.take_append_of_le_length (by rw [List.length_drop]; omega)]
      have e0 := r.rows
      unfold decRows listAt at e0
      rw [r.lay, Option.bind_some] at e0
      exact decEq_mono hl ((many_get e0).2 i x hx)
    · have hlt := (List.getElem?_eq_some_iff.1 hx).1
      rw [List.length_append, List.length_singleton] at hlt
      have hi' : i = l.length := by omega
      subst hi'
      rw [List.getElem?_append_right (Nat.le_refl _), Nat.sub_self] at hx
      simp only [List.getElem?_cons_zero, Option.some.injEq] at hx
      subst hx
      rw [List.drop_append, List.drop_of_length_le (by omega), List.nil_append, hlen, Nat.sub_self, List.drop_zero, List.take_of_length_le (by omega)]
      exact decEq_mono hl he
  · rw [List.all_append, Bool.and_eq_true]
    exact ⟨selfsOK_mono hl r.self, selfsOK_mono hl hself⟩
def bump (e : EqR) : EqR := { e with rhs := RQ.of (e.rhs.v + 1) }
structure FolOK (n : Int) (l : List EqR) (e : EqR) : Prop where
  len : l.length ≤ 900
  s1 : SysOK n (l ++ [e])
  s2 : SysOK n (l ++ [bump e])
  rn : e.rhs.n.length ≤ 8589934592
  rd : e.rhs.d.length ≤ 8589934592
noncomputable instance {n : Int} {l : List EqR} {e : EqR} : Decidable (FolOK n l e) := Classical.propDecidable _
def folL (n : Int) (l : List EqR) (e : EqR) : Bool := togL n (l ++ [e]) && !togL n (l ++ [bump e])
noncomputable def spFol : List Value → Heap → Option Value
  | [.int .i64 n, .slice (some a) m c, .agg ⟨ec⟩], h => match lay 5 h (.slice (some a) m c), decRows h (.slice (some a) m c), decEq h ec with
    | some cs, some l, some e => if cs.all (selfOK h) = true ∧ ec.all (selfOK h) = true ∧ FolOK n l e then some (.bool (folL n l e)) else none
    | _, _, _ => none
  | _, _ => none
theorem spFol_mono {args : List Value} {h h' : Heap} {r : Value} (hl : hle h h') (e : spFol args h = some r) : spFol args h' = some r := by
  unfold spFol at e ⊢
  split at e
  · split at e
    · rename_i cs l x h1 h2 h3
      split at e
      · rename_i hc
        simp only [lay_mono hl h1, decRows_mono hl h2, decEq_mono hl h3]
        rw [if_pos ⟨selfsOK_mono hl hc.1, selfsOK_mono hl hc.2.1, hc.2.2⟩]; exact e
      · cases e
    · cases e
  · cases e
def c36 : ICode :=
  (.seq (.reg [qq 5 (.box 40 5 (.t 2)), qq 6 (.mv (.c (.bool false)))]) (.seq (.reg [qq 8 (.load true 5 (.t 5)), qq 7 (.alloc 40 5 [(.slice none 0 0), (.bool false), e0, e0, (.int .i64 0)]), qn (.store 5 (.t 7) (.t 8))]) (.seq (.dreg [qu 9 (.faddr 1 (.t 5)), qu 10 (.load true 3 (.t 9)), qu 11 (.call 54 [(ci 1)]), qu 12 (.call 53 [(.t 10), (.t 11)]), qu 13 (.faddr 1 (.t 7)), qm (.store 3 (.t 13) (.t 12))]) (.seq (.dreg [qu 14 (.mv (.t 0)), qu 15 (.mv (.t 1)), qu 16 (.call 55 [(.t 15)]), qv 17 [2] (.load true 5 (.t 5)), qu 18 (.bslice 40 5 1 [(.slice none 0 0), (.bool false), e0, e0, (.int .i64 0)] [(0, 5, (.t 17))]), qu 19 (.app 40 5 72 (.t 16) (.t 18)), qu 20 (.call 28 [(.t 14), (.t 19)]), qu 21 (.mv (.t 20)), ⟨(some 22), (some (21, true)), [], (.mv (.t 0))⟩, ⟨(some 23), (some (21, true)), [], (.mv (.t 1))⟩, ⟨(some 24), (some (21, true)), [], (.call 55 [(.t 23)])⟩, ⟨(some 25), (some (21, true)), [10], (.load true 5 (.t 7))⟩, ⟨(some 26), (some (21, true)), [], (.bslice 40 5 1 [(.slice none 0 0), (.bool false), e0, e0, (.int .i64 0)] [(0, 5, (.t 25))])⟩, ⟨(some 27), (some (21, true)), [], (.app 40 5 72 (.t 24) (.t 26))⟩, ⟨(some 28), (some (21, true)), [], (.call 28 [(.t 22), (.t 27)])⟩, ⟨(some 29), (some (21, true)), [], (.un .not (.t 28))⟩, qu 30 (.pick (.t 21) (.t 29) (.c (.bool false))), qu 6 (.mv (.t 30))]) .ret))))
theorem tr36 : trFun Tryz.prog 36 = some ⟨31, [.t 6], c36⟩ := by kernel_rfl
set_option maxHeartbeats 16000000 in
theorem ok_fol : SpecOK Tryz.prog 36 (rdS spFol) := by
  refine rd_run (env_cons ok_qFrom (env_cons ok_qAdd (env_cons ok_cloneE (env_cons ok_tog (env_nil _))))) mixed tr36 (fun _ _ _ _ => spFol_mono) ?_
  intro args v h N hG hN
  unfold spFol at hG
  split at hG
  case h_2 => cases hG
  rename_i n a m c ec
  split at hG
  case h_2 => cases hG
  rename_i cs l e h1 h2 h3
  split at hG
  case isFalse => cases hG
  rename_i hs
  obtain ⟨hself, heself, ok⟩ := hs
  cases hG
  have R : RowsS h (.slice (some a) m c) l cs := ⟨h1, h2, hself⟩
  obtain ⟨hcl, a', c', ea⟩ := R.len
  cases ea
  obtain ⟨se, rfl, hse⟩ := decEq_eq h3
  refine ⟨by rfl, by simp, ?_⟩
  have hle' : ∀ hp, ExtL N h hp → hle h hp := fun hp he k b e => by rw [he k (hN _ _ e)]; exact e
  have hlen := ok.len
  have kc : ∀ hp k, ExtL N h hp → nwL spCloneE [.slice (some a) l.length c] hp k = some (.slice (some ⟨k, 0, none⟩) l.length l.length, [(k, some ⟨40, 5, false, cs⟩)], 1) := fun hp k he => by
    unfold nwL spCloneE
    simp only [lay_mono (hle' hp he) h1]
    rw [if_pos ⟨selfsOK_mono (hle' hp he) hself, by omega⟩]
    rfl
  have dt : decEq h (se :: (bump e).tl) = some (bump e) := decEq_of (e := bump e) hse
  have t1 : ∀ hp k, ExtL N h hp → hget hp k = some ⟨40, 5, false, cs ++ se :: e.tl⟩ → spTog [.int .i64 n, .slice (some ⟨k, 0, none⟩) (l.length + 1) (l.length + 1)] hp = some (.bool (togL n (l ++ [e]))) := fun hp k he hk =>
    tog_of (R.push h3 heself (hle' hp he) (Nat.le_refl _) hk).rows ok.s1
  have heself2 : (se :: (bump e).tl).all (selfOK h) = true := by
    rw [List.all_cons, Bool.and_eq_true] at heself ⊢
    exact ⟨heself.1, rfl⟩
  have t2 : ∀ hp k, ExtL N h hp → hget hp k = some ⟨40, 5, false, cs ++ se :: (bump e).tl⟩ → spTog [.int .i64 n, .slice (some ⟨k, 0, none⟩) (l.length + 1) (l.length + 1)] hp = some (.bool (togL n (l ++ [bump e]))) := fun hp k he hk =>
    tog_of (R.push dt heself2 (hle' hp he) (Nat.le_refl _) hk).rows ok.s2
  have x0 := extL_ge (Nat.le_refl N)
  have x1 : ExtL N h h = True := eq_true fun _ _ => rfl
  have so : okCell se = true := selfOK_cell (by rw [List.all_cons, Bool.and_eq_true] at heself; exact heself.1)
  have l1 : (l.length + 1 ≤ l.length) = False := eq_false (by omega)
  have l2 : ((l.length + 1) * 72 ≤ 140737488355328) = True := eq_true (by omega)
  have ad : spQAdd [.agg ⟨[.bool e.rhs.s, .string ⟨⟨e.rhs.n⟩⟩, .string ⟨⟨e.rhs.d⟩⟩]⟩, .agg ⟨rE 1⟩] = some (.agg ⟨rE (e.rhs.v + 1)⟩) := by
    have h : spQAdd [.agg ⟨e.rhs.cells⟩, .agg ⟨(RQ.of 1).cells⟩] = some (.agg ⟨rE (e.rhs.v + (RQ.of 1).v)⟩) := if_pos ⟨ok.rn, ok.rd, by decide +kernel, by decide +kernel⟩
    rw [RQ.of_v] at h
    exact h
  have fr : spQFrom [.int .i64 1] = some (.agg ⟨rE 1⟩) := by
    have h : spQFrom [.int .i64 1] = some (.agg ⟨rE ((1 : Int) : Rat)⟩) := by
      unfold spQFrom
      simp only
      rw [if_pos (by omega)]
    exact h
  have bt : (bump e).tl = rE (e.rhs.v + 1) ++ [.int .i64 e.line] := rfl
  have et : e.tl = [.bool e.rhs.s, .string ⟨⟨e.rhs.n⟩⟩, .string ⟨⟨e.rhs.d⟩⟩, .int .i64 e.line] := rfl
  unfold folL
  cases tg : togL n (l ++ [e]) with
  | false =>
    rw [tg] at t1
    simp only [c36, G0, Nat.reduceAdd]
    simp only [↓R0, R1, simprocAttr, -Int.reduceAbs, rdS, flat, et, kc, t1, t2, x0, x1, so, hcl, l1, l2, ad, fr, setR_length, rE_l3', rE_o3', Fin, isEnd, resL, res1]
    exact ⟨_, rfl, rfl, fun k hk => by simp only [ne_nb hk, if_false]⟩
  | true =>
    rw [tg] at t1
    have s1 : setR [se, .bool e.rhs.s, .string ⟨⟨e.rhs.n⟩⟩, .string ⟨⟨e.rhs.d⟩⟩, .int .i64 e.line] 1 (rE (e.rhs.v + 1)) = se :: (bump e).tl := rfl
    have s2 : (se :: (bump e).tl).length = 5 := rfl
    have s3 : (se :: (bump e).tl).take 5 = se :: (bump e).tl := rfl
    have s4 : (se :: (bump e).tl).all okCell = true := by rw [List.all_cons, so]; rfl
    have s5 : setR [.slice none 0 0, .bool false, .string ⟨⟨[]⟩⟩, .string ⟨⟨[]⟩⟩, .int .i64 0] 0 (se :: (bump e).tl) = se :: (bump e).tl := rfl
    generalize se :: (bump e).tl = B5 at *
    simp only [c36, G0, Nat.reduceAdd]
    simp only [↓R0, R1, simprocAttr, -Int.reduceAbs, rdS, flat, et, kc, t1, t2, x0, x1, so, hcl, l1, l2, ad, fr, s1, s2, s3, s4, s5, setR_length, rE_l3', rE_o3', Fin, isEnd, resL, res1]
    exact ⟨_, rfl, rfl, fun k hk => by simp only [ne_nb hk, if_false]⟩
end Go.Eng
end
section
set_option linter.unusedVariables false
set_option linter.unusedSimpArgs false
set_option linter.unusedSectionVars false
set_option maxRecDepth 20000
namespace Go.Eng
open Go Go.Proofs Go.IntWalk
def redS (n : Int) (l : List EqR) : Nat → List Nat × Bool
  | 0 => ([], false)
  | i + 1 => if (redS n l i).2 = true then redS n l i else if togL n (l.take i) = false then ((redS n l i).1, true) else (if folL n (l.take i) (eqAt l i) = true then (redS n l i).1 ++ [i] else (redS n l i).1, false)
def redL (n : Int) (l : List EqR) : List Nat := (redS n l l.length).1
theorem redS_stop {n : Int} {l : List EqR} {i : Nat} (h : (redS n l i).2 = true) : ∀ d, redS n l (i + d) = redS n l i
  | 0 => rfl
  | d + 1 => by
    have ih := redS_stop h d
    show (if (redS n l (i + d)).2 = true then redS n l (i + d) else _) = _
    rw [if_pos (by rw [ih]; exact h), ih]
theorem redS_len (n : Int) (l : List EqR) : ∀ i, (redS n l i).1.length ≤ i
  | 0 => Nat.le_refl _
  | i + 1 => by
    have := redS_len n l i
    unfold redS
    split
    · omega
    · split
      · simp only; omega
      · split
        · simp only [List.length_append, List.length_singleton]; omega
        · simp only; omega
structure RdnOK (n : Int) (l : List EqR) : Prop where
  len : l.length ≤ 900
  sys : ∀ i, i < l.length → SysOK n (l.take i)
  fol : ∀ i, i < l.length → FolOK n (l.take i) (eqAt l i)
noncomputable instance {n : Int} {l : List EqR} : Decidable (RdnOK n l) := Classical.propDecidable _
noncomputable def spRed : List Value → Heap → Option NewL
  | [.int .i64 n, sl], h => match lay 5 h sl, decRows h sl with
    | some cs, some l => if cs.all (selfOK h) = true ∧ RdnOK n l then some (intNL (redL n l)) else none
    | _, _ => none
  | _, _ => none
theorem spRed_mono {args : List Value} {h h' : Heap} {r : NewL} (hl : hle h h') (e : spRed args h = some r) : spRed args h' = some r := by
  unfold spRed at e ⊢
  split at e
  · split at e
    · rename_i cs l h1 h2
      split at e
      · rename_i hc
        simp only [lay_mono hl h1, decRows_mono hl h2]
        rw [if_pos ⟨selfsOK_mono hl hc.1, hc.2⟩]; exact e
      · cases e
    · cases e
  · cases e
theorem red_of {h : Heap} {n : Int} {l : List EqR} {sl : Value} {cs : List Value} (R : RowsS h sl l cs) (hs : RdnOK n l) : spRed [.int .i64 n, sl] h = some (intNL (redL n l)) := by
  unfold spRed
  simp only [R.lay, R.rows]
  exact if_pos ⟨R.self, hs⟩
theorem RowsS.take {h : Heap} {k off m c : Nat} {l : List EqR} {cs : List Value} (r : RowsS h (.slice (some ⟨k, off, none⟩) m c) l cs) (hm : 0 < m) {i : Nat} (hi : i ≤ m) :
    RowsS h (.slice (some ⟨k, off, none⟩) i c) (l.take i) (cs.take (i * 5)) := by
  obtain ⟨k', off', blk, ea, hb, hc, hle, rfl⟩ := lay_pos r.lay hm
  cases ea
  have hlm : l.length = m := by
    obtain ⟨_, a, c', e⟩ := r.len
    cases e; rfl
  have la : Go.Eng.lay 5 h (.slice (some ⟨k, off, none⟩) i c) = some (((blk.cells.drop off).take (m * 5)).take (i * 5)) := by
    rw [List.take_take, Nat.min_eq_left (by omega)]
    unfold Go.Eng.lay
    cases i with
    | zero =>
      simp only [hb]
      rw [if_pos (by omega)]
    | succ i =>
      simp only [hb]
      rw [if_pos (by omega)]
  refine ⟨la, ?_, ?_⟩
  · unfold decRows listAt
    rw [la, Option.bind_some]
    have e0 := r.rows
    unfold decRows listAt at e0
    rw [r.lay, Option.bind_some] at e0
    refine many_some (by rw [List.length_take, hlm]; show min i m = i; omega) fun j x hx => ?_
    have hj : j < i := by
      have := (List.getElem?_eq_some_iff.1 hx).1
      rw [List.length_take] at this; omega
    rw [List.getElem?_take_of_lt hj] at hx
    have := (many_get e0).2 j x hx
    rw [List.drop_take, List.take_take, Nat.min_eq_left (by omega)]
    exact this
  · have := r.self
    rw [List.all_eq_true] at this ⊢
    exact fun v hv => this v (List.mem_of_mem_take hv)
def c14 : ICode :=
  (.seq (.reg [qq 4 (.mv (.c (.slice none 0 0)))]) (.seq (.reg [qq 5 (.mv (.c (.slice none 0 0)))]) (.seq (.seq (.reg [qq 8 (.mv (.t 1)), qq 9 (.lensl (.t 8)), qq 10 (.mv (ci 0))]) (.block 0 (.loop (.seq (.reg [qq 11 (.bin .lss (.t 10) (.t 9))]) (.seq (.cond (.t 11) .skip (.exit 0)) (.seq (.block 1 (.seq (.reg [qq 12 (.mv (.t 10)), qq 13 (.ixsl 5 (.t 8) (.t 10)), qq 14 (.load true 5 (.t 13)), qq 7 (.alloc 40 5 [(.slice none 0 0), (.bool false), e0, e0, (.int .i64 0)]), qq 6 (.mv (.t 12)), qn (.store 5 (.t 7) (.t 14))]) (.seq (.seq (.reg [qq 15 (.mv (.t 0)), qq 16 (.mv (.t 1)), qq 17 (.mv (.t 6)), qq 18 (.slsl 5 (.t 16) none (some (.t 17))), qq 19 (.call 28 [(.t 15), (.t 18)]), qq 20 (.un .not (.t 19))]) (.cond (.t 20) (.exit 0) .skip)) (.seq (.dreg [qu 21 (.mv (.t 0)), qu 22 (.mv (.t 1)), qu 23 (.mv (.t 6)), qu 24 (.slsl 5 (.t 22) none (some (.t 23))), qu 25 (.load true 5 (.t 7)), qu 26 (.call 36 [(.t 21), (.t 24), (.t 25)])]) (.cond (.t 26) (.reg [qq 27 (.mv (.t 5)), qq 28 (.mv (.t 6)), qq 29 (.bslice 3 1 1 [(.int .i64 0)] [(0, 1, (.t 28))]), qq 30 (.app 3 1 8 (.t 27) (.t 29)), qq 5 (.mv (.t 30))]) .skip))))) (.reg [qq 31 (.bin .add (.t 10) (ci 1)), qq 10 (.mv (.t 31))]))))))) (.seq (.reg [qq 32 (.mv (.t 5)), qq 4 (.mv (.t 32))]) .ret))))
theorem tr14 : trFun Tryz.prog 14 = some ⟨33, [.t 4], c14⟩ := by kernel_rfl
set_option maxHeartbeats 16000000 in
theorem ok_red : SpecOK Tryz.prog 14 (nwL spRed) := by
  refine newL_run (env_cons ok_tog (env_cons ok_fol (env_nil _))) mixed tr14 (fun _ _ _ _ => spRed_mono) ?_
  intro args h N r hG hN
  unfold spRed at hG
  split at hG
  case h_2 => cases hG
  rename_i n sl
  split at hG
  case h_2 => cases hG
  rename_i cs l h1 h2
  split at hG
  case isFalse => cases hG
  rename_i hs
  obtain ⟨hself, ok⟩ := hs
  cases hG
  have R : RowsS h sl l cs := ⟨h1, h2, hself⟩
  obtain ⟨hcl, a, c, rfl⟩ := R.len
  have hlen := ok.len
  refine ⟨intNL_par _ _, by simp, ?_⟩
  simp only [c14, G0, Nat.reduceAdd]
  simp only [↓R0, R1, simprocAttr, -Int.reduceAbs]
  refine lp_parts (fun q tm hp nx => ∃ (i M : Nat) (o : Value), q + i = l.length ∧ tmget tm 0 = .int .i64 n ∧ tmget tm 1 = .slice a l.length c ∧ tmget tm 8 = .slice a l.length c ∧ tmget tm 9 = .int .i64 l.length ∧ tmget tm 10 = .int .i64 i ∧ tmget tm 5 = o ∧ (redS n l i).2 = false ∧ OutI hp N M o (redS n l i).1 ∧ (∀ q, q < N → hget hp q = hget h q) ∧ N ≤ M ∧ nx = M + 0) ?_ l.length
    ⟨0, N, .slice none 0 0, by omega, ?_, ?_, ?_, ?_, ?_, ?_, rfl, .inl ⟨rfl, rfl⟩, ?_, Nat.le_refl _, rfl⟩
  rotate_left
  all_goals first | (simp only [↓R0, R1, simprocAttr, -Int.reduceAbs]; done) | (simp only [↓R0, R1, simprocAttr, -Int.reduceAbs]; rfl) | skip
  · exact fun q _ => rfl
  rintro q tm hp nx ⟨i, M, o, hq, t0, t1, t8, t9, t10, t5, ns, hO, hh, hM, hnx⟩
  rw [hnx]
  clear hnx nx
  have wi : IntKind.i64.wrap ((i : Int) + 1) = ((i + 1 : Nat) : Int) := by rw [i64_in _ (by omega)]; omega
  by_cases ci : i < l.length
  case neg =>
    have ei : i = l.length := by omega
    subst ei
    have ci' : ((l.length : Int) < (l.length : Int)) = False := eq_false (by omega)
    unfold redL intNL
    rcases hO with ⟨z, rfl⟩ | ⟨z, kk, x, rfl, h3, h4, h5⟩
    · rw [if_pos z]
      simp only [↓R0, R1, simprocAttr, -Int.reduceAbs, t0, t1, t8, t9, t10, t5, ci', FinL, isEnd, resL, res1]
      refine ⟨fun i => i, _, fun i hi => absurd hi (Nat.not_lt_zero i), fun i j hi => absurd hi (Nat.not_lt_zero i), rfl, rfl, fun i hi => absurd hi (Nat.not_lt_zero i), hh⟩
    · rw [if_neg z]
      simp only [↓R0, R1, simprocAttr, -Int.reduceAbs, t0, t1, t8, t9, t10, t5, ci', FinL, isEnd, resL, res1]
      refine ⟨fun _ => kk, _, fun i hi => (by omega : N ≤ kk), fun i j (hi : i < 1) (hj : j < 1) _ => by omega, rfl, rfl, fun i hi => ⟨x, h3⟩, hh⟩
  have ci' : ((i : Int) < (l.length : Int)) = True := eq_true (by omega)
  have HL : ∀ hp', ExtL N h hp' → hle h hp' := fun hp' he q b e => by rw [he q (hN _ _ e)]; exact e
  have HLp : hle h hp := HL hp hh
  obtain ⟨k, off, blk, ea, hb, hlc, hle, ecs⟩ := lay_pos h1 (by omega)
  subst ea
  have hbb : hget hp k = some blk := HLp _ _ hb
  have nk := hN _ _ hb
  have m5 : off + i * 5 + 5 ≤ blk.cells.length := by omega
  have inp := R.inR ci
  have ec : (blk.cells.drop (off + i * 5)).take 5 = eqC cs (i : Nat) := by
    unfold eqC
    rw [Int.toNat_natCast, ecs, List.drop_take, List.take_take, Nat.min_eq_left (by omega), List.drop_drop]
  have len5 := eqC_len inp
  have fok : (eqC cs (i : Nat)).all okCell = true := eqC_all (selfsOK_cells hself)
  have fself : (eqC cs (i : Nat)).all (selfOK h) = true := eqC_all hself
  have dc := R.eq inp
  rw [Int.toNat_natCast] at dc
  generalize eqC cs (i : Nat) = C5 at *
  have tk5 : C5.take 5 = C5 := List.take_of_length_le (by omega)
  have st5 : setR [.slice none 0 0, .bool false, .string ⟨⟨[]⟩⟩, .string ⟨⟨[]⟩⟩, .int .i64 0] 0 C5 = C5 := by
    match C5, len5 with
    | [x1, x2, x3, x4, x5], _ => rfl
  have RT := R.take (by omega) (Nat.le_of_lt ci)
  have mk : mkSl k off 5 c 0 i = .slice (some ⟨k, off, none⟩) i c := by unfold mkSl; rw [if_neg (by omega), Nat.zero_mul, Nat.add_zero, Nat.sub_zero, Nat.sub_zero]
  have ic : ((i : Int) ≤ (c : Int)) = True := eq_true (by omega)
  have ic2 : (i ≤ c) = True := eq_true (by omega)
  have tt : ∀ hp', ExtL N h hp' → spTog [.int .i64 n, .slice (some ⟨k, off, none⟩) i c] hp' = some (.bool (togL n (l.take i))) := fun hp' he => tog_of (RT.mono (HL hp' he)).rows (ok.sys i ci)
  have tf : ∀ hp', ExtL N h hp' → spFol [.int .i64 n, .slice (some ⟨k, off, none⟩) i c, .agg ⟨C5⟩] hp' = some (.bool (folL n (l.take i) (eqAt l i))) := fun hp' he => by
    have R' := RT.mono (HL hp' he)
    unfold spFol
    simp only [R'.lay, R'.rows, decEq_mono (HL hp' he) dc]
    exact if_pos ⟨R'.self, selfsOK_mono (HL hp' he) fself, ok.fol i ci⟩
  have xg := extL_ge hM
  have xh : ExtL N h hp = True := eq_true hh
  have M0 : ∀ j, (M + j = k) = False := fun j => eq_false (by omega)
  have rs : redS n l (i + 1) = if togL n (l.take i) = false then ((redS n l i).1, true) else (if folL n (l.take i) (eqAt l i) = true then (redS n l i).1 ++ [i] else (redS n l i).1, false) := by
    show (if (redS n l i).2 = true then _ else _) = _
    rw [if_neg (by rw [ns]; simp)]
  have rl := redS_len n l i
  cases tg : togL n (l.take i) with
  | false =>
    rw [tg] at tt
    rw [if_pos tg] at rs
    have fin : redL n l = (redS n l i).1 := by
      unfold redL
      have := redS_stop (n := n) (l := l) (i := i + 1) (by rw [rs]) (l.length - (i + 1))
      rw [show i + 1 + (l.length - (i + 1)) = l.length by omega, rs] at this
      rw [this]
    unfold intNL
    rw [fin]
    rcases hO with ⟨z, rfl⟩ | ⟨z, kk, x, rfl, h3, h4, h5⟩
    · rw [if_pos z]
      simp only [↓R0, R1, simprocAttr, -Int.reduceAbs, rdS, t0, t1, t8, t9, t10, t5, ci, ci', hbb, m5, ec, tk5, st5, len5, fok, setR_length, mk, ic, ic2, hlc, tt, xg, xh, M0, Bool.not_false, FinL, isEnd, resL, res1]
      refine ⟨fun i => i, _, fun i hi => absurd hi (Nat.not_lt_zero i), fun i j hi => absurd hi (Nat.not_lt_zero i), rfl, rfl, fun i hi => absurd hi (Nat.not_lt_zero i), fun q hq => ?_⟩
      have nb : ∀ d, (M + d = q) = False := fun d => eq_false (by omega)
      simp only [↓R0, R1, simprocAttr, -Int.reduceAbs, nb]
      exact hh q hq
    · rw [if_neg z]
      simp only [↓R0, R1, simprocAttr, -Int.reduceAbs, rdS, t0, t1, t8, t9, t10, t5, ci, ci', hbb, m5, ec, tk5, st5, len5, fok, setR_length, mk, ic, ic2, hlc, tt, xg, xh, M0, Bool.not_false, FinL, isEnd, resL, res1]
      refine ⟨fun _ => kk, _, fun i hi => (by omega : N ≤ kk), fun i j (hi : i < 1) (hj : j < 1) _ => by omega, rfl, rfl, fun i hi => ⟨x, ?_⟩, fun q hq => ?_⟩
      · have nb : ∀ d, (M + d = kk) = False := fun d => eq_false (by omega)
        simp only [↓R0, R1, simprocAttr, -Int.reduceAbs, nb]
        exact h3
      · have nb : ∀ d, (M + d = q) = False := fun d => eq_false (by omega)
        simp only [↓R0, R1, simprocAttr, -Int.reduceAbs, nb]
        exact hh q hq
  | true =>
    rw [tg] at tt
    rw [if_neg (by rw [tg]; simp)] at rs
    cases fg : folL n (l.take i) (eqAt l i) with
    | false =>
      rw [fg] at tf
      rw [if_neg (by rw [fg]; simp)] at rs
      simp only [↓R0, R1, simprocAttr, -Int.reduceAbs, rdS, t0, t1, t8, t9, t10, t5, ci, ci', hbb, m5, ec, tk5, st5, len5, fok, setR_length, mk, ic, ic2, hlc, tt, tf, xg, xh, M0, wi, Bool.not_true]
      refine ⟨q - 1, by omega, i + 1, M + 1, o, by omega, rfl, rfl, by rw [rs], ?_, fun q hq => ?_, by omega, rfl⟩
      · rw [rs]
        rcases hO with ⟨z, rfl⟩ | ⟨z, kk, x, rfl, h3, h4, h5⟩
        · exact .inl ⟨z, rfl⟩
        · refine .inr ⟨z, kk, x, rfl, ?_, h4, by omega⟩
          have nb : ∀ d, (M + d = kk) = False := fun d => eq_false (by omega)
          simp only [↓R0, R1, simprocAttr, -Int.reduceAbs, nb]
          exact h3
      · have nb : ∀ d, (M + d = q) = False := fun d => eq_false (by omega)
        simp only [↓R0, R1, simprocAttr, -Int.reduceAbs, nb]
        exact hh q hq
    | true =>
      rw [fg] at tf
      rw [if_pos fg] at rs
      generalize (redS n l i).1 = out at *
      rcases hO with ⟨z, rfl⟩ | ⟨z, kk, x, rfl, h3, h4, h5⟩
      · simp only [↓R0, R1, simprocAttr, -Int.reduceAbs, rdS, t0, t1, t8, t9, t10, t5, ci, ci', hbb, m5, ec, tk5, st5, len5, fok, setR_length, mk, ic, ic2, hlc, tt, tf, xg, xh, M0, wi, Bool.not_true]
        refine ⟨q - 1, by omega, i + 1, M + 3, .slice (some ⟨M + 2, 0, none⟩) 1 1, by omega, rfl, rfl, by rw [rs], .inr ⟨by rw [rs]; simp, M + 2, false, by rw [rs, z]; rfl, ?_, by omega, by omega⟩, fun q hq => ?_, by omega, rfl⟩
        · rw [rs, z]
          simp only [↓R0, R1, simprocAttr, -Int.reduceAbs]
          rfl
        · have nb : ∀ d, (M + d = q) = False := fun d => eq_false (by omega)
          simp only [↓R0, R1, simprocAttr, -Int.reduceAbs, nb]
          exact hh q hq
      · have v1 : ∀ d, (M + d = kk) = False := fun d => eq_false (by omega)
        have v2 : ∀ d, (kk = M + d) = False := fun d => eq_false (by omega)
        have lI : (intC out).length = out.length := by unfold intC; rw [List.length_map]
        have aI : intC out ++ [.int .i64 (i : Nat)] = intC (out ++ [i]) := by unfold intC; rw [List.map_append]; rfl
        have nler : (out.length + 1 ≤ out.length) = False := eq_false (by omega)
        have ovr : ((out.length + 1) * 8 ≤ 140737488355328) = True := eq_true (by omega)
        generalize intC out = IC0 at *
        generalize eIC : intC (out ++ [i]) = IC1 at *
        simp only [↓R0, R1, simprocAttr, -Int.reduceAbs, rdS, t0, t1, t8, t9, t10, t5, ci, ci', hbb, m5, ec, tk5, st5, len5, fok, setR_length, mk, ic, ic2, hlc, tt, tf, xg, xh, M0, wi, h3, lI, aI, nler, ovr, v1, v2, Bool.not_true]
        refine ⟨q - 1, by omega, i + 1, M + 3, .slice (some ⟨M + 2, 0, none⟩) (out.length + 1) (out.length + 1), by omega, rfl, rfl, by rw [rs], .inr ⟨by rw [rs]; simp, M + 2, false, by rw [rs]; simp, ?_, by omega, by omega⟩, fun q hq => ?_, by omega, rfl⟩
        · rw [rs, eIC]
          simp only [↓R0, R1, simprocAttr, -Int.reduceAbs, v1, v2]
        · have nb : ∀ d, (M + d = q) = False := fun d => eq_false (by omega)
          have nq : (kk = q) = False := eq_false (by omega)
          simp only [↓R0, R1, simprocAttr, -Int.reduceAbs, nb, nq]
          exact hh q hq
end Go.Eng
end
section
set_option linter.unusedVariables false
set_option linter.unusedSimpArgs false
set_option linter.unusedSectionVars false
set_option maxRecDepth 20000
namespace Go.Eng
open Go Go.Proofs Go.IntWalk
def sameTo (xs ys : Nat → Rat) (i : Nat) : Prop := ∀ j, j < i → xs j = ys j
instance {xs ys : Nat → Rat} {i : Nat} : Decidable (sameTo xs ys i) := by unfold sameTo; infer_instance
def allTo (l : List EqR) (vs : List RQ) (i : Nat) : Prop := ∀ j, j < i → holdsE (eqAt l j) vs = true
instance {l : List EqR} {vs : List RQ} {i : Nat} : Decidable (allTo l vs i) := by unfold allTo; infer_instance
end Go.Eng
end
section
set_option linter.unusedVariables false
set_option linter.unusedSimpArgs false
set_option linter.unusedSectionVars false
namespace Go.Eng
def blkC (f : Nat → List Value) : Nat → List Value
  | 0 => []
  | n + 1 => blkC f n ++ f n
theorem blkC_len {f : Nat → List Value} {w : Nat} : ∀ {n}, (∀ i, i < n → (f i).length = w) → (blkC f n).length = n * w
  | 0, _ => by simp [blkC]
  | n + 1, h => by rw [blkC, List.length_append, blkC_len (n := n) fun i hi => h i (by omega), h n (by omega), Nat.succ_mul]
theorem blkC_congr {f g : Nat → List Value} : ∀ {n}, (∀ i, i < n → f i = g i) → blkC f n = blkC g n
  | 0, _ => rfl
  | n + 1, h => by rw [blkC, blkC, blkC_congr (n := n) fun i hi => h i (by omega), h n (by omega)]
theorem blkC_at {f : Nat → List Value} {w : Nat} : ∀ {n j}, (∀ i, i < n → (f i).length = w) → j < n → ((blkC f n).drop (j * w)).take w = f j
  | 0, j, _, h => absurd h (Nat.not_lt_zero j)
  | n + 1, j, hf, h => by
    have hl := blkC_len (f := f) (w := w) (n := n) fun i hi => hf i (by omega)
    rw [blkC]
    by_cases e : j = n
    · subst e
      rw [List.drop_append_of_le_length (by omega), List.drop_of_length_le (by omega), List.nil_append, List.take_of_length_le (by rw [hf j (by omega)]; exact Nat.le_refl _)]
    · have : j * w + w ≤ n * w := by rw [← Nat.succ_mul]; exact Nat.mul_le_mul_right _ (by omega)
      rw [List.drop_append_of_le_length (by omega), List.take_append_of_le_length (by rw [List.length_drop]; omega)]
      exact blkC_at (fun i hi => hf i (by omega)) (by omega)
theorem rows_blk {h : Heap} {k e s m : Nat} {x : Bool} {f : Nat → List Value} {l : List EqR} (hb : hget h k = some ⟨e, s, x, blkC f m⟩) (hl : l.length = m) (hf : ∀ i, i < m → ∃ sl, f i = sl :: (eqAt l i).tl ∧ listAt 3 dec1 h sl = some (eqAt l i).coef) :
    decRows h (.slice (some ⟨k, 0, none⟩) m m) = some l := by
  have h5 : ∀ i, i < m → (f i).length = 5 := fun i hi => by
    obtain ⟨sl, e1, _⟩ := hf i hi
    rw [e1]; rfl
  have hlen := blkC_len h5
  unfold decRows listAt
  have la : lay 5 h (.slice (some ⟨k, 0, none⟩) m m) = some (blkC f m) := by
    cases m with
    | zero =>
      show (match hget h k with | some blk => if 0 ≤ 0 ∧ 0 + 0 * 5 ≤ blk.cells.length then some ((blk.cells.drop 0).take (0 * 5)) else none | none => none) = _
      rw [hb]
      rfl
    | succ d =>
      unfold lay
      simp only [hb]
      rw [if_pos ⟨by omega, by omega⟩, List.drop_zero, List.take_of_length_le (by omega)]
  rw [la]
  show many 5 (decEq h) m _ = _
  refine many_some hl fun i p hp => ?_
  have hi : i < l.length := (List.getElem?_eq_some_iff.1 hp).1
  rw [eqAt_some hi] at hp
  cases hp
  rw [blkC_at h5 (by omega)]
  obtain ⟨sl, e1, e2⟩ := hf i (by omega)
  rw [e1]
  exact decEq_of e2
end Go.Eng
end
section
set_option linter.unusedVariables false
set_option linter.unusedSimpArgs false
set_option linter.unusedSectionVars false
set_option maxRecDepth 20000
namespace Go.Eng
open Go Go.Proofs Go.IntWalk
end Go.Eng
end
section
set_option linter.unusedVariables false
set_option linter.unusedSimpArgs false
set_option linter.unusedSectionVars false
set_option maxRecDepth 20000
namespace Go.Eng
open Go Go.Proofs Go.IntWalk
theorem rqs_list {h : Heap} {k e s : Nat} {x : Bool} {l : List RQ} {n : Nat} (hb : hget h k = some ⟨e, s, x, rqs l⟩) (hn : l.length = n) (h0 : 0 < n) : listAt 3 dec1 h (.slice (some ⟨k, 0, none⟩) n n) = some l := by
  have hl := rqs_len l
  obtain ⟨d, hd⟩ : ∃ d, n = d + 1 := ⟨n - 1, by omega⟩
  unfold listAt
  have la : lay 3 h (.slice (some ⟨k, 0, none⟩) n n) = some (rqs l) := by
    unfold lay
    rw [hd]
    simp only [hb]
    rw [if_pos ⟨by omega, by omega⟩, ← hd, List.drop_zero, List.take_of_length_le (by omega)]
  rw [la]
  show many 3 dec1 n _ = _
  refine many_some hn fun i q hq => ?_
  rw [rqs_at _ _ _ hq]; rfl
end Go.Eng
end
section
set_option linter.unusedVariables false
set_option linter.unusedSimpArgs false
set_option linter.unusedSectionVars false
set_option maxRecDepth 20000
namespace Go.Eng
open Go Go.Proofs Go.IntWalk
def scF (ρ : Nat → Nat) (n : Nat) (l : List EqR) (j : Nat) : List Value := .slice (some ⟨ρ j, 0, none⟩) n n :: (eqAt l j).tl
def updN (ρ : Nat → Nat) (i v : Nat) : Nat → Nat := fun j => if j = i then v else ρ j
theorem updN_eq (ρ : Nat → Nat) (i v : Nat) : updN ρ i v i = v := if_pos rfl
theorem updN_ne {ρ : Nat → Nat} {i v j : Nat} (h : j ≠ i) : updN ρ i v j = ρ j := if_neg h
def ScS (hp : Heap) (N M n : Nat) (l : List EqR) (i : Nat) (sl : Value) : Prop :=
  (i = 0 ∧ sl = .slice none 0 0) ∨ (0 < i ∧ ∃ (kL : Nat) (x : Bool) (ρ : Nat → Nat), sl = .slice (some ⟨kL, 0, none⟩) i i ∧ hget hp kL = some ⟨40, 5, x, blkC (scF ρ n l) i⟩ ∧ (N ≤ kL ∧ kL < M) ∧
    ∀ j, j < i → (∃ y, hget hp (ρ j) = some ⟨38, 3, y, rqs (eqAt l j).coef⟩) ∧ N ≤ ρ j ∧ ρ j < M ∧ ρ j ≠ kL)
theorem ScS.push {hp hp' : Heap} {N M M' n i kN rN : Nat} {l : List EqR} {x y : Bool} {ρ : Nat → Nat}
    (old : ∀ j, j < i → (∃ y, hget hp (ρ j) = some ⟨38, 3, y, rqs (eqAt l j).coef⟩) ∧ N ≤ ρ j ∧ ρ j < M) (keep : ∀ j, j < i → hget hp' (ρ j) = hget hp (ρ j))
    (hk : hget hp' kN = some ⟨40, 5, x, blkC (scF ρ n l) i ++ (.slice (some ⟨rN, 0, none⟩) n n :: (eqAt l i).tl)⟩) (hr : hget hp' rN = some ⟨38, 3, y, rqs (eqAt l i).coef⟩) (h1 : M ≤ kN) (h2 : kN < M') (h3 : M ≤ rN) (h4 : rN < M') (h5 : rN ≠ kN) (h6 : N ≤ M) :
    ScS hp' N M' n l (i + 1) (.slice (some ⟨kN, 0, none⟩) (i + 1) (i + 1)) := by
  refine .inr ⟨by omega, kN, x, updN ρ i rN, rfl, ?_, by omega, fun j hj => ?_⟩
  · rw [hk]
    congr 2
    show _ = blkC _ i ++ _
    congr 1
    · exact blkC_congr fun j hj => by unfold scF; rw [updN_ne (by omega)]
    · unfold scF; rw [updN_eq]
  · by_cases e : j = i
    · subst e
      rw [updN_eq]
      exact ⟨⟨y, hr⟩, by omega, h4, h5⟩
    · rw [updN_ne e]
      obtain ⟨⟨y, a⟩, b, c⟩ := old j (by omega)
      exact ⟨⟨y, by rw [keep j (by omega)]; exact a⟩, b, by omega, by omega⟩
theorem ScS.rows {hp hp' : Heap} {N M n : Nat} {l : List EqR} {sl : Value} (H : ScS hp N M n l l.length sl) (hn : 0 < n) (hl : ∀ e ∈ l, e.coef.length = n) (he : ExtL M hp hp') : decRows hp' sl = some l := by
  rcases H with ⟨z, rfl⟩ | ⟨_, kL, x, ρ, rfl, hk, hb, hr⟩
  · rw [List.eq_nil_of_length_eq_zero z]; rfl
  · refine rows_blk (f := scF ρ n l) (by rw [he kL hb.2]; exact hk) rfl fun i hi => ?_
    obtain ⟨⟨y, a⟩, b, c, _⟩ := hr i hi
    exact ⟨_, rfl, rqs_list (by rw [he _ c]; exact a) (hl _ (eqAt_mem hi)) hn⟩
theorem ScS.sl {hp : Heap} {N M n i : Nat} {l : List EqR} {sl : Value} (H : ScS hp N M n l i sl) : ∃ a, sl = .slice a i i := by
  rcases H with ⟨z, rfl⟩ | ⟨_, kL, x, ρ, rfl, _⟩
  · exact ⟨none, by rw [z]⟩
  · exact ⟨_, rfl⟩
end Go.Eng
end
section
set_option linter.unusedVariables false
set_option linter.unusedSimpArgs false
set_option linter.unusedSectionVars false
set_option maxRecDepth 20000
namespace Go.Eng
open Go Go.Proofs Go.IntWalk
def fq (f : Nat → Rat) (n : Nat) : List RQ := (List.range n).map fun j => RQ.of (f j)
theorem fq_len (f : Nat → Rat) (n : Nat) : (fq f n).length = n := by unfold fq; rw [List.length_map, List.length_range]
end Go.Eng
end
section
set_option linter.unusedVariables false
set_option linter.unusedSimpArgs false
set_option linter.unusedSectionVars false
set_option maxRecDepth 20000
namespace Go.Eng
open Go Go.Proofs Go.IntWalk
theorem lead_eq {n k : Nat} {f : Row} (h1 : ∀ j, j < k → f j = 0) (hk : k ≤ n) (h2 : k < n → f k ≠ 0) : leadN n f = k := by
  by_cases c : k < n
  · exact leadN_of c h1 (h2 c)
  · have : k = n := by omega
    subst this
    rcases Nat.lt_or_ge (leadN k f) k with x | x
    · exact absurd (h1 _ x) (leadN_ne x)
    · have := leadN_le k f; omega
theorem lead_congr {n : Nat} {f g : Row} (h : ∀ j, j < n → f j = g j) : leadN n f = leadN n g :=
  lead_eq (fun j hj => by rw [h j (by have := leadN_le n g; omega)]; exact leadN_z hj) (leadN_le n g) fun c => by rw [h _ c]; exact leadN_ne c
def oB : Nat → Nat
  | 0 => 0
  | p + 1 => 2 * oB p + 2 * (6 + p * (7 + oB p)) + 2
def canE (n : Nat) (f : Row) : EqR := ⟨fq f n, RQ.of (f n), 0⟩
theorem fq_congr {f g : Row} {n : Nat} (h : ∀ j, j < n → f j = g j) : fq f n = fq g n := by
  unfold fq
  exact List.map_congr_left fun j hj => by rw [h j (List.mem_range.1 hj)]
theorem canE_congr {f g : Row} {n : Nat} (h : ∀ j, j ≤ n → f j = g j) : canE n f = canE n g := by
  unfold canE
  rw [fq_congr fun j hj => h j (by omega), h n (Nat.le_refl _)]
def eqOk (e : EqR) (k : Nat) : Prop := (∀ q ∈ e.coef, q.ok k) ∧ e.rhs.ok k
instance {e : EqR} {k : Nat} : Decidable (eqOk e k) := by unfold eqOk; infer_instance
end Go.Eng
end
section
set_option linter.unusedVariables false
set_option linter.unusedSimpArgs false
set_option linter.unusedSectionVars false
set_option maxRecDepth 20000
namespace Go.Eng
open Go Go.Proofs Go.IntWalk
end Go.Eng
end
section
set_option linter.unusedVariables false
set_option linter.unusedSimpArgs false
set_option linter.unusedSectionVars false
set_option maxRecDepth 20000
namespace Go.Eng
open Go Go.Proofs Go.IntWalk
def spR3From : List Value → Option Value
  | [.int .i64 x] => if -1000 ≤ x ∧ x ≤ 1000 then some (.agg ⟨rE (x : Rat)⟩) else none
  | _ => none
def c21 : ICode :=
  (.seq (.reg [qq 2 (.alloc 38 3 [(.bool false), e0, e0])]) (.seq (.reg [qq 6 (.mv (.t 0)), qq 7 (.call 47 [(.t 6)]), qq 8 (.call 48 []), qq 9 (.call 42 [(.t 7), (.t 8)]), qq 5 (.mv (.t 9)), qq 10 (.ext (.t 5) 0), qq 11 (.ext (.t 5) 1), qq 3 (.alloc 38 3 [(.bool false), e0, e0]), qn (.store 3 (.t 3) (.t 10)), qq 4 (.mv (.t 11))]) (.seq (.reg [qq 12 (.load true 3 (.t 3)), qn (.store 3 (.t 2) (.t 12))]) .ret)))
theorem tr21 : trFun Tryz.prog 21 = some ⟨13, [.cell 2 true 3], c21⟩ := by kernel_rfl
theorem ok_r3From : SpecOK Tryz.prog 21 (flat spR3From) := by
  refine flat_run (env_cons ok_r2From (env_cons ok_r3one (env_cons ok_r3Make (env_nil _)))) mixed tr21 ?_
  intro args v h N hG
  unfold spR3From at hG
  split at hG
  case h_2 => cases hG
  rename_i x
  split at hG
  case isFalse => cases hG
  rename_i hl
  obtain ⟨h1, h2⟩ := hl
  cases hG
  refine ⟨rfl, by simp, ?_⟩
  have g : -9223372036854775808 ≤ x ∧ x ≤ 9223372036854775807 := ⟨by omega, by omega⟩
  have o1 : sv false (bl (Int.natAbs 1)) = 1 := by rw [sv_false, nl_bl]; rfl
  have o2 : (bl (Int.natAbs 1)).length ≤ 68719476736 := Nat.le_trans (bl_length_le (k := 1).2 (by decide)) (by omega)
  have o3 : ¬ (Int.natAbs 1 = 0) := by decide
  have o4 : (bl x.natAbs).length ≤ 68719476736 := Nat.le_trans (bl_length_le (k := 2).2 (by omega)) (by omega)
  rw [← divInt_one]
  simp only [c21, G0, Nat.reduceAdd]
  simp only [↓R0, R1, simprocAttr, -Int.reduceAbs, spI2From, spOne, spR3Make, g, o1, o2, o3, o4, sv_can, nl_bl, Fin, isEnd, resL, res1, iE, rE]
  exact ⟨_, rfl, rfl, fun k hk => by simp only [ne_nb hk, if_false]⟩
theorem PInv.congr {n : Nat} {out out' : List Row} (H : PInv n out) (hl : out'.length = out.length) (h : ∀ p, p < out.length → ∀ j, j ≤ n → rowAt out' p j = rowAt out p j) : PInv n out' := by
  have le : ∀ p, p < out.length → leadN n (rowAt out' p) = leadN n (rowAt out p) := fun p hp => lead_congr fun j hj => h p hp j (by omega)
  refine ⟨fun p hp => by rw [le p (by omega)]; exact H.lt p (by omega), fun p hp => ?_, fun p q hp hq hqp => ?_⟩
  · rw [le p (by omega), h p (by omega) _ (leadN_le n _)]; exact H.one p (by omega)
  · rw [le p (by omega), h q (by omega) _ (leadN_le n _)]; exact H.col p q (by omega) (by omega) hqp
def PV (k n : Nat) (f : Row) : List Value := .slice (some ⟨k, 0, none⟩) n n :: (canE n f).tl
theorem PV_congr {k n : Nat} {f g : Row} (h : ∀ j, j ≤ n → f j = g j) : PV k n f = PV k n g := by unfold PV; rw [canE_congr h]
def pvF (ρ : Nat → Nat) (n : Nat) (Rw : Nat → Row) (j : Nat) : List Value := PV (ρ j) n (Rw j)
structure EqH (hp : Heap) (lo hi kO n p : Nat) (ρ : Nat → Nat) (Rw : Nat → Row) : Prop where
  hd : ∃ x, hget hp kO = some ⟨40, 5, x, blkC (pvF ρ n Rw) p⟩
  row : ∀ j, j < p → ∃ y, hget hp (ρ j) = some ⟨38, 3, y, rqs (fq (Rw j) n)⟩
  inj : ∀ i j, i < p → j < p → ρ i = ρ j → i = j
  ne : ∀ j, j < p → ρ j ≠ kO
  bd : ∀ j, j < p → lo ≤ ρ j ∧ ρ j < hi
  kb : lo ≤ kO ∧ kO < hi
theorem EqH.mono {hp hp' : Heap} {lo hi hi' kO n p : Nat} {ρ : Nat → Nat} {Rw : Nat → Row} (H : EqH hp lo hi kO n p ρ Rw) (hh : hi ≤ hi') (he : ∀ q, lo ≤ q → q < hi → hget hp' q = hget hp q) : EqH hp' lo hi' kO n p ρ Rw where
  hd := by obtain ⟨x, h⟩ := H.hd; exact ⟨x, by rw [he kO H.kb.1 H.kb.2]; exact h⟩
  row := fun j hj => by obtain ⟨y, h⟩ := H.row j hj; exact ⟨y, by rw [he _ (H.bd j hj).1 (H.bd j hj).2]; exact h⟩
  inj := H.inj
  ne := H.ne
  bd := fun j hj => by have := H.bd j hj; omega
  kb := by have := H.kb; omega
theorem EqH.congr {hp : Heap} {lo hi kO n p : Nat} {ρ : Nat → Nat} {Rw Rw' : Nat → Row} (H : EqH hp lo hi kO n p ρ Rw) (h : ∀ j, j < p → ∀ i, i ≤ n → Rw' j i = Rw j i) : EqH hp lo hi kO n p ρ Rw' where
  hd := by
    obtain ⟨x, e⟩ := H.hd
    refine ⟨x, ?_⟩
    rw [e, blkC_congr (f := pvF ρ n Rw) (g := pvF ρ n Rw') fun j hj => PV_congr fun i hi => (h j hj i hi).symm]
  row := fun j hj => by obtain ⟨y, e⟩ := H.row j hj; exact ⟨y, by rw [e, fq_congr fun i hi => (h j hj i (by omega)).symm]⟩
  inj := H.inj
  ne := H.ne
  bd := H.bd
  kb := H.kb
theorem EqH.push {hp hp' : Heap} {lo hi hi' kO n p kN kr : Nat} {ρ : Nat → Nat} {Rw Rw' : Nat → Row} {f : Row} (H : EqH hp lo hi kO n p ρ Rw) (hk : hi ≤ kN) (hk' : kN < hi') (hr : hi ≤ kr) (hr' : kr < hi') (hne : kr ≠ kN) {x y : Bool}
    (h1 : hget hp' kN = some ⟨40, 5, x, blkC (pvF ρ n Rw) p ++ PV kr n f⟩) (h2 : hget hp' kr = some ⟨38, 3, y, rqs (fq f n)⟩) (he : ∀ q, lo ≤ q → q < hi → q ≠ kO → hget hp' q = hget hp q)
    (hw : ∀ j, j < p → Rw' j = Rw j) (hw' : Rw' p = f) : EqH hp' lo hi' kN n (p + 1) (updN ρ p kr) Rw' where
  hd := by
    refine ⟨x, ?_⟩
    rw [h1]
    refine congrArg (fun c => some (⟨40, 5, x, c⟩ : Blk)) ?_
    rw [blkC]
    congr 1
    · exact blkC_congr fun q hq => by unfold pvF; rw [updN_ne (by omega), hw q hq]
    · unfold pvF; rw [updN_eq, hw']
  row := fun j hj => by
    by_cases e : j = p
    · rw [e, updN_eq, hw']; exact ⟨y, h2⟩
    · rw [updN_ne e, hw j (by omega)]
      obtain ⟨z, h⟩ := H.row j (by omega)
      exact ⟨z, by rw [he _ (H.bd j (by omega)).1 (H.bd j (by omega)).2 (H.ne j (by omega))]; exact h⟩
  inj := fun a b ha hb e => by
    by_cases ea : a = p
    · by_cases eb : b = p
      · rw [ea, eb]
      · rw [ea, updN_eq, updN_ne eb] at e
        have := (H.bd b (by omega)).2; omega
    · by_cases eb : b = p
      · rw [eb, updN_eq, updN_ne ea] at e
        have := (H.bd a (by omega)).2; omega
      · rw [updN_ne ea, updN_ne eb] at e; exact H.inj a b (by omega) (by omega) e
  ne := fun j hj => by
    by_cases e : j = p
    · rw [e, updN_eq]; exact hne
    · rw [updN_ne e]; have := (H.bd j (by omega)).2; omega
  bd := fun j hj => by
    by_cases e : j = p
    · rw [e, updN_eq]; have := H.kb; omega
    · rw [updN_ne e]; have := H.bd j (by omega); omega
  kb := by have := H.kb; omega
def canL (n p : Nat) (Rw : Nat → Row) : List EqR := (List.range p).map fun j => canE n (Rw j)
theorem canL_len (n p : Nat) (Rw : Nat → Row) : (canL n p Rw).length = p := by unfold canL; rw [List.length_map, List.length_range]
theorem canL_at {n p j : Nat} {Rw : Nat → Row} (h : j < p) : eqAt (canL n p Rw) j = canE n (Rw j) := by
  unfold eqAt canL
  rw [List.getElem?_map, List.getElem?_range h]; rfl
theorem EqH.rows {hp : Heap} {lo hi kO n p : Nat} {ρ : Nat → Nat} {Rw : Nat → Row} (H : EqH hp lo hi kO n p ρ Rw) (h0 : 0 < p → 0 < n) : decRows hp (.slice (some ⟨kO, 0, none⟩) p p) = some (canL n p Rw) := by
  obtain ⟨x, hb⟩ := H.hd
  refine rows_blk hb (canL_len _ _ _) fun i hi => ?_
  obtain ⟨y, hr⟩ := H.row i hi
  rw [canL_at hi]
  exact ⟨_, rfl, rqs_list hr (fq_len _ _) (h0 (by omega))⟩
def RedOK (n : Nat) (l : List EqR) : Prop := n ≤ 8 ∧ l.length ≤ 100 ∧ (∀ e ∈ l, e.coef.length = n) ∧ ∀ e ∈ l, eqOk e 4
instance {n : Nat} {l : List EqR} : Decidable (RedOK n l) := by unfold RedOK; infer_instance
end Go.Eng
end
section
set_option linter.unusedVariables false
set_option linter.unusedSimpArgs false
set_option linter.unusedSectionVars false
set_option maxRecDepth 20000
namespace Go.Eng
open Go Go.Proofs Go.IntWalk
def spRow : List Value → Heap → Option ((Nat → Value) × Blk)
  | [.int .i64 r, .slice (some ⟨k, 0, none⟩) 2 2], h => match hget h k with
    | some ⟨_, _, _, [.int .i64 x, .int .i64 y]⟩ => if (-1000 ≤ r ∧ r ≤ 1000) ∧ (-1000 ≤ x ∧ x ≤ 1000) ∧ -1000 ≤ y ∧ y ≤ 1000 then
        some (fun k => .agg ⟨eqV k 2 r⟩, ⟨38, 3, false, ratC [(x : Rat), (y : Rat)]⟩) else none
    | _ => none
  | _, _ => none
theorem r3From_of {x : Int} (h : -1000 ≤ x ∧ x ≤ 1000) : spR3From [.int .i64 x] = some (.agg ⟨rE (x : Rat)⟩) := if_pos (by omega)
def eqV0 (r : Rat) : List Value := .slice none 0 0 :: (eqOf [] r).tl
theorem eqV_b0 (r : Rat) : setR [.slice none 0 0, .bool false, .string ⟨⟨[]⟩⟩, .string ⟨⟨[]⟩⟩, .int .i64 0] 1 (rE r) = eqV0 r := rfl
theorem eqV_s0 (r : Rat) : setR [.slice none 0 0, .bool false, .string ⟨⟨[]⟩⟩, .string ⟨⟨[]⟩⟩, .int .i64 0] 0 (eqV0 r) = eqV0 r := rfl
theorem eqV_g0 (r : Rat) : (eqV0 r)[0]? = some (.slice none 0 0) := rfl
theorem eqV_p0 (k n : Nat) (r : Rat) : (eqV0 r).set 0 (.slice (some ⟨k, 0, none⟩) n n) = eqV k n r := rfl
theorem eqV_l0 (r : Rat) : (eqV0 r).length = 5 := rfl
theorem eqV_o0 (r : Rat) : (eqV0 r).all okCell = true := rfl
theorem eqV_g (k n : Nat) (r : Rat) : (eqV k n r)[0]? = some (.slice (some ⟨k, 0, none⟩) n n) := rfl
theorem eqV_p (k n k' n' : Nat) (r : Rat) : (eqV k n r).set 0 (.slice (some ⟨k', 0, none⟩) n' n') = eqV k' n' r := rfl
def c25 : ICode :=
  (.seq (.reg [qq 4 (.alloc 40 5 [(.slice none 0 0), (.bool false), e0, e0, (.int .i64 0)])]) (.seq (.reg [qq 7 (.mv (.t 0)), qq 8 (.call 21 [(.t 7)]), qq 9 (.build [(.slice none 0 0), (.bool false), e0, e0, (.int .i64 0)] [(1, 3, (.t 8))]), qq 5 (.alloc 40 5 [(.slice none 0 0), (.bool false), e0, e0, (.int .i64 0)]), qn (.store 5 (.t 5) (.t 9))]) (.seq (.seq (.reg [qq 6 (.mv (ci 0))]) (.block 0 (.loop (.seq (.seq (.reg [qq 10 (.mv (.t 6)), qq 11 (.mv (.t 1)), qq 12 (.lensl (.t 11)), qq 13 (.bin .lss (.t 10) (.t 12))]) (.cond (.t 13) .skip (.exit 0))) (.seq (.block 1 (.dreg [qu 16 (.faddr 0 (.t 5)), qu 17 (.load false 1 (.t 16)), qu 18 (.mv (.t 1)), qu 19 (.mv (.t 6)), qu 20 (.ixsl 1 (.t 18) (.t 19)), qu 21 (.load false 1 (.t 20)), qu 22 (.call 21 [(.t 21)]), qu 23 (.bslice 38 3 1 [(.bool false), e0, e0] [(0, 3, (.t 22))]), qu 24 (.app 38 3 40 (.t 17) (.t 23)), qu 25 (.faddr 0 (.t 5)), qm (.store 1 (.t 25) (.t 24))])) (.reg [qq 14 (.mv (.t 6)), qq 15 (.bin .add (.t 14) (ci 1)), qq 6 (.mv (.t 15))])))))) (.seq (.reg [qq 26 (.load true 5 (.t 5)), qn (.store 5 (.t 4) (.t 26))]) .ret))))
theorem tr25 : trFun Tryz.prog 25 = some ⟨27, [.cell 4 true 5], c25⟩ := by kernel_rfl
set_option maxHeartbeats 4000000 in
theorem ok_row : SpecOK Tryz.prog 25 (nwS spRow) := by
  refine nw_run (env_cons ok_r3From (env_nil _)) mixed tr25 ?_ ?_
  · intro args h h' r hle e
    unfold spRow at e ⊢
    split at e
    · split at e
      · rename_i b1
        simp only [hle _ _ b1]; exact e
      · cases e
    · cases e
  intro args vf b h N hG hN
  unfold spRow at hG
  split at hG
  case h_2 => cases hG
  rename_i r k
  split at hG
  case h_2 => cases hG
  rename_i el sz xb x y hb
  split at hG
  case isFalse => cases hG
  rename_i hl
  cases hG
  have nk := hN _ _ hb
  refine ⟨rfl, ratC_base _, fun β i j hβ => .agg _ _ (.cons _ _ _ _ (VR.sl i 0 _ _ ⟨j, 0, []⟩ hβ) (VRs.of_base rfl)), by simp, ?_⟩
  have Nk : ∀ j, (N + j = k) = False := fun j => eq_false (by omega)
  have f1 := r3From_of hl.1
  have f2 := r3From_of hl.2.1
  have f3 := r3From_of hl.2.2
  have p1 := eqV_b0 (r : Rat)
  have p2 := eqV_s0 (r : Rat)
  have p3 := eqV_g0 (r : Rat)
  have p4 := fun k n => eqV_p0 k n (r : Rat)
  have p5 := eqV_l0 (r : Rat)
  have p6 := fun k n => eqV_g k n (r : Rat)
  have p7 := fun k n k' n' => eqV_p k n k' n' (r : Rat)
  have p8 := fun k n => eqV_len k n (r : Rat)
  have p9 := fun k n => eqV_tk k n (r : Rat)
  have pA := fun k n => eqV_s k n (r : Rat)
  have pB := fun k n => eqV_ok k n (r : Rat)
  have pC := eqV_o0 (r : Rat)
  have rc : rE (x : Rat) ++ rE (y : Rat) = ratC [(x : Rat), (y : Rat)] := rfl
  have t3 : ∀ q : Rat, (rE q).take 3 = rE q := fun _ => rfl
  have s3 : ∀ q : Rat, setR [.bool false, .string ⟨⟨[]⟩⟩, .string ⟨⟨[]⟩⟩] 0 (rE q) = rE q := fun _ => rfl
  generalize (r : Rat) = r' at *
  generalize (x : Rat) = x' at *
  generalize (y : Rat) = y' at *
  generalize eqV0 r' = E0 at *
  simp only [c25, G0, Nat.reduceAdd]
  simp only [↓R0, R1, simprocAttr, -Int.reduceAbs, flat, Nk, hb, f1, f2, f3, setR_length, rE_l3', rE_o3', p1, p2, p3, p4, p5, p6, p7, p8, p9, pA, pB, pC, s3, t3]
  refine lp_step ?_
  simp only [↓R0, R1, simprocAttr, -Int.reduceAbs, flat, Nk, hb, f1, f2, f3, setR_length, rE_l3', rE_o3', p1, p2, p3, p4, p5, p6, p7, p8, p9, pA, pB, pC, s3, t3]
  refine lp_step ?_
  simp only [↓R0, R1, simprocAttr, -Int.reduceAbs, flat, Nk, hb, f1, f2, f3, setR_length, rE_l3', rE_o3', p1, p2, p3, p4, p5, p6, p7, p8, p9, pA, pB, pC, s3, t3, rc]
  refine lp_step ?_
  simp only [↓R0, R1, simprocAttr, -Int.reduceAbs, flat, Nk, hb, f1, f2, f3, setR_length, rE_l3', rE_o3', p1, p2, p3, p4, p5, p6, p7, p8, p9, pA, pB, pC, s3, t3, rc, FinN, isEnd, resL, res1]
  refine ⟨_, N + 5, false, rfl, rfl, by omega, ?_, fun q hq => ?_⟩
  · simp only [↓R0, R1, simprocAttr, -Int.reduceAbs]
  · have nb : ∀ d, (N + d = q) = False := fun d => eq_false (by omega)
    simp only [↓R0, R1, simprocAttr, -Int.reduceAbs, nb]
def spSame5 : List Value → Heap → Option Value
  | [.slice a n c, .slice b m d], h => match listAt 1 decN h (.slice a n c), listAt 1 decN h (.slice b m d) with
    | some l, some l' => if n ≤ 1000 ∧ m ≤ 1000 then some (.bool (decide (l = l'))) else none
    | _, _ => none
  | _, _ => none
def c11 : ICode :=
  (.seq (.reg [qq 4 (.mv (.c (.bool false)))]) (.seq (.seq (.reg [qq 6 (.mv (.t 0)), qq 7 (.lensl (.t 6)), qq 8 (.mv (.t 1)), qq 9 (.lensl (.t 8)), qq 10 (.bin .neq (.t 7) (.t 9))]) (.cond (.t 10) (.seq (.reg [qq 4 (.mv (.c (.bool false)))]) .ret) .skip)) (.seq (.seq (.reg [qq 5 (.mv (ci 0))]) (.block 0 (.loop (.seq (.seq (.reg [qq 11 (.mv (.t 5)), qq 12 (.mv (.t 0)), qq 13 (.lensl (.t 12)), qq 14 (.bin .lss (.t 11) (.t 13))]) (.cond (.t 14) .skip (.exit 0))) (.seq (.block 1 (.seq (.dreg [qu 17 (.mv (.t 0)), qu 18 (.mv (.t 5)), qu 19 (.ixsl 1 (.t 17) (.t 18)), qu 20 (.load false 1 (.t 19)), qu 21 (.mv (.t 1)), qu 22 (.mv (.t 5)), qu 23 (.ixsl 1 (.t 21) (.t 22)), qu 24 (.load false 1 (.t 23)), qu 25 (.bin .neq (.t 20) (.t 24))]) (.cond (.t 25) (.seq (.reg [qq 4 (.mv (.c (.bool false)))]) .ret) .skip))) (.reg [qq 15 (.mv (.t 5)), qq 16 (.bin .add (.t 15) (ci 1)), qq 5 (.mv (.t 16))])))))) (.seq (.reg [qq 4 (.mv (.c (.bool true)))]) .ret))))
theorem tr11 : trFun Tryz.prog 11 = some ⟨26, [.t 4], c11⟩ := by kernel_rfl
set_option maxHeartbeats 4000000 in
theorem ok_same5 : SpecOK Tryz.prog 11 (rdS spSame5) := by
  refine rd_run (env_nil _) mixed tr11 ?_ ?_
  · intro args h h' v hle e
    unfold spSame5 at e ⊢
    split at e
    · split at e
      · rename_i l l' h1 h2
        simp only [listAt_mono hle (fun _ _ e => e) h1, listAt_mono hle (fun _ _ e => e) h2]; exact e
      · cases e
    · cases e
  intro args v h N hG hN
  unfold spSame5 at hG
  split at hG
  case h_2 => cases hG
  rename_i a n c b m d
  split at hG
  case h_2 => cases hG
  rename_i l l' h1 h2
  split at hG
  case isFalse => cases hG
  rename_i hs
  cases hG
  have e1 : l.length = n := by obtain ⟨_, _, e⟩ := listAt_sl h1; cases e; rfl
  have e2 : l'.length = m := by obtain ⟨_, _, e⟩ := listAt_sl h2; cases e; rfl
  subst e1
  subst e2
  refine ⟨by rfl, by simp, ?_⟩
  by_cases ll : l.length = l'.length
  case neg =>
    have ll' : ((l.length : Int) = (l'.length : Int)) = False := eq_false (by omega)
    rw [decide_eq_false (fun e => ll (by rw [e]))]
    simp only [c11, G0, Nat.reduceAdd]
    simp only [↓R0, R1, simprocAttr, -Int.reduceAbs, ll', Bool.not_false, Bool.not_true, Fin, isEnd, resL, res1]
    exact ⟨_, rfl, rfl, fun k hk => by simp only [ne_nb hk, if_false]⟩
  have ll' : ((l.length : Int) = (l'.length : Int)) = True := eq_true (by omega)
  simp only [c11, G0, Nat.reduceAdd]
  simp only [↓R0, R1, simprocAttr, -Int.reduceAbs, ll', Bool.not_false, Bool.not_true]
  refine lp_parts (fun q tm hp nx => ∃ (i M : Nat), q + i = l.length ∧ tmget tm 0 = .slice a l.length c ∧ tmget tm 1 = .slice b l'.length d ∧ tmget tm 5 = .int .i64 i ∧ (∀ j, j < i → l[j]? = l'[j]?) ∧ (∀ q, q < N → hget hp q = hget h q) ∧ N ≤ M ∧ nx = M + 0) ?_ l.length
    ⟨0, N, by omega, ?_, ?_, ?_, fun j hj => absurd hj (Nat.not_lt_zero _), ?_, Nat.le_refl _, rfl⟩
  rotate_left
  all_goals first | (simp only [↓R0, R1, simprocAttr, -Int.reduceAbs]; done) | (simp only [↓R0, R1, simprocAttr, -Int.reduceAbs]; rfl) | skip
  · exact fun q _ => rfl
  rintro q tm hp nx ⟨i, M, hq, t0, t1, t5, hall, hh, hM, hnx⟩
  rw [hnx]
  clear hnx nx
  have wi : IntKind.i64.wrap ((i : Int) + 1) = ((i + 1 : Nat) : Int) := by rw [i64_in _ (by omega)]; omega
  by_cases ci : i < l.length
  case neg =>
    have ei : i = l.length := by omega
    subst ei
    have ci' : ((l.length : Int) < (l.length : Int)) = False := eq_false (by omega)
    rw [decide_eq_true (List.ext_getElem? fun j => by
      by_cases hj : j < l.length
      · exact hall j hj
      · rw [List.getElem?_eq_none (by omega), List.getElem?_eq_none (by omega)])]
    simp only [↓R0, R1, simprocAttr, -Int.reduceAbs, t0, t1, t5, ci', Fin, isEnd, resL, res1]
    exact ⟨_, rfl, rfl, hh⟩
  have ci' : ((i : Int) < (l.length : Int)) = True := eq_true (by omega)
  have cj' : ((i : Int) < (l'.length : Int)) = True := eq_true (by omega)
  have cj : i < l'.length := by omega
  have HL : hle h hp := fun q b e => by rw [hh q (hN _ _ e)]; exact e
  obtain ⟨z, pt⟩ : ∃ z, l[i]? = some z := ⟨_, List.getElem?_eq_getElem ci⟩
  obtain ⟨z', pt'⟩ : ∃ z, l'[i]? = some z := ⟨_, List.getElem?_eq_getElem cj⟩
  obtain ⟨k1, f1, B1, ea, hb1, _, _, hat1⟩ := listAt_get h1 (by omega)
  obtain ⟨k2, f2, B2, eb, hb2, _, _, hat2⟩ := listAt_get h2 (by omega)
  obtain ⟨p1, p2⟩ := hat1 i z pt
  obtain ⟨p3, p4⟩ := hat2 i z' pt'
  have p2 := cell1_of (decN_eq p2)
  have p4 := cell1_of (decN_eq p4)
  rw [Nat.mul_one] at p2 p4
  subst ea
  subst eb
  have g1 := HL _ _ hb1
  have g2 := HL _ _ hb2
  by_cases ez : z = z'
  · have ez' : (z = z') = True := eq_true ez
    have hall' : ∀ j, j < i + 1 → l[j]? = l'[j]? := fun j hj => by
      by_cases e : j = i
      · subst e; rw [pt, pt', ez]
      · exact hall j (by omega)
    simp only [↓R0, R1, simprocAttr, -Int.reduceAbs, t0, t1, t5, ci, cj, ci', cj', g1, g2, p1, p2, p3, p4, ez', wi, Bool.not_true]
    exact ⟨q - 1, by omega, i + 1, M, by omega, rfl, hall', hh, hM, rfl⟩
  · have ez' : (z = z') = False := eq_false ez
    rw [decide_eq_false (fun e => by rw [e, pt'] at pt; exact ez (Option.some.inj pt).symm)]
    simp only [↓R0, R1, simprocAttr, -Int.reduceAbs, t0, t1, t5, ci, cj, ci', cj', g1, g2, p1, p2, p3, p4, ez', Bool.not_false, Fin, isEnd, resL, res1]
    exact ⟨_, rfl, rfl, hh⟩
end Go.Eng
end
section
set_option linter.unusedVariables false
set_option linter.unusedSimpArgs false
set_option linter.unusedSectionVars false
set_option maxRecDepth 20000
namespace Go.Eng
open Go Go.Proofs Go.IntWalk
abbrev exL (L : List (List Rat × Rat)) : List EqR := L.map fun x => eqOf x.1 x.2
theorem tog_con {n : Nat} {l : List EqR} (c : chkL n l = 0) : togL n l = true ↔ ConP n (ZL n l) := by
  have O := solL_out c
  unfold togL
  rw [decide_eq_true_eq]
  constructor
  · intro h
    exact Classical.byContradiction fun x => h (O.c x).1
  · intro x
    by_cases d : ∀ k, k < n → DetP n (ZL n l) k
    · rw [(O.s x d).1]; decide
    · rw [(O.o x d).1]; decide
theorem tog_cc (n : Nat) (L : List (List Rat × Rat)) (c : chkL n (exL L) = 0) : togL n (exL L) = !decide (clashM n L.length (redK L.length (ccM n L) n)) := by
  have h := (tog_con c).trans (conL (n := n) (l := exL L))
  unfold lsOf at h
  rw [eqM_cc, List.length_map] at h
  by_cases x : clashM n L.length (redK L.length (ccM n L) n)
  · rw [decide_eq_true x]
    cases e : togL n (exL L) with
    | false => rfl
    | true => exact absurd x (h.1 e)
  · rw [decide_eq_false x, h.2 x]; rfl
def exA : List (List Rat × Rat) := [([1, 0], 1), ([0, 1], 2), ([1, 1], 4)]
def exB : List (List Rat × Rat) := [([1, 0], 1), ([2, 0], 2), ([0, 1], 0), ([1, 0], 3)]
theorem tA (L : List (List Rat × Rat)) (b : Bool) (c : chkL 2 (exL L) = 0) (h : (!decide (clashM 2 L.length (redK L.length (ccM 2 L) 2))) = b) : togL 2 (exL L) = b := (tog_cc 2 L c).trans h
theorem bump_of (c : List Rat) (r : Rat) : bump (eqOf c r) = eqOf c (r + 1) := by
  unfold bump eqOf
  rw [RQ.of_v]
theorem minA : minS 2 (exL exA) 3 = ([0, 1, 2], 0) := by
  have t0 : togL 2 (exL [([0, 1], 2), ([1, 1], 4)]) = true := tA _ _ (by decide) (by decide +kernel)
  have t1 : togL 2 (exL [([1, 0], 1), ([1, 1], 4)]) = true := tA _ _ (by decide) (by decide +kernel)
  have t2 : togL 2 (exL [([1, 0], 1), ([0, 1], 2)]) = true := tA _ _ (by decide) (by decide +kernel)
  have s0 : minS 2 (exL exA) 0 = ([0, 1, 2], 0) := rfl
  have s1 : minS 2 (exL exA) 1 = ([0, 1, 2], 0) := by
    show (if togL 2 (selL (exL exA) (delL 0 (minS 2 (exL exA) 0).1)) = true then _ else _) = _
    rw [s0]
    exact if_pos t0
  have s2 : minS 2 (exL exA) 2 = ([0, 1, 2], 0) := by
    show (if togL 2 (selL (exL exA) (delL 1 (minS 2 (exL exA) 1).1)) = true then _ else _) = _
    rw [s1]
    exact if_pos t1
  show (if togL 2 (selL (exL exA) (delL 2 (minS 2 (exL exA) 2).1)) = true then _ else _) = _
  rw [s2]
  exact if_pos t2
theorem togA : togL 2 (exL exA) = false := tA _ _ (by decide) (by decide +kernel)
theorem togB : togL 2 (exL exB) = false := tA _ _ (by decide) (by decide +kernel)
theorem minB : minS 2 (exL exB) 4 = ([1, 3], 1) := by
  have t0 : togL 2 (exL [([2, 0], 2), ([0, 1], 0), ([1, 0], 3)]) = false := tA _ _ (by decide) (by decide +kernel)
  have t1 : togL 2 (exL [([0, 1], 0), ([1, 0], 3)]) = true := tA _ _ (by decide) (by decide +kernel)
  have t2 : togL 2 (exL [([2, 0], 2), ([1, 0], 3)]) = false := tA _ _ (by decide) (by decide +kernel)
  have t3 : togL 2 (exL [([2, 0], 2)]) = true := tA _ _ (by decide) (by decide +kernel)
  have s0 : minS 2 (exL exB) 0 = ([0, 1, 2, 3], 0) := rfl
  have s1 : minS 2 (exL exB) 1 = ([1, 2, 3], 1) := by
    show (if togL 2 (selL (exL exB) (delL 0 (minS 2 (exL exB) 0).1)) = true then _ else _) = _
    rw [s0]
    exact if_neg (by rw [show togL 2 (selL (exL exB) (delL 0 [0, 1, 2, 3])) = false from t0]; simp)
  have s2 : minS 2 (exL exB) 2 = ([1, 2, 3], 1) := by
    show (if togL 2 (selL (exL exB) (delL 1 (minS 2 (exL exB) 1).1)) = true then _ else _) = _
    rw [s1]
    exact if_pos t1
  have s3 : minS 2 (exL exB) 3 = ([1, 3], 1) := by
    show (if togL 2 (selL (exL exB) (delL 2 (minS 2 (exL exB) 2).1)) = true then _ else _) = _
    rw [s2]
    exact if_neg (by rw [show togL 2 (selL (exL exB) (delL 2 [1, 2, 3])) = false from t2]; simp)
  show (if togL 2 (selL (exL exB) (delL 3 (minS 2 (exL exB) 3).1)) = true then _ else _) = _
  rw [s3]
  exact if_pos t3
theorem redB : redL 2 (exL exB) = [1] := by
  have t0 : togL 2 (exL []) = true := tA _ _ (by decide) (by decide +kernel)
  have t1 : togL 2 (exL [([1, 0], 1)]) = true := tA _ _ (by decide) (by decide +kernel)
  have b1 : togL 2 (exL [([1, 0], 1 + 1)]) = true := tA _ _ (by decide) (by decide +kernel)
  have t2 : togL 2 (exL [([1, 0], 1), ([2, 0], 2)]) = true := tA _ _ (by decide) (by decide +kernel)
  have b2 : togL 2 (exL [([1, 0], 1), ([2, 0], 2 + 1)]) = false := tA _ _ (by decide) (by decide +kernel)
  have t3 : togL 2 (exL [([1, 0], 1), ([2, 0], 2), ([0, 1], 0)]) = true := tA _ _ (by decide) (by decide +kernel)
  have b3 : togL 2 (exL [([1, 0], 1), ([2, 0], 2), ([0, 1], 0 + 1)]) = true := tA _ _ (by decide) (by decide +kernel)
  have f0 : folL 2 [] (eqOf [1, 0] 1) = false := by
    unfold folL
    rw [bump_of]
    show (togL 2 (exL [([1, 0], 1)]) && !togL 2 (exL [([1, 0], 1 + 1)])) = _
    rw [t1, b1]; rfl
  have f1 : folL 2 (exL [([1, 0], 1)]) (eqOf [2, 0] 2) = true := by
    unfold folL
    rw [bump_of]
    show (togL 2 (exL [([1, 0], 1), ([2, 0], 2)]) && !togL 2 (exL [([1, 0], 1), ([2, 0], 2 + 1)])) = _
    rw [t2, b2]; rfl
  have f2 : folL 2 (exL [([1, 0], 1), ([2, 0], 2)]) (eqOf [0, 1] 0) = false := by
    unfold folL
    rw [bump_of]
    show (togL 2 (exL [([1, 0], 1), ([2, 0], 2), ([0, 1], 0)]) && !togL 2 (exL [([1, 0], 1), ([2, 0], 2), ([0, 1], 0 + 1)])) = _
    rw [t3, b3]; rfl
  have f3 : folL 2 (exL [([1, 0], 1), ([2, 0], 2), ([0, 1], 0)]) (eqOf [1, 0] 3) = false := by
    unfold folL
    show (togL 2 (exL exB) && _) = _
    rw [togB]; rfl
  have step : ∀ (i : Nat) (out : List Nat), redS 2 (exL exB) i = (out, false) → togL 2 ((exL exB).take i) = true → redS 2 (exL exB) (i + 1) = (if folL 2 ((exL exB).take i) (eqAt (exL exB) i) = true then out ++ [i] else out, false) := fun i out h1 h2 => by
    show (if (redS 2 (exL exB) i).2 = true then _ else _) = _
    rw [h1, h2]
    rfl
  have s0 : redS 2 (exL exB) 0 = ([], false) := rfl
  have s1 : redS 2 (exL exB) 1 = ([], false) := (step 0 [] s0 t0).trans (by rw [show folL 2 ((exL exB).take 0) (eqAt (exL exB) 0) = false from f0]; rfl)
  have s2 : redS 2 (exL exB) 2 = ([1], false) := (step 1 [] s1 t1).trans (by rw [show folL 2 ((exL exB).take 1) (eqAt (exL exB) 1) = true from f1]; rfl)
  have s3 : redS 2 (exL exB) 3 = ([1], false) := (step 2 [1] s2 t2).trans (by rw [show folL 2 ((exL exB).take 2) (eqAt (exL exB) 2) = false from f2]; rfl)
  have s4 : redS 2 (exL exB) 4 = ([1], false) := (step 3 [1] s3 t3).trans (by rw [show folL 2 ((exL exB).take 3) (eqAt (exL exB) 3) = false from f3]; rfl)
  show (redS 2 (exL exB) 4).1 = _
  rw [s4]
end Go.Eng
end
section
set_option linter.unusedVariables false
set_option linter.unusedSimpArgs false
set_option linter.unusedSectionVars false
set_option maxRecDepth 20000
namespace Go.Eng
open Go Go.Proofs Go.IntWalk
structure EqsOK (n : Nat) (l : List EqR) : Prop where
  n8 : n ≤ 8
  len : l.length ≤ 50
  co : ∀ e ∈ l, e.coef.length = n ∧ (∀ q ∈ e.coef, q.ok 100) ∧ e.rhs.ok 100
theorem EqsOK.sys {n : Nat} {l l' : List EqR} (H : EqsOK n l) (hl : l'.length ≤ 100) (h : ∀ e ∈ l', e ∈ l ∨ ∃ e0 ∈ l, e = bump e0) : SysOK n l' := fun _ => by
  have all : ∀ e ∈ l', e.coef.length = n ∧ (∀ q ∈ e.coef, q.ok 100) ∧ e.rhs.ok 120 := fun e he => by
    rcases h e he with h | ⟨e0, h, rfl⟩
    · obtain ⟨a, b, c⟩ := H.co e h
      exact ⟨a, b, c.le (by omega)⟩
    · obtain ⟨a, b, c⟩ := H.co e0 h
      exact ⟨a, b, (RQ.of_ok ((c.rb.add (RB.int (z := 1) (k := 1) (bl_length_le.2 (by decide)) (Nat.le_refl _)) (k := 120) (by omega)))).le (by omega)⟩
  refine ⟨by omega, by have := H.n8; omega, hl, fun e he => ?_, fun e he => ⟨fun q hq => ((all e he).2.1 q hq).le (by omega), (all e he).2.2.le (by omega)⟩⟩
  rw [Int.toNat_natCast]
  exact (all e he).1
theorem selL_mem {l : List EqR} {ps : List Int} (h : ∀ p ∈ ps, 0 ≤ p ∧ p.toNat < l.length) : ∀ e ∈ selL l ps, e ∈ l := by
  intro e he
  unfold selL at he
  obtain ⟨p, hp, rfl⟩ := List.mem_map.1 he
  exact eqAt_mem (h p hp).2
theorem tog_nil {n : Nat} (hn : n ≤ 8) : togL n [] = true := by
  have c : chkL n [] = 0 := chk0_of (by omega) (by simp) (by simp)
  rw [tog_con c]
  exact ⟨fun j => if j = n then -1 else 0, fun i hi => absurd hi (Nat.not_lt_zero _), if_pos rfl⟩
theorem EqsOK.min {n : Nat} {l : List EqR} (H : EqsOK n l) : MinOK n l where
  len := by have := H.len; omega
  sys := H.sys (by have := H.len; omega) fun e he => .inl he
  sub := fun ps hp hl => H.sys (by unfold selL; rw [List.length_map]; have := H.len; omega) fun e he => .inl (selL_mem hp e he)
  nil := tog_nil H.n8
theorem EqsOK.red {n : Nat} {l : List EqR} (H : EqsOK n l) : RdnOK n l where
  len := by have := H.len; omega
  sys := fun i hi => H.sys (by rw [List.length_take]; have := H.len; omega) fun e he => .inl (List.mem_of_mem_take he)
  fol := fun i hi => by
    have hr := (H.co _ (eqAt_mem hi)).2.2
    have hl := H.len
    refine ⟨by rw [List.length_take]; omega, H.sys (by rw [List.length_append, List.length_take, List.length_singleton]; omega) fun e he => ?_, H.sys (by rw [List.length_append, List.length_take, List.length_singleton]; omega) fun e he => ?_, Nat.le_trans hr.1 (by omega), Nat.le_trans hr.2 (by omega)⟩
    · rw [List.mem_append, List.mem_singleton] at he
      rcases he with he | rfl
      · exact .inl (List.mem_of_mem_take he)
      · exact .inl (eqAt_mem hi)
    · rw [List.mem_append, List.mem_singleton] at he
      rcases he with he | rfl
      · exact .inl (List.mem_of_mem_take he)
      · exact .inr ⟨_, eqAt_mem hi, rfl⟩
theorem flat5 : ∀ {css : List (List Value)} {i : Nat} {ec : List Value}, (∀ c ∈ css, c.length = 5) → css[i]? = some ec → (css.flatten.drop (i * 5)).take 5 = ec
  | [], i, ec, _, e => by simp at e
  | c :: css, 0, ec, h, e => by
    simp only [List.getElem?_cons_zero, Option.some.injEq] at e
    subst e
    have := h c (by simp)
    rw [List.flatten_cons, Nat.zero_mul, List.drop_zero, List.take_append_of_le_length (by omega), List.take_of_length_le (by omega)]
  | c :: css, i + 1, ec, h, e => by
    simp only [List.getElem?_cons_succ] at e
    have := h c (by simp)
    rw [List.flatten_cons, Nat.succ_mul, List.drop_append, List.drop_of_length_le (by omega), this, List.nil_append, Nat.add_sub_cancel]
    exact flat5 (fun c hc => h c (by simp [hc])) e
theorem flat5_len : ∀ {css : List (List Value)}, (∀ c ∈ css, c.length = 5) → css.flatten.length = css.length * 5
  | [], _ => rfl
  | c :: css, h => by
    rw [List.flatten_cons, List.length_append, h c (by simp), flat5_len (fun c hc => h c (by simp [hc])), List.length_cons]; omega
theorem RowsS.lit {hp : Heap} {k0 e s c : Nat} {x : Bool} {css : List (List Value)} {l : List EqR} (hk : hget hp k0 = some ⟨e, s, x, css.flatten⟩) (hc : l.length ≤ c) (hl : css.length = l.length)
    (hd : ∀ (i : Nat) (ec : List Value) (q : EqR), css[i]? = some ec → l[i]? = some q → decEq hp ec = some q) (hs : ∀ ec ∈ css, ec.all (selfOK hp) = true) (h5 : ∀ c ∈ css, c.length = 5) :
    RowsS hp (.slice (some ⟨k0, 0, none⟩) l.length c) l css.flatten := by
  have fl := flat5_len h5
  rw [hl] at fl
  have la : Go.Eng.lay 5 hp (.slice (some ⟨k0, 0, none⟩) l.length c) = some css.flatten := by
    unfold Go.Eng.lay
    cases e : l.length with
    | zero =>
      rw [e] at fl hc
      simp only [hk]
      rw [if_pos ⟨hc, by omega⟩, List.drop_zero, List.take_of_length_le (by omega)]
    | succ n =>
      rw [e] at fl hc
      simp only [hk]
      rw [if_pos ⟨hc, by omega⟩, List.drop_zero, List.take_of_length_le (by omega)]
  refine ⟨la, ?_, ?_⟩
  · unfold decRows listAt
    rw [la, Option.bind_some]
    refine many_some rfl fun i q hq => ?_
    have hi : i < css.length := by rw [hl]; exact (List.getElem?_eq_some_iff.1 hq).1
    rw [flat5 h5 (List.getElem?_eq_getElem hi)]
    exact hd i _ q (List.getElem?_eq_getElem hi) hq
  · rw [List.all_eq_true]
    intro v hv
    obtain ⟨ec, h1, h2⟩ := List.mem_flatten.1 hv
    have := hs ec h1
    rw [List.all_eq_true] at this
    exact this v h2
theorem eqV_self {hp : Heap} {k n : Nat} {r : Rat} {b : Blk} (hk : hget hp k = some b) : (eqV k n r).all (selfOK hp) = true := by
  show (selfOK hp (.slice (some ⟨k, 0, none⟩) n n) && (eqOf [] r).tl.all (selfOK hp)) = true
  rw [Bool.and_eq_true]
  refine ⟨?_, rfl⟩
  simp [selfOK, slOK, hk]
theorem exOK {l : List (List Rat × Rat)} (hl : l.length ≤ 50) (h : ∀ x ∈ l, x.1.length = 2 ∧ (∀ q ∈ x.1, RB q 4) ∧ RB x.2 4) : EqsOK 2 (exL l) where
  n8 := by omega
  len := by unfold exL; rw [List.length_map]; exact hl
  co := fun e he => by
    obtain ⟨x, hx, rfl⟩ := List.mem_map.1 he
    obtain ⟨a, b, c⟩ := h x hx
    refine ⟨by unfold eqOf; rw [List.length_map]; exact a, fun q hq => ?_, (RQ.of_ok c).le (by omega)⟩
    obtain ⟨y, hy, rfl⟩ := List.mem_map.1 hq
    exact (RQ.of_ok (b y hy)).le (by omega)
theorem okA : EqsOK 2 (exL exA) := exOK (by decide) (by decide +kernel)
theorem okB : EqsOK 2 (exL exB) := exOK (by decide) (by decide +kernel)
theorem rowsA {hp : Heap} {k k1 k2 k3 : Nat} (h : hget hp k = some ⟨40, 5, true, eqV k1 2 1 ++ (eqV k2 2 2 ++ eqV k3 2 4)⟩) (h1 : hget hp k1 = some ⟨38, 3, false, ratC [1, 0]⟩) (h2 : hget hp k2 = some ⟨38, 3, false, ratC [0, 1]⟩) (h3 : hget hp k3 = some ⟨38, 3, false, ratC [1, 1]⟩) :
    RowsS hp (.slice (some ⟨k, 0, none⟩) 3 3) (exL exA) (eqV k1 2 1 ++ (eqV k2 2 2 ++ eqV k3 2 4)) := by
  have := RowsS.lit (css := [eqV k1 2 1, eqV k2 2 2, eqV k3 2 4]) (l := exL exA) (c := 3) (k0 := k) (hp := hp) (e := 40) (s := 5) (x := true) (by rw [h]; rfl) (by decide) rfl ?_ ?_ ?_
  · exact this
  · intro i ec q e1 e2
    match i with
    | 0 => cases e1; cases e2; exact decEq_V (c := [1, 0]) h1 (by simp)
    | 1 => cases e1; cases e2; exact decEq_V (c := [0, 1]) h2 (by simp)
    | 2 => cases e1; cases e2; exact decEq_V (c := [1, 1]) h3 (by simp)
    | i + 3 => cases e1
  · intro ec he
    simp only [List.mem_cons, List.not_mem_nil, or_false] at he
    rcases he with rfl | rfl | rfl
    · exact eqV_self h1
    · exact eqV_self h2
    · exact eqV_self h3
  · intro ec he
    simp only [List.mem_cons, List.not_mem_nil, or_false] at he
    rcases he with rfl | rfl | rfl <;> rfl
theorem rowsB {hp : Heap} {k k1 k2 k3 k4 : Nat} (h : hget hp k = some ⟨40, 5, true, eqV k1 2 1 ++ (eqV k2 2 2 ++ (eqV k3 2 0 ++ eqV k4 2 3))⟩) (h1 : hget hp k1 = some ⟨38, 3, false, ratC [1, 0]⟩) (h2 : hget hp k2 = some ⟨38, 3, false, ratC [2, 0]⟩) (h3 : hget hp k3 = some ⟨38, 3, false, ratC [0, 1]⟩) (h4 : hget hp k4 = some ⟨38, 3, false, ratC [1, 0]⟩) :
    RowsS hp (.slice (some ⟨k, 0, none⟩) 4 4) (exL exB) (eqV k1 2 1 ++ (eqV k2 2 2 ++ (eqV k3 2 0 ++ eqV k4 2 3))) := by
  have := RowsS.lit (css := [eqV k1 2 1, eqV k2 2 2, eqV k3 2 0, eqV k4 2 3]) (l := exL exB) (c := 4) (k0 := k) (hp := hp) (e := 40) (s := 5) (x := true) (by rw [h]; rfl) (by decide) rfl ?_ ?_ ?_
  · exact this
  · intro i ec q e1 e2
    match i with
    | 0 => cases e1; cases e2; exact decEq_V (c := [1, 0]) h1 (by simp)
    | 1 => cases e1; cases e2; exact decEq_V (c := [2, 0]) h2 (by simp)
    | 2 => cases e1; cases e2; exact decEq_V (c := [0, 1]) h3 (by simp)
    | 3 => cases e1; cases e2; exact decEq_V (c := [1, 0]) h4 (by simp)
    | i + 4 => cases e1
  · intro ec he
    simp only [List.mem_cons, List.not_mem_nil, or_false] at he
    rcases he with rfl | rfl | rfl | rfl
    · exact eqV_self h1
    · exact eqV_self h2
    · exact eqV_self h3
    · exact eqV_self h4
  · intro ec he
    simp only [List.mem_cons, List.not_mem_nil, or_false] at he
    rcases he with rfl | rfl | rfl | rfl <;> rfl
theorem row_at {h : Heap} {k el sz : Nat} {xb : Bool} {r x y : Int} {r' x' y' : Rat} (hb : hget h k = some ⟨el, sz, xb, [.int .i64 x, .int .i64 y]⟩) (hl : (-1000 ≤ r ∧ r ≤ 1000) ∧ (-1000 ≤ x ∧ x ≤ 1000) ∧ -1000 ≤ y ∧ y ≤ 1000) (e1 : (r : Rat) = r') (e2 : (x : Rat) = x') (e3 : (y : Rat) = y') :
    spRow [.int .i64 r, .slice (some ⟨k, 0, none⟩) 2 2] h = some (fun k => .agg ⟨eqV k 2 r'⟩, ⟨38, 3, false, ratC [x', y']⟩) := by
  subst e1; subst e2; subst e3
  unfold spRow
  simp only [hb]
  exact if_pos hl
theorem same_at {h : Heap} {k k' e s e' s' c c' : Nat} {x x' : Bool} {L Z : List Int} (h1 : hget h k = some ⟨e, s, x, intZ (L ++ Z)⟩) (h2 : hget h k' = some ⟨e', s', x', intZ L⟩) (hc : L.length ≤ c) (hc' : L.length ≤ c') (hl : L.length ≤ 1000) :
    spSame5 [.slice (some ⟨k, 0, none⟩) L.length c, .slice (some ⟨k', 0, none⟩) L.length c'] h = some (.bool true) := by
  unfold spSame5
  simp only [intZ_list h1 hc, intZ_list (Z := []) (by rw [List.append_nil]; exact h2) hc']
  rw [if_pos ⟨hl, hl⟩]
  simp
end Go.Eng
end
section
set_option linter.unusedVariables false
set_option linter.unusedSimpArgs false
set_option linter.unusedSectionVars false
set_option maxRecDepth 20000
namespace Go.Eng
open Go Go.Proofs Go.IntWalk
def spAlive5 : List Value → Option Value
  | [] => some (.bool true)
  | _ => none
def c9 : ICode :=
  (.seq (.reg [qq 0 (.mv (.c (.bool false)))]) (.seq (.reg [qq 3 (.bslice 2 1 2 [(.int .i64 0), (.int .i64 0)] [(0, 1, (ci 1)), (1, 1, (ci 0))]), qq 4 (.call 25 [(ci 1), (.t 3)]), qq 5 (.bslice 2 1 2 [(.int .i64 0), (.int .i64 0)] [(0, 1, (ci 0)), (1, 1, (ci 1))]), qq 6 (.call 25 [(ci 2), (.t 5)]), qq 7 (.bslice 2 1 2 [(.int .i64 0), (.int .i64 0)] [(0, 1, (ci 1)), (1, 1, (ci 1))]), qq 8 (.call 25 [(ci 4), (.t 7)]), qq 9 (.bslice 40 5 3 [(.slice none 0 0), (.bool false), e0, e0, (.int .i64 0), (.slice none 0 0), (.bool false), e0, e0, (.int .i64 0), (.slice none 0 0), (.bool false), e0, e0, (.int .i64 0)] [(0, 5, (.t 4)), (5, 5, (.t 6)), (10, 5, (.t 8))]), qq 10 (.call 12 [(ci 2), (.t 9)]), qq 1 (.mv (.t 10))]) (.seq (.reg [qq 11 (.bslice 2 1 2 [(.int .i64 0), (.int .i64 0)] [(0, 1, (ci 1)), (1, 1, (ci 0))]), qq 12 (.call 25 [(ci 1), (.t 11)]), qq 13 (.bslice 2 1 2 [(.int .i64 0), (.int .i64 0)] [(0, 1, (ci 2)), (1, 1, (ci 0))]), qq 14 (.call 25 [(ci 2), (.t 13)]), qq 15 (.bslice 2 1 2 [(.int .i64 0), (.int .i64 0)] [(0, 1, (ci 0)), (1, 1, (ci 1))]), qq 16 (.call 25 [(ci 0), (.t 15)]), qq 17 (.bslice 2 1 2 [(.int .i64 0), (.int .i64 0)] [(0, 1, (ci 1)), (1, 1, (ci 0))]), qq 18 (.call 25 [(ci 3), (.t 17)]), qq 19 (.bslice 40 5 4 [(.slice none 0 0), (.bool false), e0, e0, (.int .i64 0), (.slice none 0 0), (.bool false), e0, e0, (.int .i64 0), (.slice none 0 0), (.bool false), e0, e0, (.int .i64 0), (.slice none 0 0), (.bool false), e0, e0, (.int .i64 0)] [(0, 5, (.t 12)), (5, 5, (.t 14)), (10, 5, (.t 16)), (15, 5, (.t 18))]), qq 2 (.mv (.t 19))]) (.seq (.reg [qq 20 (.mv (.t 1)), qq 21 (.bslice 3 1 3 [(.int .i64 0), (.int .i64 0), (.int .i64 0)] [(0, 1, (ci 0)), (1, 1, (ci 1)), (2, 1, (ci 2))]), qq 22 (.call 11 [(.t 20), (.t 21)]), qq 23 (.mv (.t 22)), ⟨(some 24), (some (23, true)), (.mv (.t 2))⟩, ⟨(some 25), (some (23, true)), (.call 14 [(ci 2), (.t 24)])⟩, ⟨(some 26), (some (23, true)), (.bslice 3 1 1 [(.int .i64 0)] [(0, 1, (ci 1))])⟩, ⟨(some 27), (some (23, true)), (.call 11 [(.t 25), (.t 26)])⟩, qq 28 (.pick (.t 23) (.t 27) (.c (.bool false))), qq 29 (.mv (.t 28)), ⟨(some 30), (some (29, true)), (.mv (.t 2))⟩, ⟨(some 31), (some (29, true)), (.call 12 [(ci 2), (.t 30)])⟩, ⟨(some 32), (some (29, true)), (.bslice 3 1 2 [(.int .i64 0), (.int .i64 0)] [(0, 1, (ci 1)), (1, 1, (ci 3))])⟩, ⟨(some 33), (some (29, true)), (.call 11 [(.t 31), (.t 32)])⟩, qq 34 (.pick (.t 29) (.t 33) (.c (.bool false))), qq 0 (.mv (.t 34))]) .ret))))
theorem tr9 : trFun Tryz.prog 9 = some ⟨35, [.t 0], c9⟩ := by kernel_rfl
set_option maxHeartbeats 16000000 in
theorem ok_alive5 : SpecOK Tryz.prog 9 (flat spAlive5) := by
  refine flat_run (env_cons ok_row (env_cons ok_min (env_cons ok_same5 (env_cons ok_red (env_nil _))))) mixed tr9 ?_
  intro args v h N hG
  unfold spAlive5 at hG
  split at hG
  case h_2 => cases hG
  cases hG
  refine ⟨rfl, by simp, ?_⟩
  have r1 : ∀ hp k, hget hp k = some ⟨2, 1, true, [.int .i64 1, .int .i64 0]⟩ → spRow [.int .i64 1, .slice (some ⟨k, 0, none⟩) 2 2] hp = some (fun k => .agg ⟨eqV k 2 1⟩, ⟨38, 3, false, ratC [1, 0]⟩) := fun hp k hk => row_at hk (by omega) rfl rfl rfl
  have r2 : ∀ hp k, hget hp k = some ⟨2, 1, true, [.int .i64 0, .int .i64 1]⟩ → spRow [.int .i64 2, .slice (some ⟨k, 0, none⟩) 2 2] hp = some (fun k => .agg ⟨eqV k 2 2⟩, ⟨38, 3, false, ratC [0, 1]⟩) := fun hp k hk => row_at hk (by omega) rfl rfl rfl
  have r3 : ∀ hp k, hget hp k = some ⟨2, 1, true, [.int .i64 1, .int .i64 1]⟩ → spRow [.int .i64 4, .slice (some ⟨k, 0, none⟩) 2 2] hp = some (fun k => .agg ⟨eqV k 2 4⟩, ⟨38, 3, false, ratC [1, 1]⟩) := fun hp k hk => row_at hk (by omega) rfl rfl rfl
  have r4 : ∀ hp k, hget hp k = some ⟨2, 1, true, [.int .i64 2, .int .i64 0]⟩ → spRow [.int .i64 2, .slice (some ⟨k, 0, none⟩) 2 2] hp = some (fun k => .agg ⟨eqV k 2 2⟩, ⟨38, 3, false, ratC [2, 0]⟩) := fun hp k hk => row_at hk (by omega) rfl rfl rfl
  have r5 : ∀ hp k, hget hp k = some ⟨2, 1, true, [.int .i64 0, .int .i64 1]⟩ → spRow [.int .i64 0, .slice (some ⟨k, 0, none⟩) 2 2] hp = some (fun k => .agg ⟨eqV k 2 0⟩, ⟨38, 3, false, ratC [0, 1]⟩) := fun hp k hk => row_at hk (by omega) rfl rfl rfl
  have r6 : ∀ hp k, hget hp k = some ⟨2, 1, true, [.int .i64 1, .int .i64 0]⟩ → spRow [.int .i64 3, .slice (some ⟨k, 0, none⟩) 2 2] hp = some (fun k => .agg ⟨eqV k 2 3⟩, ⟨38, 3, false, ratC [1, 0]⟩) := fun hp k hk => row_at hk (by omega) rfl rfl rfl
  have z3 : ∀ a b c : List Value, a.length = 5 → b.length = 5 → c.length = 5 → setR (setR (setR [.slice none 0 0, .bool false, .string ⟨⟨[]⟩⟩, .string ⟨⟨[]⟩⟩, .int .i64 0, .slice none 0 0, .bool false, .string ⟨⟨[]⟩⟩, .string ⟨⟨[]⟩⟩, .int .i64 0, .slice none 0 0, .bool false, .string ⟨⟨[]⟩⟩, .string ⟨⟨[]⟩⟩, .int .i64 0] 0 a) 5 b) 10 c = a ++ (b ++ c) := fun a b c ha hb hc => by
    match a, ha, b, hb, c, hc with
    | [_, _, _, _, _], _, [_, _, _, _, _], _, [_, _, _, _, _], _ => rfl
  have z4 : ∀ a b c d : List Value, a.length = 5 → b.length = 5 → c.length = 5 → d.length = 5 → setR (setR (setR (setR [.slice none 0 0, .bool false, .string ⟨⟨[]⟩⟩, .string ⟨⟨[]⟩⟩, .int .i64 0, .slice none 0 0, .bool false, .string ⟨⟨[]⟩⟩, .string ⟨⟨[]⟩⟩, .int .i64 0, .slice none 0 0, .bool false, .string ⟨⟨[]⟩⟩, .string ⟨⟨[]⟩⟩, .int .i64 0, .slice none 0 0, .bool false, .string ⟨⟨[]⟩⟩, .string ⟨⟨[]⟩⟩, .int .i64 0] 0 a) 5 b) 10 c) 15 d = a ++ (b ++ (c ++ d)) := fun a b c d ha hb hc hd => by
    match a, ha, b, hb, c, hc, d, hd with
    | [_, _, _, _, _], _, [_, _, _, _, _], _, [_, _, _, _, _], _, [_, _, _, _, _], _ => rfl
  simp only [c9, G0, Nat.reduceAdd]
  simp only [↓R0, R1, simprocAttr, -Int.reduceAbs, nwS, r1, r2, r3, r4, r5, r6, eqV_len, eqV_ok, setR_length, z3, z4]
  have km : ∀ hp k, hget hp (N + 6) = some ⟨40, 5, true, eqV (N + 1) 2 1 ++ (eqV (N + 3) 2 2 ++ eqV (N + 5) 2 4)⟩ → hget hp (N + 1) = some ⟨38, 3, false, ratC [1, 0]⟩ → hget hp (N + 3) = some ⟨38, 3, false, ratC [0, 1]⟩ → hget hp (N + 5) = some ⟨38, 3, false, ratC [1, 1]⟩ →
      nwL spMin [.int .i64 2, .slice (some ⟨N + 6, 0, none⟩) 3 3] hp k = some (.slice (some ⟨k, 0, none⟩) 3 3, [(k, some ⟨3, 1, false, intZ [0, 1, 2]⟩)], 1) := fun hp k g0 g1 g2 g3 => by
    have e := min_of (n := ((2 : Nat) : Int)) (rowsA g0 g1 g2 g3) okA.min
    unfold nwL
    rw [show spMin [.int .i64 2, .slice (some ⟨N + 6, 0, none⟩) 3 3] hp = some (minNL 2 (exL exA)) from e]
    unfold minNL
    rw [if_neg (by rw [togA]; simp), show (exL exA).length = 3 from rfl, minA]
    rfl
  have kb : ∀ hp k, hget hp (N + 16) = some ⟨40, 5, true, eqV (N + 9) 2 1 ++ (eqV (N + 11) 2 2 ++ (eqV (N + 13) 2 0 ++ eqV (N + 15) 2 3))⟩ → hget hp (N + 9) = some ⟨38, 3, false, ratC [1, 0]⟩ → hget hp (N + 11) = some ⟨38, 3, false, ratC [2, 0]⟩ → hget hp (N + 13) = some ⟨38, 3, false, ratC [0, 1]⟩ → hget hp (N + 15) = some ⟨38, 3, false, ratC [1, 0]⟩ →
      nwL spMin [.int .i64 2, .slice (some ⟨N + 16, 0, none⟩) 4 4] hp k = some (.slice (some ⟨k, 0, none⟩) 2 3, [(k, some ⟨3, 1, false, intZ [1, 3, 0]⟩)], 1) := fun hp k g0 g1 g2 g3 g4 => by
    have e := min_of (n := ((2 : Nat) : Int)) (rowsB g0 g1 g2 g3 g4) okB.min
    unfold nwL
    rw [show spMin [.int .i64 2, .slice (some ⟨N + 16, 0, none⟩) 4 4] hp = some (minNL 2 (exL exB)) from e]
    unfold minNL
    rw [if_neg (by rw [togB]; simp), show (exL exB).length = 4 from rfl, minB]
    rfl
  have kr : ∀ hp k, hget hp (N + 16) = some ⟨40, 5, true, eqV (N + 9) 2 1 ++ (eqV (N + 11) 2 2 ++ (eqV (N + 13) 2 0 ++ eqV (N + 15) 2 3))⟩ → hget hp (N + 9) = some ⟨38, 3, false, ratC [1, 0]⟩ → hget hp (N + 11) = some ⟨38, 3, false, ratC [2, 0]⟩ → hget hp (N + 13) = some ⟨38, 3, false, ratC [0, 1]⟩ → hget hp (N + 15) = some ⟨38, 3, false, ratC [1, 0]⟩ →
      nwL spRed [.int .i64 2, .slice (some ⟨N + 16, 0, none⟩) 4 4] hp k = some (.slice (some ⟨k, 0, none⟩) 1 1, [(k, some ⟨3, 1, false, intZ [1]⟩)], 1) := fun hp k g0 g1 g2 g3 g4 => by
    have e := red_of (n := ((2 : Nat) : Int)) (rowsB g0 g1 g2 g3 g4) okB.red
    unfold nwL
    rw [show spRed [.int .i64 2, .slice (some ⟨N + 16, 0, none⟩) 4 4] hp = some (intNL (redL 2 (exL exB))) from e, redB]
    rfl
  have k1 : ∀ hp, hget hp (N + 7) = some ⟨3, 1, false, intZ [0, 1, 2]⟩ → hget hp (N + 17) = some ⟨3, 1, true, [.int .i64 0, .int .i64 1, .int .i64 2]⟩ → spSame5 [.slice (some ⟨N + 7, 0, none⟩) 3 3, .slice (some ⟨N + 17, 0, none⟩) 3 3] hp = some (.bool true) := fun hp g0 g1 =>
    same_at (L := [0, 1, 2]) (Z := []) g0 g1 (by decide) (by decide) (by decide)
  have k2 : ∀ hp, hget hp (N + 18) = some ⟨3, 1, false, intZ [1]⟩ → hget hp (N + 19) = some ⟨3, 1, true, [.int .i64 1]⟩ → spSame5 [.slice (some ⟨N + 18, 0, none⟩) 1 1, .slice (some ⟨N + 19, 0, none⟩) 1 1] hp = some (.bool true) := fun hp g0 g1 =>
    same_at (L := [1]) (Z := []) g0 g1 (by decide) (by decide) (by decide)
  have k3 : ∀ hp, hget hp (N + 20) = some ⟨3, 1, false, intZ [1, 3, 0]⟩ → hget hp (N + 21) = some ⟨3, 1, true, [.int .i64 1, .int .i64 3]⟩ → spSame5 [.slice (some ⟨N + 20, 0, none⟩) 2 3, .slice (some ⟨N + 21, 0, none⟩) 2 2] hp = some (.bool true) := fun hp g0 g1 =>
    same_at (L := [1, 3]) (Z := [0]) g0 g1 (by decide) (by decide) (by decide)
  simp only [↓R0, R1, simprocAttr, -Int.reduceAbs, nwS, rdS, r1, r2, r3, r4, r5, r6, eqV_len, eqV_ok, setR_length, z3 (eqV (N + 1) 2 1) (eqV (N + 3) 2 2) (eqV (N + 5) 2 4) rfl rfl rfl, z4 (eqV (N + 9) 2 1) (eqV (N + 11) 2 2) (eqV (N + 13) 2 0) (eqV (N + 15) 2 3) rfl rfl rfl rfl, km, kb, kr, k1, k2, k3, Fin, isEnd, resL, res1]
  exact ⟨_, rfl, rfl, fun k hk => by simp only [ne_nb hk, if_false]⟩
end Go.Eng
end
section
set_option linter.unusedVariables false
set_option linter.unusedSimpArgs false
set_option linter.unusedSectionVars false
set_option maxRecDepth 20000
namespace Go.Eng
open Go Go.Proofs Go.IntWalk
def fitE (n : Int) (e : EqR) : Prop := (e.coef.length : Int) = n ∧ smallQ e.rhs ∧ ∀ q ∈ e.coef, smallQ q
def fitS (n : Int) (l : List EqR) : Prop := 0 ≤ n ∧ n ≤ 8 ∧ l.length ≤ 14 ∧ ∀ e ∈ l, fitE n e
noncomputable instance {n : Int} {l : List EqR} : Decidable (fitS n l) := Classical.propDecidable _
noncomputable def spFits : List Value → Heap → Option Value
  | [.int .i64 n, sl], h => match decRows h sl with
    | some l => if l.length ≤ 9223372036854775807 then some (.int .i64 (if fitS n l then 1 else 0)) else none
    | none => none
  | _, _ => none
theorem cell_at {cs L : List Value} {o m i : Nat} (h : (cs.drop o).take m = L) (hi : i < m) : cs[o + i]? = L[i]? := by
  rw [← h, List.getElem?_take_of_lt hi, List.getElem?_drop]
def c26 : ICode :=
  (.seq (.reg [qq 4 (.mv (ci 0))]) (.seq (.seq (.reg [qq 7 (.mv (.t 0)), qq 8 (.bin .lss (.t 7) (ci 0)), qq 9 (.mv (.t 8)), ⟨(some 10), (some (9, false)), (.mv (.t 0))⟩, ⟨(some 11), (some (9, false)), (.bin .gtr (.t 10) (ci 8))⟩, qq 12 (.pick (.t 9) (.c (.bool true)) (.t 11)), qq 13 (.mv (.t 12)), ⟨(some 14), (some (13, false)), (.mv (.t 1))⟩, ⟨(some 15), (some (13, false)), (.lensl (.t 14))⟩, ⟨(some 16), (some (13, false)), (.bin .gtr (.t 15) (ci 14))⟩, qq 17 (.pick (.t 13) (.c (.bool true)) (.t 16))]) (.cond (.t 17) (.seq (.reg [qq 4 (.mv (ci 0))]) .ret) .skip)) (.seq (.seq (.reg [qq 5 (.mv (ci 0))]) (.block 0 (.loop (.seq (.seq (.reg [qq 18 (.mv (.t 5)), qq 19 (.mv (.t 1)), qq 20 (.lensl (.t 19)), qq 21 (.bin .lss (.t 18) (.t 20))]) (.cond (.t 21) .skip (.exit 0))) (.seq (.block 1 (.seq (.seq (.reg [qq 24 (.mv (.t 1)), qq 25 (.mv (.t 5)), qq 26 (.ixsl 5 (.t 24) (.t 25)), qq 27 (.faddr 0 (.t 26)), qq 28 (.load false 1 (.t 27)), qq 29 (.lensl (.t 28)), qq 30 (.mv (.t 0)), qq 31 (.bin .neq (.t 29) (.t 30)), qq 32 (.mv (.t 31)), ⟨(some 33), (some (32, false)), (.mv (.t 1))⟩, ⟨(some 34), (some (32, false)), (.mv (.t 5))⟩, ⟨(some 35), (some (32, false)), (.ixsl 5 (.t 33) (.t 34))⟩, ⟨(some 36), (some (32, false)), (.faddr 1 (.t 35))⟩, ⟨(some 37), (some (32, false)), (.faddr 1 (.t 36))⟩, ⟨(some 38), (some (32, false)), (.load false 1 (.t 37))⟩, ⟨(some 39), (some (32, false)), (.lens (.t 38))⟩, ⟨(some 40), (some (32, false)), (.bin .gtr (.t 39) (ci 4))⟩, qq 41 (.pick (.t 32) (.c (.bool true)) (.t 40)), qq 42 (.mv (.t 41)), ⟨(some 43), (some (42, false)), (.mv (.t 1))⟩, ⟨(some 44), (some (42, false)), (.mv (.t 5))⟩, ⟨(some 45), (some (42, false)), (.ixsl 5 (.t 43) (.t 44))⟩, ⟨(some 46), (some (42, false)), (.faddr 1 (.t 45))⟩, ⟨(some 47), (some (42, false)), (.faddr 2 (.t 46))⟩, ⟨(some 48), (some (42, false)), (.load false 1 (.t 47))⟩, ⟨(some 49), (some (42, false)), (.lens (.t 48))⟩, ⟨(some 50), (some (42, false)), (.bin .gtr (.t 49) (ci 4))⟩, qq 51 (.pick (.t 42) (.c (.bool true)) (.t 50))]) (.cond (.t 51) (.seq (.reg [qq 4 (.mv (ci 0))]) .ret) .skip)) (.seq (.reg [qq 6 (.mv (ci 0))]) (.block 2 (.loop (.seq (.seq (.reg [qq 52 (.mv (.t 6)), qq 53 (.mv (.t 0)), qq 54 (.bin .lss (.t 52) (.t 53))]) (.cond (.t 54) .skip (.exit 2))) (.seq (.block 3 (.seq (.reg [qq 57 (.mv (.t 1)), qq 58 (.mv (.t 5)), qq 59 (.ixsl 5 (.t 57) (.t 58)), qq 60 (.faddr 0 (.t 59)), qq 61 (.load false 1 (.t 60)), qq 62 (.mv (.t 6)), qq 63 (.ixsl 3 (.t 61) (.t 62)), qq 64 (.faddr 1 (.t 63)), qq 65 (.load false 1 (.t 64)), qq 66 (.lens (.t 65)), qq 67 (.bin .gtr (.t 66) (ci 4)), qq 68 (.mv (.t 67)), ⟨(some 69), (some (68, false)), (.mv (.t 1))⟩, ⟨(some 70), (some (68, false)), (.mv (.t 5))⟩, ⟨(some 71), (some (68, false)), (.ixsl 5 (.t 69) (.t 70))⟩, ⟨(some 72), (some (68, false)), (.faddr 0 (.t 71))⟩, ⟨(some 73), (some (68, false)), (.load false 1 (.t 72))⟩, ⟨(some 74), (some (68, false)), (.mv (.t 6))⟩, ⟨(some 75), (some (68, false)), (.ixsl 3 (.t 73) (.t 74))⟩, ⟨(some 76), (some (68, false)), (.faddr 2 (.t 75))⟩, ⟨(some 77), (some (68, false)), (.load false 1 (.t 76))⟩, ⟨(some 78), (some (68, false)), (.lens (.t 77))⟩, ⟨(some 79), (some (68, false)), (.bin .gtr (.t 78) (ci 4))⟩, qq 80 (.pick (.t 68) (.c (.bool true)) (.t 79))]) (.cond (.t 80) (.seq (.reg [qq 4 (.mv (ci 0))]) .ret) .skip))) (.reg [qq 55 (.mv (.t 6)), qq 56 (.bin .add (.t 55) (ci 1)), qq 6 (.mv (.t 56))])))))))) (.reg [qq 22 (.mv (.t 5)), qq 23 (.bin .add (.t 22) (ci 1)), qq 5 (.mv (.t 23))])))))) (.seq (.reg [qq 4 (.mv (ci 1))]) .ret))))
theorem tr26 : trFun Tryz.prog 26 = some ⟨81, [.t 4], c26⟩ := by kernel_rfl
set_option maxHeartbeats 16000000 in
theorem ok_fits : SpecOK Tryz.prog 26 (rdS spFits) := by
  refine rd_run (env_nil _) mixed tr26 ?_ ?_
  · intro args h h' v hle e
    unfold spFits at e ⊢
    split at e
    · split at e
      · rename_i l hb
        simp only [decRows_mono hle hb]; exact e
      · cases e
    · cases e
  intro args v h N hG hN
  unfold spFits at hG
  split at hG
  case h_2 => cases hG
  rename_i n sl
  split at hG
  case h_2 => cases hG
  rename_i l hx
  split at hG
  case isFalse => cases hG
  rename_i hm
  cases hG
  obtain ⟨a, cc, rfl⟩ := listAt_sl (dec := decEq h) hx
  refine ⟨by rfl, by simp, ?_⟩
  by_cases b1 : n < 0
  · rw [if_neg (fun e : fitS n l => by have := e.1; omega)]
    have g1 : (n < 0) = True := eq_true b1
    simp only [c26, G0, Nat.reduceAdd]
    simp only [↓R0, R1, simprocAttr, -Int.reduceAbs, g1, Fin, isEnd, resL, res1]
    exact ⟨_, rfl, rfl, fun k hk => by simp only [ne_nb hk, if_false]⟩
  have g1 : (n < 0) = False := eq_false b1
  by_cases b2 : n > 8
  · rw [if_neg (fun e : fitS n l => by have := e.2.1; omega)]
    have g2 : (n > 8) = True := eq_true b2
    simp only [c26, G0, Nat.reduceAdd]
    simp only [↓R0, R1, simprocAttr, -Int.reduceAbs, g1, g2, Fin, isEnd, resL, res1]
    exact ⟨_, rfl, rfl, fun k hk => by simp only [ne_nb hk, if_false]⟩
  have g2 : (n > 8) = False := eq_false b2
  by_cases b3 : l.length > 14
  · rw [if_neg (fun e : fitS n l => by have := e.2.2.1; omega)]
    have g3 : ((l.length : Int) > 14) = True := eq_true (by omega)
    simp only [c26, G0, Nat.reduceAdd]
    simp only [↓R0, R1, simprocAttr, -Int.reduceAbs, g1, g2, g3, Fin, isEnd, resL, res1]
    exact ⟨_, rfl, rfl, fun k hk => by simp only [ne_nb hk, if_false]⟩
  have g3 : ((l.length : Int) > 14) = False := eq_false (by omega)
  have bad : ∀ {i : Nat}, i < l.length → ¬ fitE n (eqAt l i) → ¬ fitS n l := fun hi h e => h (e.2.2.2 _ (eqAt_mem hi))
  simp only [c26, G0, Nat.reduceAdd]
  simp only [↓R0, R1, simprocAttr, -Int.reduceAbs, g1, g2, g3]
  refine lp_parts (fun q tm hp nx => ∃ i : Nat, q + i = l.length ∧ tmget tm 0 = .int .i64 n ∧ tmget tm 1 = .slice a l.length cc ∧ tmget tm 5 = .int .i64 i ∧ (∀ j e, j < i → l[j]? = some e → fitE n e) ∧ h = hp ∧ nx = N + 0) ?_ l.length
    ⟨0, by omega, ?_, ?_, ?_, fun j e hj => absurd hj (Nat.not_lt_zero j), rfl, rfl⟩
  rotate_left
  all_goals first | (simp only [↓R0, R1, simprocAttr, -Int.reduceAbs]; done) | (simp only [↓R0, R1, simprocAttr, -Int.reduceAbs]; rfl) | skip
  rintro q tm hp nx ⟨i, hq, t0, t1, t5, hall, hhp, hnx⟩
  subst hhp
  rw [hnx]
  clear hnx nx
  have wi : IntKind.i64.wrap ((i : Int) + 1) = ((i + 1 : Nat) : Int) := by rw [i64_in _ (by omega)]; omega
  by_cases c1 : i < l.length
  case neg =>
    have e : i = l.length := by omega
    subst e
    have c1' : ((l.length : Int) < (l.length : Int)) = False := eq_false (by omega)
    have fs : fitS n l := ⟨by omega, by omega, by omega, fun e he => by
      obtain ⟨j, hj⟩ := List.getElem?_of_mem he
      exact hall j e (List.getElem?_eq_some_iff.1 hj).1 hj⟩
    rw [if_pos fs]
    simp only [↓R0, R1, simprocAttr, -Int.reduceAbs, t0, t1, t5, c1', Fin, isEnd, resL, res1]
    exact ⟨_, rfl, rfl, fun q _ => trivial⟩
  have c1' : ((i : Int) < (l.length : Int)) = True := eq_true (by omega)
  obtain ⟨k, off, blk, a', n', c', ea, hb, q1, q2, hn', hl'⟩ := eq_at hx c1
  subst ea
  have ee := eqAt_some c1
  have k0 : blk.cells[off + i * 5 + 0]? = some (.slice a' n' c') := by have := cell_at (i := 0) q2 (by omega); rw [this]; rfl
  have k2 : blk.cells[off + i * 5 + 1 + 1]? = some (.string ⟨⟨(eqAt l i).rhs.n⟩⟩) := by have := cell_at (i := 2) q2 (by omega); rw [show off + i * 5 + 1 + 1 = off + i * 5 + 2 by omega, this]; rfl
  have k3 : blk.cells[off + i * 5 + 1 + 2]? = some (.string ⟨⟨(eqAt l i).rhs.d⟩⟩) := by have := cell_at (i := 3) q2 (by omega); rw [show off + i * 5 + 1 + 2 = off + i * 5 + 3 by omega, this]; rfl
  by_cases d1 : (n' : Int) = n
  case neg =>
    have d1' : ((n' : Int) = n) = False := eq_false d1
    rw [if_neg (bad c1 fun e => d1 (by rw [hn']; exact e.1))]
    simp only [↓R0, R1, simprocAttr, -Int.reduceAbs, t0, t1, t5, c1, c1', hb, k0, d1', Bool.not_false, Fin, isEnd, resL, res1]
    exact ⟨_, rfl, rfl, fun q _ => trivial⟩
  have d1' : ((n' : Int) = n) = True := eq_true d1
  by_cases d2 : (eqAt l i).rhs.n.length > 4
  · have d2' : (((eqAt l i).rhs.n.length : Int) > 4) = True := eq_true (by omega)
    rw [if_neg (bad c1 fun e => by have := e.2.1.1; omega)]
    simp only [↓R0, R1, simprocAttr, -Int.reduceAbs, t0, t1, t5, c1, c1', hb, k0, k2, d1', d2', Bool.not_true, Bool.not_false, Fin, isEnd, resL, res1]
    exact ⟨_, rfl, rfl, fun q _ => trivial⟩
  have d2' : (((eqAt l i).rhs.n.length : Int) > 4) = False := eq_false (by omega)
  by_cases d3 : (eqAt l i).rhs.d.length > 4
  · have d3' : (((eqAt l i).rhs.d.length : Int) > 4) = True := eq_true (by omega)
    rw [if_neg (bad c1 fun e => by have := e.2.1.2; omega)]
    simp only [↓R0, R1, simprocAttr, -Int.reduceAbs, t0, t1, t5, c1, c1', hb, k0, k2, k3, d1', d2', d3', Bool.not_true, Bool.not_false, Fin, isEnd, resL, res1]
    exact ⟨_, rfl, rfl, fun q _ => trivial⟩
  have d3' : (((eqAt l i).rhs.d.length : Int) > 4) = False := eq_false (by omega)
  have nn : n = ((eqAt l i).coef.length : Int) := by rw [← d1, hn']
  simp only [↓R0, R1, simprocAttr, -Int.reduceAbs, t0, t1, t5, c1, c1', hb, k0, k2, k3, d1', d2', d3', Bool.not_true, Bool.not_false]
  refine lp_parts (fun d tm hp nx => ∃ j : Nat, d + j = (eqAt l i).coef.length ∧ tmget tm 0 = .int .i64 n ∧ tmget tm 1 = .slice (some ⟨k, off, none⟩) l.length cc ∧ tmget tm 5 = .int .i64 i ∧ tmget tm 6 = .int .i64 j ∧ (∀ j', j' < j → smallQ (rqAt (eqAt l i).coef j')) ∧ h = hp ∧ nx = N + 0) ?_ (eqAt l i).coef.length
    ⟨0, by omega, ?_, ?_, ?_, ?_, fun j hj => absurd hj (Nat.not_lt_zero j), rfl, rfl⟩
  rotate_left
  all_goals first | (simp only [↓R0, R1, simprocAttr, -Int.reduceAbs, t0, t1, t5]; done) | (simp only [↓R0, R1, simprocAttr, -Int.reduceAbs, t0, t1, t5]; rfl) | skip
  clear t0 t1 t5
  rintro d tm hp nx ⟨j, hd, t0, t1, t5, t6, hall2, hhp, hnx⟩
  subst hhp
  rw [hnx]
  clear hnx nx
  have wj : IntKind.i64.wrap ((j : Int) + 1) = ((j + 1 : Nat) : Int) := by rw [i64_in _ (by omega)]; omega
  by_cases cj : j < (eqAt l i).coef.length
  case neg =>
    have cj' : ((j : Int) < n) = False := eq_false (by omega)
    have fe : fitE n (eqAt l i) := ⟨nn.symm, ⟨by omega, by omega⟩, fun q hq => by
      obtain ⟨j', hj'⟩ := List.getElem?_of_mem hq
      have hlt := (List.getElem?_eq_some_iff.1 hj').1
      have := hall2 j' (by omega)
      unfold rqAt at this
      rw [hj'] at this
      exact this⟩
    simp only [↓R0, R1, simprocAttr, -Int.reduceAbs, t0, t1, t5, t6, cj', wi]
    refine ⟨q - 1, by omega, i + 1, by omega, rfl, fun j' e hj he => ?_⟩
    by_cases x : j' = i
    · subst x; rw [ee] at he; cases he; exact fe
    · exact hall j' e (by omega) he
  have cj' : ((j : Int) < n) = True := eq_true (by omega)
  have cjn : ((j : Int) < (n' : Int)) = True := eq_true (by omega)
  have cjn2 : j < n' := by omega
  rw [hn'] at hl'
  obtain ⟨kk, f2, B2, ea2, b2, q3, q4⟩ := rq_at hl' cj
  subst ea2
  rw [← hn'] at hl'
  have r1 : B2.cells[f2 + j * 3 + 1]? = some (.string ⟨⟨(rqAt (eqAt l i).coef j).n⟩⟩) := by have := cell_at (i := 1) q4 (by omega); rw [this]; rfl
  have r2 : B2.cells[f2 + j * 3 + 2]? = some (.string ⟨⟨(rqAt (eqAt l i).coef j).d⟩⟩) := by have := cell_at (i := 2) q4 (by omega); rw [this]; rfl
  have qm : rqAt (eqAt l i).coef j ∈ (eqAt l i).coef := by unfold rqAt; rw [List.getElem?_eq_getElem cj]; exact List.getElem_mem cj
  by_cases s1 : (rqAt (eqAt l i).coef j).n.length > 4
  · have s1' : (((rqAt (eqAt l i).coef j).n.length : Int) > 4) = True := eq_true (by omega)
    rw [if_neg (bad c1 fun e => by have := (e.2.2 _ qm).1; omega)]
    simp only [↓R0, R1, simprocAttr, -Int.reduceAbs, t0, t1, t5, t6, c1, c1', cj', cjn, cjn2, hb, k0, b2, r1, s1', Fin, isEnd, resL, res1]
    exact ⟨_, rfl, rfl, fun q _ => trivial⟩
  have s1' : (((rqAt (eqAt l i).coef j).n.length : Int) > 4) = False := eq_false (by omega)
  by_cases s2 : (rqAt (eqAt l i).coef j).d.length > 4
  · have s2' : (((rqAt (eqAt l i).coef j).d.length : Int) > 4) = True := eq_true (by omega)
    rw [if_neg (bad c1 fun e => by have := (e.2.2 _ qm).2; omega)]
    simp only [↓R0, R1, simprocAttr, -Int.reduceAbs, t0, t1, t5, t6, c1, c1', cj', cjn, cjn2, hb, k0, b2, r1, r2, s1', s2', Fin, isEnd, resL, res1]
    exact ⟨_, rfl, rfl, fun q _ => trivial⟩
  have s2' : (((rqAt (eqAt l i).coef j).d.length : Int) > 4) = False := eq_false (by omega)
  simp only [↓R0, R1, simprocAttr, -Int.reduceAbs, t0, t1, t5, t6, c1, c1', cj', cjn, cjn2, hb, k0, b2, r1, r2, s1', s2', wj]
  refine ⟨d - 1, by omega, j + 1, by omega, rfl, fun j' hj' => ?_⟩
  by_cases x : j' = j
  · subst x; exact ⟨by omega, by omega⟩
  · exact hall2 j' (by omega)
end Go.Eng
end
section
set_option linter.unusedVariables false
set_option linter.unusedSimpArgs false
set_option linter.unusedSectionVars false
set_option maxRecDepth 20000
namespace Go.Eng
open Go Go.Proofs Go.IntWalk
def nmE (e : EqR) : EqR := ⟨e.coef.map fun q => RQ.of q.v, RQ.of e.rhs.v, e.line⟩
def nmL (l : List EqR) : List EqR := l.map nmE
theorem nmL_len (l : List EqR) : (nmL l).length = l.length := by unfold nmL; rw [List.length_map]
theorem nmL_at {l : List EqR} {i : Nat} (h : i < l.length) : eqAt (nmL l) i = nmE (eqAt l i) := by
  unfold eqAt nmL
  rw [List.getElem?_map, List.getElem?_eq_getElem h]; rfl
def nmCo (n : Nat) (ρ : Nat → Nat) (j : Nat) : Value := if n = 0 then .slice none 0 0 else .slice (some ⟨ρ j, 0, none⟩) n n
def nmF (n : Nat) (ρ : Nat → Nat) (l : List EqR) (j : Nat) : List Value := nmCo n ρ j :: (eqAt l j).tl
def nmNL (n : Nat) (l : List EqR) : NewL :=
  if l = [] then ⟨0, fun _ => .tuple ⟨[.slice none 0 0, .bool true]⟩, fun _ => 0, fun _ => 0, fun _ _ => []⟩
  else ⟨if n = 0 then 1 else l.length + 1, fun σ => .tuple ⟨[.slice (some ⟨σ 0, 0, none⟩) l.length l.length, .bool true]⟩, fun i => if i = 0 then 40 else 38, fun i => if i = 0 then 5 else 3,
    fun σ i => if i = 0 then blkC (nmF n (fun j => σ (j + 1)) l) l.length else rqs (eqAt l (i - 1)).coef⟩
noncomputable def spNormed : List Value → Heap → Option NewL
  | [.int .i64 n, sl], h => match decRows h sl with
    | some l => if l.length ≤ 9223372036854775807 then (if fitS n l then some (nmNL n.toNat (nmL l)) else some ⟨0, fun _ => .tuple ⟨[.slice none 0 0, .bool false]⟩, fun _ => 0, fun _ => 0, fun _ _ => []⟩) else none
    | none => none
  | _, _ => none
theorem VRs.blk {β : Emb} {f g : Nat → List Value} : ∀ {m : Nat}, (∀ j, j < m → VRs β (f j) (g j)) → VRs β (blkC f m) (blkC g m)
  | 0, _ => .nil
  | m + 1, h => (VRs.blk fun j hj => h j (by omega)).append (h m (by omega))
theorem nmNL_par (n : Nat) (l : List EqR) (h : Heap) : (nmNL n l).Par h := by
  unfold nmNL
  split
  · exact ⟨fun β σ σ' _ _ => .tup _ _ (.cons _ _ _ _ (.base _ rfl) (.cons _ _ _ _ (.base _ rfl) .nil)), fun β σ σ' _ _ i hi => absurd hi (Nat.not_lt_zero i)⟩
  · refine ⟨fun β σ σ' b1 _ => .tup _ _ (.cons _ _ _ _ (VR.sl (σ 0) 0 _ _ ⟨σ' 0, 0, []⟩ (b1 0 (by show 0 < if n = 0 then 1 else l.length + 1; split <;> omega))) (.cons _ _ _ _ (.base _ rfl) .nil)), fun β σ σ' b1 _ i hi => ?_⟩
    match i with
    | 0 =>
      show VRs β (blkC (nmF n (fun j => σ (j + 1)) l) l.length) (blkC (nmF n (fun j => σ' (j + 1)) l) l.length)
      refine VRs.blk fun j hj => .cons _ _ _ _ ?_ (VRs.of_base rfl)
      unfold nmCo
      by_cases z : n = 0
      · rw [if_pos z, if_pos z]; exact .base _ rfl
      · rw [if_neg z, if_neg z]
        exact VR.sl (σ (j + 1)) 0 _ _ ⟨σ' (j + 1), 0, []⟩ (b1 (j + 1) (by show j + 1 < if n = 0 then 1 else l.length + 1; rw [if_neg z]; omega))
    | i + 1 =>
      show VRs β (rqs (eqAt l i).coef) (rqs (eqAt l i).coef)
      exact VRs.of_base (rqs_base _)
def NmS (hp : Heap) (N M n : Nat) (l : List EqR) (i : Nat) (sl : Value) : Prop :=
  (i = 0 ∧ sl = .slice none 0 0) ∨ (0 < i ∧ ∃ (kL : Nat) (x : Bool) (ρ : Nat → Nat), sl = .slice (some ⟨kL, 0, none⟩) i i ∧ hget hp kL = some ⟨40, 5, x, blkC (nmF n ρ l) i⟩ ∧ N ≤ kL ∧ kL < M ∧
    (n ≠ 0 → (∀ j, j < i → (∃ y, hget hp (ρ j) = some ⟨38, 3, y, rqs (eqAt l j).coef⟩) ∧ N ≤ ρ j ∧ ρ j < M ∧ ρ j ≠ kL) ∧ ∀ j j', j < i → j' < i → ρ j = ρ j' → j = j'))
def CoS (hp : Heap) (N M : Nat) (cs : List RQ) (j : Nat) (co : Value) : Prop :=
  (j = 0 ∧ co = .slice none 0 0) ∨ (0 < j ∧ ∃ (kk : Nat) (x : Bool), co = .slice (some ⟨kk, 0, none⟩) j j ∧ hget hp kk = some ⟨38, 3, x, rqs (cs.take j)⟩ ∧ N ≤ kk ∧ kk < M)
theorem updF (ρ : Nat → Nat) (i v : Nat) : ∃ ρ' : Nat → Nat, ρ' i = v ∧ ∀ j, j ≠ i → ρ' j = ρ j := ⟨fun j => if j = i then v else ρ j, if_pos rfl, fun j hj => if_neg hj⟩
theorem NmS.push {hp hp' : Heap} {N M M0 M' n i kN : Nat} {l : List EqR} {x : Bool} {sl co : Value} (S : NmS hp N M n l i sl) (keep : ∀ q, q < M → q ≠ (match sl with | .slice (some ⟨k, _, _⟩) _ _ => k | _ => M) → hget hp' q = hget hp q)
    (hm : M ≤ M0) (hco : CoS hp' M0 M' (eqAt l i).coef n co) (hl : (eqAt l i).coef.length = n) (hk : hget hp' kN = some ⟨40, 5, x, (match sl with | .slice (some ⟨k, _, _⟩) _ _ => (match hget hp k with | some b => b.cells | none => []) | _ => []) ++ (co :: (eqAt l i).tl)⟩)
    (h1 : M ≤ kN) (h2 : kN < M') (h3 : ∀ k, co = .slice (some ⟨k, 0, none⟩) n n → k ≠ kN) (hN : N ≤ M) (hM' : M ≤ M') : NmS hp' N M' n l (i + 1) (.slice (some ⟨kN, 0, none⟩) (i + 1) (i + 1)) := by
  have main : ∀ (ρ : Nat → Nat), (n ≠ 0 → (∀ j, j < i → (∃ y, hget hp' (ρ j) = some ⟨38, 3, y, rqs (eqAt l j).coef⟩) ∧ N ≤ ρ j ∧ ρ j < M) ∧ ∀ j j', j < i → j' < i → ρ j = ρ j' → j = j') →
      hget hp' kN = some ⟨40, 5, x, blkC (nmF n ρ l) i ++ (co :: (eqAt l i).tl)⟩ → NmS hp' N M' n l (i + 1) (.slice (some ⟨kN, 0, none⟩) (i + 1) (i + 1)) := by
    intro ρ hρ hk
    rcases hco with ⟨z, rfl⟩ | ⟨z, kk, y, rfl, c1, c2, c3⟩
    · subst z
      refine .inr ⟨by omega, kN, x, ρ, rfl, ?_, by omega, h2, fun z => absurd rfl z⟩
      rw [hk]
      rfl
    · obtain ⟨ρ', p1, p2⟩ := updF ρ i kk
      obtain ⟨g1, g2⟩ := hρ (by omega)
      refine .inr ⟨by omega, kN, x, ρ', rfl, ?_, by omega, h2, fun _ => ⟨fun j hj => ?_, fun j j' hj hj' e => ?_⟩⟩
      · rw [hk]
        congr 2
        show _ = blkC _ i ++ _
        congr 1
        · exact blkC_congr fun j hj => by unfold nmF nmCo; rw [p2 j (by omega)]
        · unfold nmF nmCo; rw [p1, if_neg (by omega)]
      · by_cases e : j = i
        · subst e
          rw [p1]
          rw [List.take_of_length_le (by omega)] at c1
          exact ⟨⟨y, c1⟩, by omega, c3, h3 _ rfl⟩
        · rw [p2 j e]
          obtain ⟨a, b, c⟩ := g1 j (by omega)
          exact ⟨a, b, by omega, by omega⟩
      · by_cases e1 : j = i
        · subst e1
          by_cases e2 : j' = j
          · exact e2.symm
          · rw [p1, p2 j' e2] at e
            have := (g1 j' (by omega)).2.2
            omega
        · by_cases e2 : j' = i
          · subst e2
            rw [p1, p2 j e1] at e
            have := (g1 j (by omega)).2.2
            omega
          · rw [p2 j e1, p2 j' e2] at e
            exact g2 j j' (by omega) (by omega) e
  rcases S with ⟨z, rfl⟩ | ⟨z, kL, y, ρ, rfl, a1, a2, a3, a4⟩
  · subst z
    exact main (fun _ => 0) (fun _ => ⟨fun j hj => absurd hj (Nat.not_lt_zero _), fun j j' hj => absurd hj (Nat.not_lt_zero _)⟩) hk
  · simp only [a1] at hk
    refine main ρ (fun hn => ⟨fun j hj => ?_, (a4 hn).2⟩) hk
    obtain ⟨⟨y, b1⟩, b2, b3, b4⟩ := (a4 hn).1 j hj
    exact ⟨⟨y, by rw [keep _ b3 b4]; exact b1⟩, b2, b3⟩
theorem nmE_cells (e : EqR) : setR (setR [.slice none 0 0, .bool false, .string ⟨⟨[]⟩⟩, .string ⟨⟨[]⟩⟩, .int .i64 0] 1 (rE e.rhs.v)) 4 [.int .i64 e.line] = .slice none 0 0 :: (nmE e).tl := rfl
end Go.Eng
end
section
set_option linter.unusedVariables false
set_option linter.unusedSimpArgs false
set_option linter.unusedSectionVars false
set_option maxRecDepth 20000
namespace Go.Eng
open Go Go.Proofs Go.IntWalk
def c10 : ICode :=
  (.seq (.reg [qq 4 (.mv (.c (.slice none 0 0))), qq 5 (.mv (.c (.bool false)))]) (.seq (.seq (.reg [qq 10 (.mv (.t 0)), qq 11 (.mv (.t 1)), qq 12 (.call 26 [(.t 10), (.t 11)]), qq 13 (.bin .eql (.t 12) (ci 0))]) (.cond (.t 13) (.seq (.reg [qq 4 (.mv (.c (.slice none 0 0))), qq 5 (.mv (.c (.bool false)))]) .ret) .skip)) (.seq (.reg [qq 6 (.mv (.c (.slice none 0 0)))]) (.seq (.seq (.reg [qq 7 (.mv (ci 0))]) (.block 0 (.loop (.seq (.seq (.reg [qq 14 (.mv (.t 7)), qq 15 (.mv (.t 1)), qq 16 (.lensl (.t 15)), qq 17 (.bin .lss (.t 14) (.t 16))]) (.cond (.t 17) .skip (.exit 0))) (.seq (.block 1 (.seq (.dreg [qu 20 (.mv (.t 1)), qu 21 (.mv (.t 7)), qu 22 (.ixsl 5 (.t 20) (.t 21)), qu 23 (.faddr 1 (.t 22)), qu 24 (.load true 3 (.t 23)), qu 25 (.call 27 [(.t 24)]), qu 26 (.mv (.t 1)), qu 27 (.mv (.t 7)), qu 28 (.ixsl 5 (.t 26) (.t 27)), qu 29 (.faddr 4 (.t 28)), qv 30 [5] (.load false 1 (.t 29)), qu 31 (.build [(.slice none 0 0), (.bool false), e0, e0, (.int .i64 0)] [(1, 3, (.t 25)), (4, 1, (.t 30))]), qu 8 (.alloc 40 5 [(.slice none 0 0), (.bool false), e0, e0, (.int .i64 0)]), qm (.store 5 (.t 8) (.t 31))]) (.seq (.seq (.reg [qq 9 (.mv (ci 0))]) (.block 2 (.loop (.seq (.seq (.reg [qq 32 (.mv (.t 9)), qq 33 (.mv (.t 0)), qq 34 (.bin .lss (.t 32) (.t 33))]) (.cond (.t 34) .skip (.exit 2))) (.seq (.block 3 (.dreg [qu 37 (.faddr 0 (.t 8)), qu 38 (.load false 1 (.t 37)), qu 39 (.mv (.t 1)), qu 40 (.mv (.t 7)), qu 41 (.ixsl 5 (.t 39) (.t 40)), qu 42 (.faddr 0 (.t 41)), qu 43 (.load false 1 (.t 42)), qu 44 (.mv (.t 9)), qu 45 (.ixsl 3 (.t 43) (.t 44)), qu 46 (.load true 3 (.t 45)), qu 47 (.call 27 [(.t 46)]), qu 48 (.bslice 38 3 1 [(.bool false), e0, e0] [(0, 3, (.t 47))]), qu 49 (.app 38 3 40 (.t 38) (.t 48)), qu 50 (.faddr 0 (.t 8)), qm (.store 1 (.t 50) (.t 49))])) (.reg [qq 35 (.mv (.t 9)), qq 36 (.bin .add (.t 35) (ci 1)), qq 9 (.mv (.t 36))])))))) (.reg [qq 51 (.mv (.t 6)), qq 52 (.load true 5 (.t 8)), qq 53 (.bslice 40 5 1 [(.slice none 0 0), (.bool false), e0, e0, (.int .i64 0)] [(0, 5, (.t 52))]), qq 54 (.app 40 5 72 (.t 51) (.t 53)), qq 6 (.mv (.t 54))])))) (.reg [qq 18 (.mv (.t 7)), qq 19 (.bin .add (.t 18) (ci 1)), qq 7 (.mv (.t 19))])))))) (.seq (.reg [qq 55 (.mv (.t 6)), qq 4 (.mv (.t 55)), qq 5 (.mv (.c (.bool true)))]) .ret)))))
theorem tr10 : trFun Tryz.prog 10 = some ⟨56, [.t 4, .t 5], c10⟩ := by kernel_rfl
set_option maxHeartbeats 32000000 in
theorem ok_normed : SpecOK Tryz.prog 10 (nwL spNormed) := by
  refine newL_run (env_cons ok_fits (env_cons ok_r3Norm (env_nil _))) mixed tr10 ?_ ?_
  · intro args h h' r hle e
    unfold spNormed at e ⊢
    split at e
    · split at e
      · rename_i l hb
        simp only [decRows_mono hle hb]; exact e
      · cases e
    · cases e
  intro args h N r hG hN
  unfold spNormed at hG
  split at hG
  case h_2 => cases hG
  rename_i n sl
  split at hG
  case h_2 => cases hG
  rename_i l hx
  split at hG
  case isFalse => cases hG
  rename_i hm
  obtain ⟨a, cc, rfl⟩ := listAt_sl (dec := decEq h) hx
  have fx : spFits [.int .i64 n, .slice a l.length cc] h = some (.int .i64 (if fitS n l then 1 else 0)) := by
    unfold spFits
    simp only [hx]
    exact if_pos hm
  split at hG
  case isFalse =>
    rename_i nf
    cases hG
    refine ⟨⟨fun β σ σ' _ _ => .tup _ _ (.cons _ _ _ _ (.base _ rfl) (.cons _ _ _ _ (.base _ rfl) .nil)), fun β σ σ' _ _ i hi => absurd hi (Nat.not_lt_zero i)⟩, by simp, ?_⟩
    rw [if_neg nf] at fx
    simp only [c10, G0, Nat.reduceAdd]
    simp only [↓R0, R1, simprocAttr, -Int.reduceAbs, rdS, fx, FinL, isEnd, resL, res1]
    exact ⟨fun i => i, _, fun i hi => absurd hi (Nat.not_lt_zero i), fun i j hi => absurd hi (Nat.not_lt_zero i), rfl, rfl, fun i hi => absurd hi (Nat.not_lt_zero i), fun k _ => trivial⟩
  rename_i ft
  cases hG
  rw [if_pos ft] at fx
  obtain ⟨n0, n8, m14, hfit⟩ := ft
  obtain ⟨n, rfl⟩ := Int.eq_ofNat_of_zero_le n0
  rw [Int.toNat_natCast]
  refine ⟨nmNL_par _ _ _, by simp, ?_⟩
  have hL := nmL_len l
  simp only [c10, G0, Nat.reduceAdd]
  simp only [↓R0, R1, simprocAttr, -Int.reduceAbs, rdS, fx]
  refine lp_parts (fun q tm hp nx => ∃ (i M : Nat) (o : Value), q + i = l.length ∧ tmget tm 0 = .int .i64 n ∧ tmget tm 1 = .slice a l.length cc ∧ tmget tm 7 = .int .i64 i ∧ tmget tm 6 = o ∧ NmS hp N M n (nmL l) i o ∧ ExtL N h hp ∧ N ≤ M ∧ nx = M + 0) ?_ l.length
    ⟨0, N, .slice none 0 0, by omega, ?_, ?_, ?_, ?_, .inl ⟨rfl, rfl⟩, fun q _ => rfl, Nat.le_refl _, rfl⟩
  rotate_left
  all_goals first | (simp only [↓R0, R1, simprocAttr, -Int.reduceAbs]; done) | (simp only [↓R0, R1, simprocAttr, -Int.reduceAbs]; rfl) | skip
  rintro q tm hp nx ⟨i, M, o, hq, t0, t1, t7, t6, hS, hh, hM, hnx⟩
  rw [hnx]
  clear hnx nx
  have wi : IntKind.i64.wrap ((i : Int) + 1) = ((i + 1 : Nat) : Int) := by rw [i64_in _ (by omega)]; omega
  by_cases c1 : i < l.length
  case neg =>
    have e : i = l.length := by omega
    subst e
    have c1' : ((l.length : Int) < (l.length : Int)) = False := eq_false (by omega)
    unfold nmNL
    rcases hS with ⟨z, rfl⟩ | ⟨z, kL, x, ρ, rfl, a1, a2, a3, a4⟩
    · rw [if_pos (List.eq_nil_of_length_eq_zero (by rw [hL]; exact z))]
      simp only [↓R0, R1, simprocAttr, -Int.reduceAbs, t0, t1, t7, t6, c1', FinL, isEnd, resL, res1]
      exact ⟨fun i => i, _, fun i hi => absurd hi (Nat.not_lt_zero i), fun i j hi => absurd hi (Nat.not_lt_zero i), rfl, rfl, fun i hi => absurd hi (Nat.not_lt_zero i), hh⟩
    · rw [if_neg (fun e => by rw [e] at hL; simp at hL; omega), hL]
      simp only [↓R0, R1, simprocAttr, -Int.reduceAbs, t0, t1, t7, t6, c1', FinL, isEnd, resL, res1]
      by_cases zn : n = 0
      · subst zn
        refine ⟨fun _ => kL, _, fun i hi => (by omega : N ≤ kL), fun i j hi hj _ => ?_, rfl, rfl, fun i hi => ⟨x, ?_⟩, hh⟩
        · simp at hi hj; omega
        · simp at hi
          subst hi
          exact a1
      · obtain ⟨b1, b2⟩ := a4 zn
        refine ⟨fun i => if i = 0 then kL else ρ (i - 1), _, fun i hi => ?_, fun i j hi hj e => ?_, rfl, rfl, fun i hi => ?_, hh⟩
        · show N ≤ if i = 0 then kL else ρ (i - 1)
          rw [if_neg zn] at hi
          split
          · omega
          · exact (b1 (i - 1) (by omega)).2.1
        · rw [if_neg zn] at hi hj
          simp only at e
          by_cases e1 : i = 0
          · by_cases e2 : j = 0
            · omega
            · rw [if_pos e1, if_neg e2] at e
              exact absurd e.symm (b1 (j - 1) (by omega)).2.2.2
          · by_cases e2 : j = 0
            · rw [if_neg e1, if_pos e2] at e
              exact absurd e (b1 (i - 1) (by omega)).2.2.2
            · rw [if_neg e1, if_neg e2] at e
              have := b2 _ _ (by omega) (by omega) e
              omega
        · rw [if_neg zn] at hi
          match i with
          | 0 => exact ⟨x, a1⟩
          | i + 1 =>
            obtain ⟨⟨y, g⟩, _⟩ := b1 i (by omega)
            exact ⟨y, g⟩
  have c1' : ((i : Int) < (l.length : Int)) = True := eq_true (by omega)
  obtain ⟨k, off, blk, a', n', c', ea, hb, q1, q2, hn', hl'⟩ := eq_at hx c1
  subst ea
  have fe := hfit _ (eqAt_mem c1)
  have hnn : n' = n := by have := fe.1; omega
  subst hnn
  have nk := hN _ _ hb
  have hbb : hget hp k = some blk := by rw [hh k nk]; exact hb
  have Mk : ∀ d, (M + d = k) = False := fun d => eq_false (by omega)
  have e51 : (blk.cells.drop (off + i * 5 + 1)).take 3 = (eqAt l i).rhs.cells := by
    have := congrArg (fun y => (y.drop 1).take 3) q2
    simp only [List.drop_take, List.take_take, List.drop_drop] at this
    exact this
  have q3 : off + i * 5 + 1 + 3 ≤ blk.cells.length := by omega
  have k4 : blk.cells[off + i * 5 + 4]? = some (.int .i64 (eqAt l i).line) := by have := cell_at (i := 4) q2 (by omega); rw [this]; rfl
  have k0 : blk.cells[off + i * 5 + 0]? = some (.slice a' n' c') := by have := cell_at (i := 0) q2 (by omega); rw [this]; rfl
  have rn : ∀ q : RQ, smallQ q → spR3Norm [.agg ⟨q.cells⟩] = some (.agg ⟨rE q.v⟩) := fun q hq => if_pos ⟨by have := hq.1; omega, by have := hq.2; omega⟩
  have rn1 := rn _ fe.2.1
  have E1 := nmE_cells (eqAt l i)
  have E2 : (Value.slice none 0 0 :: (nmE (eqAt l i)).tl).length = 5 := rfl
  have E3 : setR [.slice none 0 0, .bool false, .string ⟨⟨[]⟩⟩, .string ⟨⟨[]⟩⟩, .int .i64 0] 0 (Value.slice none 0 0 :: (nmE (eqAt l i)).tl) = Value.slice none 0 0 :: (nmE (eqAt l i)).tl := rfl
  have E4 : (Value.slice none 0 0 :: (nmE (eqAt l i)).tl).all okCell = true := rfl
  have T1 : (nmE (eqAt l i)).tl.length = 4 := rfl
  have T2 : (nmE (eqAt l i)).tl.all okCell = true := rfl
  have T3 : (nmE (eqAt l i)).tl.take 4 = (nmE (eqAt l i)).tl := rfl
  have T4 : ∀ v, setR [v, .bool false, .string ⟨⟨[]⟩⟩, .string ⟨⟨[]⟩⟩, .int .i64 0] 1 (nmE (eqAt l i)).tl = v :: (nmE (eqAt l i)).tl := fun _ => rfl
  have T5 : (eqAt (nmL l) i).tl = (nmE (eqAt l i)).tl := by rw [nmL_at c1]
  have rl : (eqAt l i).rhs.cells.length = 3 := rfl
  generalize (eqAt l i).rhs.cells = RH at *
  generalize eT : (nmE (eqAt l i)).tl = TL at *
  simp only [↓R0, R1, simprocAttr, -Int.reduceAbs, flat, t0, t1, t7, t6, c1, c1', hbb, q1, q3, Mk, e51, k4, rn1, setR_length, rE_l3', rE_o3', E1, E2, E3, E4]
  have hC := fe.2.2
  have hD : (nmE (eqAt l i)).coef = (eqAt l i).coef.map fun q => RQ.of q.v := rfl
  have hDl : (nmE (eqAt l i)).coef.length = n' := by rw [hD, List.length_map]; omega
  refine lp_parts (fun d tm hp2 nx => ∃ (j M2 : Nat) (co : Value), d + j = n' ∧ tmget tm 0 = .int .i64 n' ∧ tmget tm 1 = .slice (some ⟨k, off, none⟩) l.length cc ∧ tmget tm 6 = o ∧ tmget tm 7 = .int .i64 i ∧ tmget tm 8 = .pointer (some ⟨M + 0, 0, none⟩) ∧ tmget tm 9 = .int .i64 j ∧
      hget hp2 (M + 0) = some ⟨40, 5, true, co :: TL⟩ ∧ CoS hp2 (M + 1) M2 (nmE (eqAt l i)).coef j co ∧ (∀ q, q < M → hget hp2 q = hget hp q) ∧ M + 1 ≤ M2 ∧ nx = M2 + 0) ?_ n'
    ⟨0, M + 1, .slice none 0 0, by omega, ?_, ?_, ?_, ?_, ?_, ?_, ?_, .inl ⟨rfl, rfl⟩, ?_, Nat.le_refl _, rfl⟩
  rotate_left
  all_goals first | (simp only [↓R0, R1, simprocAttr, -Int.reduceAbs, t0, t1, t6, t7]; done) | (simp only [↓R0, R1, simprocAttr, -Int.reduceAbs, t0, t1, t6, t7]; rfl) | skip
  · intro q hq
    have nb : ∀ d, (M + d = q) = False := fun d => eq_false (by omega)
    simp only [↓R0, R1, simprocAttr, -Int.reduceAbs, nb]
  clear t0 t1 t6 t7
  rintro d tm hp2 nx ⟨j, M2, co, hd, t0, t1, t6, t7, t8, t9, bx, hco, hh2, hM2, hnx⟩
  rw [hnx]
  clear hnx nx
  have wj : IntKind.i64.wrap ((j : Int) + 1) = ((j + 1 : Nat) : Int) := by rw [i64_in _ (by omega)]; omega
  have hbb2 : hget hp2 k = some blk := by rw [hh2 k (by omega)]; exact hbb
  have Mk2 : ∀ d, (M2 + d = k) = False := fun d => eq_false (by omega)
  have Mx : ∀ d, (M2 + d = M + 0) = False := fun d => eq_false (by omega)
  have My : ∀ d, (M + 0 = M2 + d) = False := fun d => eq_false (by omega)
  have Mk3 : (M + 0 = k) = False := eq_false (by omega)
  by_cases cj : j < n'
  case pos =>
    have cj' : ((j : Int) < (n' : Int)) = True := eq_true (by omega)
    obtain ⟨kk, f2, B2, ea2, b2, p3, p4⟩ := rq_at hl' cj
    have nk2 := hN _ _ b2
    have b2' : hget hp2 kk = some B2 := by rw [hh2 kk (by omega), hh kk nk2]; exact b2
    have Nk1 : ∀ d, (M2 + d = kk) = False := fun d => eq_false (by omega)
    have Nk2 : (M + 0 = kk) = False := eq_false (by omega)
    rw [ea2] at k0
    have qm : rqAt (eqAt l i).coef j ∈ (eqAt l i).coef := by unfold rqAt; rw [List.getElem?_eq_getElem (by omega)]; exact List.getElem_mem (by omega)
    have rn2 := rn _ (hC _ qm)
    have Dj : (nmE (eqAt l i)).coef[j]? = some (RQ.of (rqAt (eqAt l i).coef j).v) := by
      rw [hD, List.getElem?_map]
      unfold rqAt
      rw [List.getElem?_eq_getElem (by omega)]; rfl
    have Ds : rqs ((nmE (eqAt l i)).coef.take (j + 1)) = rqs ((nmE (eqAt l i)).coef.take j) ++ rE (rqAt (eqAt l i).coef j).v := by
      rw [List.take_add_one, Dj]
      exact (rqs_app _ _).symm
    have Dl : (rqs ((nmE (eqAt l i)).coef.take j)).length = j * 3 := by rw [rqs_len, List.length_take, hDl, Nat.min_eq_left (by omega)]
    have s3 : setR [.bool false, .string ⟨⟨[]⟩⟩, .string ⟨⟨[]⟩⟩] 0 (rE (rqAt (eqAt l i).coef j).v) = rE (rqAt (eqAt l i).coef j).v := rfl
    have u3 : (rE (rqAt (eqAt l i).coef j).v).take 3 = rE (rqAt (eqAt l i).coef j).v := rfl
    have ql : (rqAt (eqAt l i).coef j).cells.length = 3 := rfl
    have r3 := rE_l3' (rqAt (eqAt l i).coef j).v
    have r4 := rE_o3' (rqAt (eqAt l i).coef j).v
    generalize (rqAt (eqAt l i).coef j).cells = QC at *
    generalize eRE : rE (rqAt (eqAt l i).coef j).v = RE at *
    rcases hco with ⟨z, rfl⟩ | ⟨z, kc, y, rfl, g1, g2, g3⟩
    · have D0 : rqs ((nmE (eqAt l i)).coef.take j) = [] := List.eq_nil_of_length_eq_zero (by rw [Dl, z])
      rw [D0, List.nil_append] at Ds
      simp only [↓R0, R1, simprocAttr, -Int.reduceAbs, flat, t0, t1, t6, t7, t8, t9, c1, c1', cj, cj', hbb2, bx, k0, b2', p3, p4, Mk2, Mk3, Mx, My, Nk1, Nk2, rn2, s3, u3, r3, r4, ql, T1, T2, wj, setR_length]
      refine ⟨d - 1, by omega, j + 1, M2 + 2, .slice (some ⟨M2 + 1, 0, none⟩) 1 1, by omega, rfl, rfl, .inr ⟨by omega, M2 + 1, false, by rw [z], ?_, by omega, by omega⟩, fun q hq => ?_, by omega, rfl⟩
      · rw [Ds]
        simp only [↓R0, R1, simprocAttr, -Int.reduceAbs, Mx, My]
      · have nb : ∀ d, (M2 + d = q) = False := fun d => eq_false (by omega)
        have nc : (M + 0 = q) = False := eq_false (by omega)
        simp only [↓R0, R1, simprocAttr, -Int.reduceAbs, nb, nc]
        exact hh2 q hq
    · have v1 : ∀ d, (M2 + d = kc) = False := fun d => eq_false (by omega)
      have v2 : ∀ d, (kc = M2 + d) = False := fun d => eq_false (by omega)
      have v3 : (M + 0 = kc) = False := eq_false (by omega)
      have v4 : (kc = M + 0) = False := eq_false (by omega)
      have nler : (j + 1 ≤ j) = False := eq_false (by omega)
      have ovr : ((j + 1) * 40 ≤ 140737488355328) = True := eq_true (by omega)
      generalize eDT : rqs ((nmE (eqAt l i)).coef.take j) = DT at *
      simp only [↓R0, R1, simprocAttr, -Int.reduceAbs, flat, t0, t1, t6, t7, t8, t9, c1, c1', cj, cj', hbb2, bx, k0, b2', p3, p4, Mk2, Mk3, Mx, My, Nk1, Nk2, rn2, s3, u3, r3, r4, ql, T1, T2, wj, setR_length, g1, Dl, nler, ovr, v1, v2, v3, v4]
      refine ⟨d - 1, by omega, j + 1, M2 + 2, .slice (some ⟨M2 + 1, 0, none⟩) (j + 1) (j + 1), by omega, rfl, rfl, .inr ⟨by omega, M2 + 1, false, rfl, ?_, by omega, by omega⟩, fun q hq => ?_, by omega, rfl⟩
      · rw [Ds]
        simp only [↓R0, R1, simprocAttr, -Int.reduceAbs, Mx, My, v1, v2, v3, v4]
      · have nb : ∀ d, (M2 + d = q) = False := fun d => eq_false (by omega)
        have nc : (M + 0 = q) = False := eq_false (by omega)
        have nq : (kc = q) = False := eq_false (by omega)
        simp only [↓R0, R1, simprocAttr, -Int.reduceAbs, nb, nc, nq]
        exact hh2 q hq
  have ej : j = n' := by omega
  subst ej
  have cj' : ((j : Int) < (j : Int)) = False := eq_false (by omega)
  have cok : okCell co = true := by rcases hco with ⟨_, rfl⟩ | ⟨_, kc, y, rfl, _⟩ <;> rfl
  have nlr : (i + 1 ≤ i) = False := eq_false (by omega)
  have ov2 : ((i + 1) * 72 ≤ 140737488355328) = True := eq_true (by omega)
  rcases hS with ⟨z, rfl⟩ | ⟨z, kL, x, ρ, rfl, a1, a2, a3, a4⟩
  · simp only [↓R0, R1, simprocAttr, -Int.reduceAbs, t0, t1, t6, t7, t8, t9, cj', bx, Mx, My, T1, T2, T3, T4, cok, wi, setR_length]
    refine ⟨q - 1, by omega, i + 1, M2 + 2, .slice (some ⟨M2 + 1, 0, none⟩) 1 1, by omega, rfl, rfl, ?_, ?_, by omega, rfl⟩
    · have P := NmS.push (hp := hp) (hp' := (M2 + 1, some ⟨40, 5, false, co :: TL⟩) :: (M2 + 0, some ⟨40, 5, true, co :: TL⟩) :: hp2) (N := N) (M := M) (M0 := M + 1) (M' := M2 + 2) (n := j) (i := i) (kN := M2 + 1) (l := nmL l) (x := false) (sl := .slice none 0 0) (co := co) (.inl ⟨z, rfl⟩) ?_ (by omega) ?_ ?_ ?_ (by omega) (by omega) ?_ hM (by omega)
      · rw [show Value.slice (some ⟨M2 + 1, 0, none⟩) 1 1 = .slice (some ⟨M2 + 1, 0, none⟩) (i + 1) (i + 1) by rw [z]]
        exact P
      · intro q hq _
        have nb : ∀ d, (M2 + d = q) = False := fun d => eq_false (by omega)
        simp only [↓R0, R1, simprocAttr, -Int.reduceAbs, nb]
        exact hh2 q hq
      · rw [nmL_at c1]
        rcases hco with ⟨z, rfl⟩ | ⟨z, kc, y, rfl, g1, g2, g3⟩
        · exact .inl ⟨z, rfl⟩
        · have nb : ∀ d, (M2 + d = kc) = False := fun d => eq_false (by omega)
          exact .inr ⟨z, kc, y, rfl, by simp only [↓R0, R1, simprocAttr, -Int.reduceAbs, nb]; exact g1, g2, by omega⟩
      · rw [nmL_at c1]; exact hDl
      · rw [T5]
        simp only [↓R0, R1, simprocAttr, -Int.reduceAbs]
      · intro kc e
        rcases hco with ⟨z, rfl⟩ | ⟨z, kc', y, rfl, g1, g2, g3⟩
        · cases e
        · cases e; omega
    · intro q hq
      have nb : ∀ d, (M2 + d = q) = False := fun d => eq_false (by omega)
      simp only [↓R0, R1, simprocAttr, -Int.reduceAbs, nb]
      rw [hh2 q (by omega)]; exact hh q hq
  · have a1' : hget hp2 kL = some ⟨40, 5, x, blkC (nmF j ρ (nmL l)) i⟩ := by rw [hh2 kL (by omega)]; exact a1
    have v1 : ∀ d, (M2 + d = kL) = False := fun d => eq_false (by omega)
    have v2 : ∀ d, (kL = M2 + d) = False := fun d => eq_false (by omega)
    have v3 : (M + 0 = kL) = False := eq_false (by omega)
    have bl5 : (blkC (nmF j ρ (nmL l)) i).length = i * 5 := blkC_len fun _ _ => rfl
    have Sx : NmS hp N M j (nmL l) i (.slice (some ⟨kL, 0, none⟩) i i) := .inr ⟨z, kL, x, ρ, rfl, a1, a2, a3, a4⟩
    generalize eBK : blkC (nmF j ρ (nmL l)) i = BK at *
    simp only [↓R0, R1, simprocAttr, -Int.reduceAbs, t0, t1, t6, t7, t8, t9, cj', bx, Mx, My, T1, T2, T3, T4, cok, wi, setR_length, a1', bl5, nlr, ov2, v1, v2, v3]
    refine ⟨q - 1, by omega, i + 1, M2 + 2, .slice (some ⟨M2 + 1, 0, none⟩) (i + 1) (i + 1), by omega, rfl, rfl, ?_, ?_, by omega, rfl⟩
    · refine NmS.push (hp := hp) (M0 := M + 1) (x := false) (co := co) Sx ?_ (by omega) ?_ ?_ ?_ (by omega) (by omega) ?_ hM (by omega)
      · intro q hq hne
        have nb : ∀ d, (M2 + d = q) = False := fun d => eq_false (by omega)
        have nq : (kL = q) = False := eq_false (fun e => hne e.symm)
        simp only [↓R0, R1, simprocAttr, -Int.reduceAbs, nb, nq]
        exact hh2 q hq
      · rw [nmL_at c1]
        rcases hco with ⟨z, rfl⟩ | ⟨z, kc, y, rfl, g1, g2, g3⟩
        · exact .inl ⟨z, rfl⟩
        · have nb : ∀ d, (M2 + d = kc) = False := fun d => eq_false (by omega)
          have nq : (kL = kc) = False := eq_false (by omega)
          exact .inr ⟨z, kc, y, rfl, by simp only [↓R0, R1, simprocAttr, -Int.reduceAbs, nb, nq]; exact g1, g2, by omega⟩
      · rw [nmL_at c1]; exact hDl
      · rw [T5]
        simp only [a1]
        simp only [↓R0, R1, simprocAttr, -Int.reduceAbs, v1, v2]
      · intro kc e
        rcases hco with ⟨z, rfl⟩ | ⟨z, kc', y, rfl, g1, g2, g3⟩
        · cases e
        · cases e; omega
    · intro q hq
      have nb : ∀ d, (M2 + d = q) = False := fun d => eq_false (by omega)
      have nq : (kL = q) = False := eq_false (by omega)
      simp only [↓R0, R1, simprocAttr, -Int.reduceAbs, nb, nq]
      rw [hh2 q (by omega)]; exact hh q hq
end Go.Eng
end
section
set_option linter.unusedVariables false
set_option linter.unusedSimpArgs false
set_option linter.unusedSectionVars false
namespace Go.Eng
theorem null_comb {N m : Nat} {M : Mat} {X Y : Nat → Rat} (c : Rat) (hX : nullM N m M X) (hY : nullM N m M Y) : nullM N m M (fun j => X j + c * Y j) := fun i hi => by
  rw [lin_addv, hX i hi, hY i hi]; grind
theorem null_zero {n m : Nat} {M : Mat} {X : Nat → Rat} (h : ∀ j, j < n + 1 → X j = 0) : nullM (n + 1) m M X := fun i _ => by
  unfold lin
  exact sm_zero fun j hj => by rw [h j hj, Rat.mul_zero]
theorem sub_eq {n m m' : Nat} {M M' : Mat} (sub : ∀ X, nullM (n + 1) m' M' X → nullM (n + 1) m M X) (con : ConP n (nullM (n + 1) m' M'))
    (hd : ∀ k, k < n → HeadP n (nullM (n + 1) m' M') k → HeadP n (nullM (n + 1) m M) k) : ∀ X, nullM (n + 1) m M X → nullM (n + 1) m' M' X := by
  have key : ∀ (t : Nat), t ≤ n → ∀ X, nullM (n + 1) m M X → X n = 0 → (∀ j, t ≤ j → j < n → X j = 0) → nullM (n + 1) m' M' X := by
    intro t
    induction t with
    | zero =>
      intro _ X hX hn hz
      exact null_zero fun j hj => by
        by_cases e : j = n
        · rw [e]; exact hn
        · exact hz j (Nat.zero_le _) (by omega)
    | succ t ih =>
      intro ht X hX hn hz
      by_cases x : X t = 0
      · exact ih (by omega) X hX hn fun j h1 h2 => by
          by_cases e : j = t
          · rw [e]; exact x
          · exact hz j (by omega) h2
      · have nh : ¬ HeadP n (nullM (n + 1) m M) t := fun h => x (h X hX hn fun j h1 h2 => hz j (by omega) h2)
        have nh' : ¬ HeadP n (nullM (n + 1) m' M') t := fun h => nh (hd t (by omega) h)
        unfold HeadP at nh'
        obtain ⟨V, hV⟩ := Classical.not_forall.1 nh'
        obtain ⟨hV, h'⟩ := Classical.not_imp.1 hV
        obtain ⟨hVn, h'⟩ := Classical.not_imp.1 h'
        obtain ⟨hVz, hVt⟩ := Classical.not_imp.1 h'
        have g := ih (by omega) (fun j => X j + (- (X t / V t)) * V j) (null_comb _ hX (sub V hV)) (by show X n + (- (X t / V t)) * V n = 0; rw [hn, hVn]; grind) fun j h1 h2 => by
          show X j + (- (X t / V t)) * V j = 0
          by_cases e : j = t
          · subst e; grind
          · rw [hz j (by omega) h2, hVz j (by omega) h2]; grind
        have g2 := null_comb (X t / V t) g hV
        have e : (fun j => (X j + (- (X t / V t)) * V j) + X t / V t * V j) = X := by funext j; grind
        rw [e] at g2
        exact g2
  intro X hX
  obtain ⟨W, hW, hWn⟩ := con
  have g := key n (Nat.le_refl _) (fun j => X j + X n * W j) (null_comb _ hX (sub W hW)) (by show X n + X n * W n = 0; rw [hWn]; grind) (fun j h1 h2 => absurd h2 (by omega))
  have g2 := null_comb (- X n) g hW
  have e : (fun j => (X j + X n * W j) + - X n * W j) = X := by funext j; grind
  rw [e] at g2
  exact g2
theorem rank_lt {n r r' : Nat} {Z Z' : (Nat → Rat) → Prop} {R R' : Mat} {h h' : Nat → Nat} {cl cl' : Prop} (S : SysS n Z r R h cl) (S' : SysS n Z' r' R' h' cl') (H : ∀ k, k < n → HeadP n Z k → HeadP n Z' k)
    {k : Nat} (hk : k < n) (h1 : HeadP n Z' k) (h2 : ¬ HeadP n Z k) : r + 1 ≤ r' := by
  have ch : ∀ p, p < r → ∃ q, q < r' ∧ h' q = h p := fun p hp => (S'.head (S.lt p hp)).2 (H _ (S.lt p hp) ((S.head (S.lt p hp)).1 ⟨p, hp, rfl⟩))
  obtain ⟨k0, hk0, ek0⟩ := (S'.head hk).2 h1
  have ne : ∀ p, p < r → h p ≠ k := fun p hp e => h2 ((S.head hk).1 ⟨p, hp, e⟩)
  refine inj_le (r + 1) r' (fun p => if p = r then k0 else (hIdx h' r' (h p)).getD 0) (fun p hp => ?_) (fun p q hp hq x => ?_)
  · show (if p = r then k0 else (hIdx h' r' (h p)).getD 0) < r'
    split
    · exact hk0
    · obtain ⟨p', hp', e⟩ := ch p (by omega)
      rw [← e, S'.idx hp']; exact hp'
  · change (if p = r then k0 else (hIdx h' r' (h p)).getD 0) = (if q = r then k0 else (hIdx h' r' (h q)).getD 0) at x
    by_cases ep : p = r
    · by_cases eq : q = r
      · omega
      · rw [if_pos ep, if_neg eq] at x
        obtain ⟨q', hq', e'⟩ := ch q (by omega)
        rw [← e', S'.idx hq'] at x
        change k0 = q' at x
        exact absurd (by rw [← e', ← x, ek0]) (ne q (by omega))
    · by_cases eq : q = r
      · rw [if_neg ep, if_pos eq] at x
        obtain ⟨p', hp', e⟩ := ch p (by omega)
        rw [← e, S'.idx hp'] at x
        change p' = k0 at x
        exact absurd (by rw [← e, x, ek0]) (ne p (by omega))
      · rw [if_neg ep, if_neg eq] at x
        obtain ⟨p', hp', e⟩ := ch p (by omega)
        obtain ⟨q', hq', e'⟩ := ch q (by omega)
        rw [← e, ← e', S'.idx hp', S'.idx hq'] at x
        change p' = q' at x
        exact S.inj p q (by omega) (by omega) (by rw [← e, ← e', x])
theorem rank_up {n m m' : Nat} {M M' : Mat} (sub : ∀ X, nullM (n + 1) m' M' X → nullM (n + 1) m M X) (con : ConP n (nullM (n + 1) m' M')) {X0 : Nat → Rat} (h1 : nullM (n + 1) m M X0) (h2 : ¬ nullM (n + 1) m' M' X0) :
    (redK m M n).hs.length + 1 ≤ (redK m' M' n).hs.length := by
  have S := red_sys n m M
  have S' := red_sys n m' M'
  have H : ∀ k, k < n → HeadP n (nullM (n + 1) m M) k → HeadP n (nullM (n + 1) m' M') k := fun k hk h X hX h3 h4 => h X (sub X hX) h3 h4
  have ex : ∃ k, k < n ∧ HeadP n (nullM (n + 1) m' M') k ∧ ¬ HeadP n (nullM (n + 1) m M) k := Classical.byContradiction fun c => h2 (sub_eq sub con (fun k hk hh => Classical.byContradiction fun y => c ⟨k, hk, hh, y⟩) X0 h1)
  obtain ⟨k, hk, a, b⟩ := ex
  exact rank_lt S S' H hk a b
end Go.Eng
end
section
set_option linter.unusedVariables false
set_option linter.unusedSimpArgs false
set_option linter.unusedSectionVars false
set_option maxRecDepth 20000
namespace Go.Eng
open Go Go.Proofs Go.IntWalk
def Sat (n : Nat) (e : EqR) (X : Row) : Prop := lin n (qsV e.coef) X = e.rhs.v
def Cns (n : Nat) (l : List EqR) : Prop := ∃ X : Row, ∀ e ∈ l, Sat n e X
theorem ZL_sat {n : Nat} {l : List EqR} (c : chkL n l = 0) {X : Row} (hX : X n = -1) : ZL n l X ↔ ∀ e ∈ l, Sat n e X := by
  rw [ZL_iff (chk0_nat c) X]
  refine forall_congr' fun e => forall_congr' fun _ => ?_
  unfold Sat
  rw [hX]
  constructor <;> intro h <;> grind
def hom (n : Nat) (X : Row) : Row := fun j => if j = n then -1 else X j
theorem hom_n (n : Nat) (X : Row) : hom n X n = -1 := if_pos rfl
theorem sat_hom {n : Nat} {e : EqR} {X : Row} : Sat n e (hom n X) ↔ Sat n e X := by
  unfold Sat
  rw [lin_congr (r' := qsV e.coef) (x' := X) (x := hom n X) (fun _ _ => rfl) (fun j hj => if_neg (by omega))]
theorem tog_sat {n : Nat} {l : List EqR} (c : chkL n l = 0) : togL n l = true ↔ Cns n l := by
  rw [tog_con c]
  constructor
  · rintro ⟨X, h1, h2⟩
    exact ⟨X, (ZL_sat c h2).1 h1⟩
  · rintro ⟨X, h⟩
    exact ⟨hom n X, (ZL_sat c (hom_n n X)).2 fun e he => sat_hom.2 (h e he), hom_n n X⟩
theorem tog_not {n : Nat} {l : List EqR} (c : chkL n l = 0) : togL n l = false ↔ ¬ Cns n l := by
  rw [← tog_sat c]; simp
theorem Cns.sub {n : Nat} {l l' : List EqR} (h : Cns n l) (hs : ∀ e ∈ l', e ∈ l) : Cns n l' := by
  obtain ⟨X, hX⟩ := h
  exact ⟨X, fun e he => hX e (hs e he)⟩
theorem chk_sub {n : Nat} {l l' : List EqR} (c : chkL n l = 0) (hl : l'.length ≤ 100) (hs : ∀ e ∈ l', e ∈ l) : chkL n l' = 0 :=
  chk0_of (by have := (chk0 c).2.1; omega) hl fun e he => chk0_nat c e (hs e he)
theorem EqsOK.chk {n : Nat} {l : List EqR} (H : EqsOK n l) : chkL n l = 0 :=
  chk0_of (by have := H.n8; omega) (by have := H.len; omega) fun e he => (H.co e he).1
theorem eqAt_take {l : List EqR} {i j : Nat} (h : j < i) : eqAt (l.take i) j = eqAt l j := by
  unfold eqAt
  rw [List.getElem?_take_of_lt h]
theorem indep_le {n : Nat} {l : List EqR} (c : chkL n l = 0) (con : Cns n l) (h : ∀ i, i < l.length → ∃ X, (∀ e ∈ l.take i, Sat n e X) ∧ ¬ Sat n (eqAt l i) X) : l.length ≤ n := by
  have cl := (chk0 c).2.2.1
  have key : ∀ i, i ≤ l.length → i ≤ (redK (l.take i).length (eqM n (l.take i)) n).hs.length := by
    intro i
    induction i with
    | zero => exact fun _ => Nat.zero_le _
    | succ i ih =>
      intro hi
      have g := ih (by omega)
      obtain ⟨X, h1, h2⟩ := h i (by omega)
      have c1 : chkL n (l.take i) = 0 := chk_sub c (by rw [List.length_take]; omega) fun e he => List.mem_of_mem_take he
      have c2 : chkL n (l.take (i + 1)) = 0 := chk_sub c (by rw [List.length_take]; omega) fun e he => List.mem_of_mem_take he
      have hm : eqAt l i ∈ l.take (i + 1) := by
        have := eqAt_mem (l := l.take (i + 1)) (i := i) (by rw [List.length_take]; omega)
        rwa [eqAt_take (by omega)] at this
      have := rank_up (n := n) (m := (l.take i).length) (m' := (l.take (i + 1)).length) (M := eqM n (l.take i)) (M' := eqM n (l.take (i + 1))) (X0 := hom n X) (fun Y hY => ?_) ?_ ?_ ?_
      · omega
      · have h0 := (ZL_iff (chk0_nat c2) Y).1 hY
        refine (ZL_iff (chk0_nat c1) Y).2 fun e he => h0 e ?_
        rw [List.take_add_one]
        exact List.mem_append_left _ he
      · exact (tog_con c2).1 ((tog_sat c2).2 (con.sub fun e he => List.mem_of_mem_take he))
      · exact (ZL_sat c1 (hom_n n X)).2 fun e he => sat_hom.2 (h1 e he)
      · intro x
        exact h2 (sat_hom.1 ((ZL_sat c2 (hom_n n X)).1 x _ hm))
  have g := key l.length (Nat.le_refl _)
  have f := (red_sys n (l.take l.length).length (eqM n (l.take l.length))).full.1
  omega
theorem minS_sorted (n : Int) (l : List EqR) : ∀ i, (minS n l i).1.Pairwise (· < ·)
  | 0 => by
    unfold minS
    rw [List.pairwise_map]
    exact List.Pairwise.imp (fun h => by omega) List.pairwise_lt_range
  | i + 1 => by
    unfold minS
    split
    · exact minS_sorted n l i
    · exact (minS_sorted n l i).filter _
theorem delL_mem {x p : Int} {L : List Int} : p ∈ delL x L ↔ p ∈ L ∧ p ≠ x := by
  unfold delL
  rw [List.mem_filter]
  constructor
  · rintro ⟨a, b⟩
    exact ⟨a, fun e => by rw [e] at b; simp at b⟩
  · rintro ⟨a, b⟩
    exact ⟨a, by simp; exact fun e => b e.symm⟩
theorem selL_sub {l : List EqR} {ps qs : List Int} (h : ∀ p ∈ ps, p ∈ qs) : ∀ e ∈ selL l ps, e ∈ selL l qs := by
  intro e he
  unfold selL at he ⊢
  obtain ⟨p, hp, rfl⟩ := List.mem_map.1 he
  exact List.mem_map.2 ⟨p, h p hp, rfl⟩
theorem selL_chk {n : Nat} {l : List EqR} (c : chkL n l = 0) {ps : List Int} (hp : ∀ p ∈ ps, 0 ≤ p ∧ p.toNat < l.length) (hl : ps.length ≤ 100) : chkL n (selL l ps) = 0 :=
  chk_sub c (by unfold selL; rw [List.length_map]; exact hl) (selL_mem hp)
theorem minS_min {n : Nat} {l : List EqR} (c : chkL n l = 0) : ∀ i, ∀ x ∈ (minS n l i).1, x < (i : Int) → togL n (selL l (delL x (minS n l i).1)) = true
  | 0, x, hx, hi => by
    have := (minS_mem n l 0 x hx).1
    omega
  | i + 1, x, hx, hi => by
    have cl := (chk0 c).2.2.1
    have ml := minS_len n l i
    have mm := minS_mem n l i
    have ck : ∀ y z : Int, chkL n (selL l (delL y (delL z (minS n l i).1))) = 0 := fun y z => selL_chk c (fun p hp => mm p (delL_mem.1 (delL_mem.1 hp).1).1) (by
      have h1 := delL_len y (delL z (minS n l i).1)
      have h2 := delL_len z (minS n l i).1
      omega)
    have ck1 : ∀ z : Int, chkL n (selL l (delL z (minS n l i).1)) = 0 := fun z => selL_chk c (fun p hp => mm p (delL_mem.1 hp).1) (by
      have h2 := delL_len z (minS n l i).1
      omega)
    have e : minS n l (i + 1) = if togL n (selL l (delL i (minS n l i).1)) = true then minS n l i else (delL i (minS n l i).1, (minS n l i).1.length - (delL i (minS n l i).1).length) := rfl
    rw [e] at hx ⊢
    by_cases t : togL n (selL l (delL i (minS n l i).1)) = true
    · rw [if_pos t] at hx ⊢
      by_cases xi : x = (i : Int)
      · rw [xi]; exact t
      · exact minS_min c i x hx (by omega)
    · rw [if_neg t] at hx ⊢
      have hx2 := delL_mem.1 hx
      have h0 := minS_min c i x hx2.1 (by have := hx2.2; omega)
      rw [tog_sat (ck x i)]
      exact ((tog_sat (ck1 x)).1 h0).sub (selL_sub fun p hp => by
        have h1 := delL_mem.1 hp
        have h2 := delL_mem.1 h1.1
        exact delL_mem.2 ⟨h2.1, h1.2⟩)
def minF (n : Int) (l : List EqR) : List Int := (minS n l l.length).1
structure MinR (n : Nat) (l : List EqR) (L : List Int) : Prop where
  mem : ∀ p ∈ L, 0 ≤ p ∧ p.toNat < l.length
  len : L.length ≤ l.length
  sort : L.Pairwise (· < ·)
  bad : togL n (selL l L) = false
  min : ∀ x ∈ L, togL n (selL l (delL x L)) = true
theorem minF_R {n : Nat} {l : List EqR} (c : chkL n l = 0) (t : togL n l = false) : MinR n l (minF n l) :=
  ⟨minS_mem n l _, minS_len n l _, minS_sorted n l _, minS_clash t _, fun x hx => minS_min c _ x hx (by have := minS_mem n l _ x hx; omega)⟩
theorem MinR.pos {n : Nat} {l : List EqR} {L : List Int} (R : MinR n l L) (hn : n ≤ 8) : 0 < L.length := by
  cases L with
  | nil => have := R.bad; rw [show selL l [] = [] from rfl, tog_nil hn] at this; cases this
  | cons x L => simp
theorem MinR.le {n : Nat} {l : List EqR} {L : List Int} (R : MinR n l L) (c : chkL n l = 0) (hn : n ≤ 8) : L.length ≤ n + 1 := by
  have cl := (chk0 c).2.2.1
  have pos := R.pos hn
  have len := R.len
  obtain ⟨l2, hl2⟩ : ∃ x, x = selL l L.dropLast := ⟨_, rfl⟩
  have ll2 : l2.length = L.length - 1 := by rw [hl2]; unfold selL; rw [List.length_map, List.length_dropLast]
  have c2 : chkL n l2 = 0 := by rw [hl2]; exact selL_chk c (fun p hp => R.mem p (List.dropLast_subset _ hp)) (by rw [List.length_dropLast]; omega)
  have cA : chkL n (selL l L) = 0 := selL_chk c R.mem (by omega)
  have cD : ∀ x : Int, chkL n (selL l (delL x L)) = 0 := fun x => selL_chk c (fun p hp => R.mem p (delL_mem.1 hp).1) (by have := delL_len x L; omega)
  have nd : L.Nodup := R.sort.imp (fun h => by omega)
  have at2 : ∀ i, i < l2.length → ∃ p, L[i]? = some p ∧ eqAt l2 i = eqAt l p.toNat := fun i hi => by
    obtain ⟨p, hp⟩ : ∃ p, L[i]? = some p := ⟨_, List.getElem?_eq_getElem (by omega)⟩
    refine ⟨p, hp, ?_⟩
    have hd : L.dropLast[i]? = some p := by rw [List.getElem?_dropLast, if_pos (by omega)]; exact hp
    rw [hl2]
    unfold eqAt selL
    rw [List.getElem?_map, hd]; rfl
  have con2 : Cns n l2 := by
    have hx : L.getLast (List.ne_nil_of_length_pos pos) ∈ L := List.getLast_mem _
    refine ((tog_sat (cD _)).1 (R.min _ hx)).sub ?_
    rw [hl2]
    refine selL_sub fun p hp => delL_mem.2 ⟨List.dropLast_subset _ hp, fun e => ?_⟩
    have h1 := List.dropLast_concat_getLast (List.ne_nil_of_length_pos pos)
    rw [← h1, List.nodup_append] at nd
    exact nd.2.2 p hp _ (List.mem_singleton.2 rfl) e
  have : l2.length ≤ n := indep_le c2 con2 fun i hi => Classical.byContradiction fun no => by
    obtain ⟨p, hp, he⟩ := at2 i hi
    have hpL := List.mem_of_getElem? hp
    obtain ⟨X, hX⟩ := (tog_sat (cD p)).1 (R.min p hpL)
    have imp : Sat n (eqAt l2 i) X := Classical.byContradiction fun ns => no ⟨X, fun e he' => ?_, ns⟩
    · refine ((tog_not cA).1 R.bad) ⟨X, fun e he' => ?_⟩
      unfold selL at he'
      obtain ⟨q, hq, rfl⟩ := List.mem_map.1 he'
      by_cases e : q = p
      · rw [e, ← he]; exact imp
      · refine hX _ ?_
        unfold selL
        exact List.mem_map.2 ⟨q, delL_mem.2 ⟨hq, e⟩, rfl⟩
    · refine hX e ?_
      obtain ⟨j, hj⟩ := List.getElem?_of_mem he'
      have hj1 := (List.getElem?_eq_some_iff.1 hj).1
      rw [List.length_take] at hj1
      rw [List.getElem?_take_of_lt (by omega)] at hj
      obtain ⟨pj, hpj, hej⟩ := at2 j (by omega)
      have ee : e = eqAt l pj.toNat := by
        rw [← hej]
        unfold eqAt
        rw [hj]; rfl
      rw [ee]
      unfold selL
      refine List.mem_map.2 ⟨pj, delL_mem.2 ⟨List.mem_of_getElem? hpj, fun e => ?_⟩, rfl⟩
      rw [e] at hpj
      have := (List.getElem?_inj (by omega) nd).1 (hpj.trans hp.symm)
      omega
  omega
end Go.Eng
end
section
set_option linter.unusedVariables false
set_option linter.unusedSimpArgs false
set_option linter.unusedSectionVars false
set_option maxRecDepth 20000
namespace Go.Eng
open Go Go.Proofs Go.IntWalk
theorem blkC_all {f : Nat → List Value} {p : Value → Bool} : ∀ {m : Nat}, (∀ i, i < m → (f i).all p = true) → (blkC f m).all p = true
  | 0, _ => rfl
  | m + 1, h => by rw [blkC, List.all_append, blkC_all (m := m) fun i hi => h i (by omega), h m (by omega)]; rfl
theorem nmE_ok {n : Int} {e : EqR} (h : fitE n e) : ((nmE e).coef.length : Int) = n ∧ (∀ q ∈ (nmE e).coef, q.ok 100) ∧ (nmE e).rhs.ok 100 := by
  have g : ∀ q : RQ, smallQ q → (RQ.of q.v).ok 100 := fun q hq => (RQ.of_ok (RQ.ok.rb (k := 4) ⟨hq.1, hq.2⟩)).le (by omega)
  refine ⟨by unfold nmE; rw [List.length_map]; exact h.1, fun q hq => ?_, g _ h.2.1⟩
  obtain ⟨y, hy, rfl⟩ := List.mem_map.1 hq
  exact g y (h.2.2 y hy)
theorem fit_eqs {n : Nat} {l : List EqR} (h : fitS n l) : EqsOK n (nmL l) where
  n8 := by have := h.2.1; omega
  len := by rw [nmL_len]; have := h.2.2.1; omega
  co := fun e he => by
    obtain ⟨y, hy, rfl⟩ := List.mem_map.1 he
    obtain ⟨a, b, c⟩ := nmE_ok (h.2.2.2 y hy)
    exact ⟨by omega, b, c⟩
theorem rows_nil (h : Heap) : RowsS h (.slice none 0 0) [] [] := ⟨rfl, rfl, rfl⟩
theorem normed_no {h : Heap} {n : Int} {b : Nat} {l : List EqR} {sl : Value} (hx : decRows h sl = some l) (hm : l.length ≤ 9223372036854775807) (nf : ¬ fitS n l) : nwL spNormed [.int .i64 n, sl] h b = some (.tuple ⟨[.slice none 0 0, .bool false]⟩, [], 0) := by
  unfold nwL spNormed
  simp only [hx]
  rw [if_pos hm, if_neg nf]
  rfl
theorem normed_call {h : Heap} {n b : Nat} {l : List EqR} {sl : Value} (hx : decRows h sl = some l) (hm : l.length ≤ 9223372036854775807) (ft : fitS n l) (hb : ∀ k blk, hget h k = some blk → k < b) :
    ∃ a D mm cs, nwL spNormed [.int .i64 n, sl] h b = some (.tuple ⟨[.slice a l.length l.length, .bool true]⟩, D, mm) ∧ (∀ q, q < b → hget (D ++ h) q = hget h q) ∧ RowsS (D ++ h) (.slice a l.length l.length) (nmL l) cs ∧ ∀ k blk, hget (D ++ h) k = some blk → k < b + mm := by
  have e : nwL spNormed [.int .i64 n, sl] h b = some ((nmNL n (nmL l)).val (b + ·), newH (nmNL n (nmL l)) (b + ·) (nmNL n (nmL l)).m, (nmNL n (nmL l)).m) := by
    unfold nwL spNormed
    simp only [hx]
    rw [if_pos hm, if_pos ft, Int.toNat_natCast]
    rfl
  have hl := nmL_len l
  have old := fun q (hq : q < b) => newH_old (r := nmNL n (nmL l)) (σ := (b + ·)) (h := h) (k := q) (nmNL n (nmL l)).m (fun i _ => by show b + i ≠ q; omega)
  have get := newH_get (r := nmNL n (nmL l)) (σ := (b + ·)) (h := h) (nmNL n (nmL l)).m (fun i j _ _ e => by change b + i = b + j at e; omega)
  have bnd : ∀ k blk, hget (newH (nmNL n (nmL l)) (b + ·) (nmNL n (nmL l)).m ++ h) k = some blk → k < b + (nmNL n (nmL l)).m := fun k blk hk => by
    by_cases c : ∃ i, i < (nmNL n (nmL l)).m ∧ b + i = k
    · obtain ⟨i, h1, h2⟩ := c; omega
    · rw [newH_old _ (fun i hi e => c ⟨i, hi, e⟩)] at hk
      have := hb k blk hk
      omega
  rw [e]
  obtain ⟨r, hr⟩ : ∃ r, r = nmNL n (nmL l) := ⟨_, rfl⟩
  rw [← hr] at old get bnd ⊢
  unfold nmNL at hr
  by_cases z : nmL l = []
  · rw [if_pos z] at hr
    have hz : l.length = 0 := by rw [z] at hl; exact hl.symm
    refine ⟨none, newH r (b + ·) r.m, r.m, [], ?_, old, ?_, bnd⟩
    · rw [hr, hz]
    · rw [hz, z]
      exact rows_nil _
  · rw [if_neg z] at hr
    have pm : 0 < r.m := by rw [hr]; show 0 < if n = 0 then 1 else (nmL l).length + 1; split <;> omega
    have g0 := get 0 pm
    have g0 : hget (newH r (b + ·) r.m ++ h) (b + 0) = some ⟨40, 5, false, blkC (nmF n (fun j => b + (j + 1)) (nmL l)) l.length⟩ := by
      rw [g0, hr, ← hl]; rfl
    have l5 : (blkC (nmF n (fun j => b + (j + 1)) (nmL l)) l.length).length = l.length * 5 := blkC_len fun _ _ => rfl
    have lp : 0 < l.length := by rw [← hl]; exact List.length_pos_iff.2 z
    have gj : n ≠ 0 → ∀ j, j < l.length → hget (newH r (b + ·) r.m ++ h) (b + (j + 1)) = some ⟨38, 3, false, rqs (eqAt (nmL l) j).coef⟩ := fun hn j hj => by
      have := get (j + 1) (by rw [hr]; show j + 1 < if n = 0 then 1 else (nmL l).length + 1; rw [if_neg hn, hl]; omega)
      rw [this, hr]
      rfl
    have H := fit_eqs ft
    refine ⟨some ⟨b + 0, 0, none⟩, newH r (b + ·) r.m, r.m, blkC (nmF n (fun j => b + (j + 1)) (nmL l)) l.length, ?_, old, ⟨?_, ?_, ?_⟩, bnd⟩
    · rw [hr, ← hl]
    · unfold Go.Eng.lay
      obtain ⟨d, hd⟩ : ∃ d, l.length = d + 1 := ⟨l.length - 1, by omega⟩
      rw [hd] at g0 l5 ⊢
      simp only [g0]
      rw [if_pos ⟨Nat.le_refl _, by omega⟩, List.drop_zero, List.take_of_length_le (by omega)]
    · refine rows_blk (f := nmF n (fun j => b + (j + 1)) (nmL l)) g0 hl fun i hi => ⟨_, rfl, ?_⟩
      have hc := (H.co _ (eqAt_mem (l := nmL l) (i := i) (by omega))).1
      unfold nmCo
      by_cases hn : n = 0
      · rw [if_pos hn]
        have : (eqAt (nmL l) i).coef = [] := List.eq_nil_of_length_eq_zero (by omega)
        rw [this]; rfl
      · rw [if_neg hn]
        exact rqs_list (gj hn i hi) hc (by omega)
    · refine blkC_all fun i hi => ?_
      show (selfOK _ (nmCo n (fun j => b + (j + 1)) i) && (eqAt (nmL l) i).tl.all (selfOK _)) = true
      rw [Bool.and_eq_true]
      refine ⟨?_, rfl⟩
      unfold nmCo
      by_cases hn : n = 0
      · rw [if_pos hn]; rfl
      · rw [if_neg hn]
        simp [selfOK, slOK, gj hn i hi]
theorem min_yes {h : Heap} {n b : Nat} {l : List EqR} {sl : Value} {cs : List Value} (R : RowsS h sl l cs) (H : EqsOK n l) (t : togL n l = true) : nwL spMin [.int .i64 n, sl] h b = some (.slice none 0 0, [], 0) := by
  unfold nwL
  rw [min_of R H.min]
  unfold minNL
  rw [if_pos t]; rfl
theorem min_no {h : Heap} {n b : Nat} {l : List EqR} {sl : Value} {cs : List Value} (R : RowsS h sl l cs) (H : EqsOK n l) (t : togL n l = false) :
    nwL spMin [.int .i64 n, sl] h b = some (.slice (some ⟨b, 0, none⟩) (minF n l).length ((minF n l).length + (minS n l l.length).2), [(b, some ⟨3, 1, false, intZ (minF n l ++ List.replicate (minS n l l.length).2 0)⟩)], 1) := by
  unfold nwL
  rw [min_of R H.min]
  unfold minNL
  rw [if_neg (by rw [t]; simp)]
  rfl
theorem EqsOK.app {n : Nat} {l l' : List EqR} (H : EqsOK n l) (H' : EqsOK n l') (hl : l.length + l'.length ≤ 50) : EqsOK n (l ++ l') where
  n8 := H.n8
  len := by rw [List.length_append]; exact hl
  co := fun e he => by
    rcases List.mem_append.1 he with h | h
    · exact H.co e h
    · exact H'.co e h
theorem RowsS.app {h h1 h2 : Heap} {sl sl' : Value} {l l' : List EqR} {cs cs' : List Value} (r : RowsS h1 sl l cs) (r' : RowsS h2 sl' l' cs') (e1 : hle h1 h) (e2 : hle h2 h) {k e s c : Nat} {x : Bool} (hc : l.length + l'.length ≤ c) (hk : hget h k = some ⟨e, s, x, cs ++ cs'⟩) :
    RowsS h (.slice (some ⟨k, 0, none⟩) (l.length + l'.length) c) (l ++ l') (cs ++ cs') := by
  have hlen := r.len.1
  have hlen' := r'.len.1
  have la : Go.Eng.lay 5 h (.slice (some ⟨k, 0, none⟩) (l.length + l'.length) c) = some (cs ++ cs') := by
    unfold Go.Eng.lay
    cases e : l.length + l'.length with
    | zero =>
      simp only [hk]
      rw [if_pos ⟨by omega, by rw [List.length_append]; omega⟩, List.drop_zero, List.take_of_length_le (by rw [List.length_append]; omega)]
    | succ n =>
      simp only [hk]
      rw [if_pos ⟨by omega, by rw [List.length_append]; omega⟩, List.drop_zero, List.take_of_length_le (by rw [List.length_append]; omega)]
  refine ⟨la, ?_, by rw [List.all_append, Bool.and_eq_true]; exact ⟨selfsOK_mono e1 r.self, selfsOK_mono e2 r'.self⟩⟩
  unfold decRows listAt
  rw [la, Option.bind_some]
  have g := r.rows
  have g' := r'.rows
  unfold decRows listAt at g g'
  rw [r.lay, Option.bind_some] at g
  rw [r'.lay, Option.bind_some] at g'
  refine many_some (by rw [List.length_append]; rfl) fun i x hx => ?_
  by_cases hi : i < l.length
  · rw [List.getElem?_append_left hi] at hx
    have hm : i * 5 + 5 ≤ cs.length := by omega
    rw [List.drop_append_of_le_length (by omega), List.take_append_of_le_length (by rw [List.length_drop]; omega)]
    exact decEq_mono e1 ((many_get g).2 i x hx)
  · rw [List.getElem?_append_right (by omega)] at hx
    rw [List.drop_append, List.drop_of_length_le (by omega), List.nil_append, show i * 5 - cs.length = (i - l.length) * 5 by rw [hlen, ← Nat.sub_mul]]
    exact decEq_mono e2 ((many_get g').2 _ x hx)
end Go.Eng
end
section
set_option linter.unusedVariables false
set_option linter.unusedSimpArgs false
set_option linter.unusedSectionVars false
set_option maxRecDepth 20000
namespace Go.Eng
open Go Go.Proofs Go.IntWalk
theorem normed_any {h : Heap} {n : Int} {b : Nat} {l : List EqR} {sl : Value} (hx : decRows h sl = some l) (hm : l.length ≤ 9223372036854775807) (hb : ∀ k blk, hget h k = some blk → k < b) :
    ∃ a m ok D mm, nwL spNormed [.int .i64 n, sl] h b = some (.tuple ⟨[.slice a m m, .bool ok]⟩, D, mm) ∧ (∀ q, q < b → hget (D ++ h) q = hget h q) ∧ (∀ k blk, hget (D ++ h) k = some blk → k < b + mm) ∧
      ((ok = false ∧ ¬ fitS n l) ∨ (ok = true ∧ fitS n l ∧ m = l.length ∧ ∃ cs, RowsS (D ++ h) (.slice a m m) (nmL l) cs)) := by
  by_cases ft : fitS n l
  · obtain ⟨nn, rfl⟩ := Int.eq_ofNat_of_zero_le ft.1
    obtain ⟨a, D, mm, cs, e1, e2, e3, e4⟩ := normed_call hx hm ft hb
    exact ⟨a, l.length, true, D, mm, e1, e2, e4, .inr ⟨rfl, ft, rfl, cs, e3⟩⟩
  · exact ⟨none, 0, false, [], 0, normed_no hx hm ft, fun _ _ => rfl, fun k blk hk => by have := hb k blk hk; omega, .inl ⟨rfl, ft⟩⟩
end Go.Eng
end
section
set_option linter.unusedVariables false
set_option linter.unusedSimpArgs false
set_option linter.unusedSectionVars false
set_option maxRecDepth 20000
namespace Go.Eng
open Go Go.Proofs Go.IntWalk
def smL (but : Int) (ps : List Int) : Nat → List Int
  | 0 => []
  | k + 1 => smL but ps k ++ (if (k : Int) = but then [] else (ps[k]?).toList)
theorem smL_mem {but : Int} {ps : List Int} : ∀ {k : Nat} {p : Int}, p ∈ smL but ps k → p ∈ ps
  | 0, p, h => by cases h
  | k + 1, p, h => by
    unfold smL at h
    rw [List.mem_append] at h
    rcases h with h | h
    · exact smL_mem h
    · split at h
      · cases h
      · rw [Option.mem_toList] at h
        exact List.mem_of_getElem? h
theorem smL_len (but : Int) (ps : List Int) : ∀ k, (smL but ps k).length ≤ k
  | 0 => Nat.le_refl _
  | k + 1 => by
    have := smL_len but ps k
    unfold smL
    rw [List.length_append]
    split
    · simp; omega
    · have : (ps[k]?).toList.length ≤ 1 := by cases ps[k]? <;> simp
      omega
theorem smL_all {but : Int} {ps : List Int} (hb : but < 0) : ∀ {k : Nat}, k ≤ ps.length → smL but ps k = ps.take k
  | 0, _ => rfl
  | k + 1, h => by
    unfold smL
    rw [smL_all hb (by omega), if_neg (by omega), List.take_add_one]
theorem smL_del {i : Nat} {ps : List Int} {x : Int} (nd : ps.Nodup) (hx : ps[i]? = some x) : ∀ {k : Nat}, k ≤ ps.length → smL i ps k = delL x (ps.take k)
  | 0, _ => rfl
  | k + 1, h => by
    unfold smL
    rw [smL_del nd hx (by omega), delL_succ (List.getElem?_eq_getElem (show k < ps.length by omega))]
    congr 1
    have hi := (List.getElem?_eq_some_iff.1 hx).1
    by_cases e : k = i
    · subst e
      rw [List.getElem?_eq_getElem hi] at hx
      rw [if_pos rfl, if_pos (Option.some.inj hx).symm]
    · rw [if_neg (by omega), List.getElem?_eq_getElem (show k < ps.length by omega), if_neg (fun y => e ((List.getElem?_inj hi nd).1 (hx.trans (by rw [y, List.getElem?_eq_getElem (show k < ps.length by omega)]))).symm)]
      rfl
def spSome5 : List Value → Heap → Option NewL
  | [sl, pl, .int .i64 but], h => match lay 5 h sl, listAt 1 decN h pl with
    | some cs, some ps => if cs.all (selfOK h) = true ∧ ps.all (inR cs) = true ∧ ps.length ≤ 1000 then some (thNL cs (smL but ps ps.length)) else none
    | _, _ => none
  | _, _ => none
def c17 : ICode :=
  (.seq (.reg [qq 6 (.mv (.c (.slice none 0 0)))]) (.seq (.reg [qq 7 (.mv (.c (.slice none 0 0)))]) (.seq (.seq (.reg [qq 8 (.mv (ci 0))]) (.block 0 (.loop (.seq (.seq (.reg [qq 9 (.mv (.t 8)), qq 10 (.mv (.t 1)), qq 11 (.lensl (.t 10)), qq 12 (.bin .lss (.t 9) (.t 11))]) (.cond (.t 12) .skip (.exit 0))) (.seq (.block 1 (.seq (.reg [qq 15 (.mv (.t 8)), qq 16 (.mv (.t 2)), qq 17 (.bin .neq (.t 15) (.t 16))]) (.cond (.t 17) (.reg [qq 18 (.mv (.t 7)), qq 19 (.mv (.t 0)), qq 20 (.mv (.t 1)), qq 21 (.mv (.t 8)), qq 22 (.ixsl 1 (.t 20) (.t 21)), qq 23 (.load false 1 (.t 22)), qq 24 (.ixsl 5 (.t 19) (.t 23)), qq 25 (.load true 5 (.t 24)), qq 26 (.bslice 40 5 1 [(.slice none 0 0), (.bool false), e0, e0, (.int .i64 0)] [(0, 5, (.t 25))]), qq 27 (.app 40 5 72 (.t 18) (.t 26)), qq 7 (.mv (.t 27))]) .skip))) (.reg [qq 13 (.mv (.t 8)), qq 14 (.bin .add (.t 13) (ci 1)), qq 8 (.mv (.t 14))])))))) (.seq (.reg [qq 28 (.mv (.t 7)), qq 6 (.mv (.t 28))]) .ret))))
theorem tr17 : trFun Tryz.prog 17 = some ⟨29, [.t 6], c17⟩ := by kernel_rfl
set_option maxHeartbeats 8000000 in
theorem ok_some5 : SpecOK Tryz.prog 17 (nwL spSome5) := by
  refine newL_run (env_nil _) mixed tr17 ?_ ?_
  · intro args h h' r hl e
    unfold spSome5 at e ⊢
    split at e
    · split at e
      · rename_i cs ps h1 h2
        split at e
        · rename_i hc
          simp only [lay_mono hl h1, listAt_mono hl (fun _ _ e => e) h2]
          rw [if_pos ⟨selfsOK_mono hl hc.1, hc.2⟩]; exact e
        · cases e
      · cases e
    · cases e
  intro args h N r hG hN
  unfold spSome5 at hG
  split at hG
  case h_2 => cases hG
  rename_i sl pl but
  split at hG
  case h_2 => cases hG
  rename_i cs ps h1 h2
  split at hG
  case isFalse => cases hG
  rename_i hs
  obtain ⟨hself, hin, hps⟩ := hs
  cases hG
  obtain ⟨a', c', rfl⟩ := listAt_sl h2
  refine ⟨?_, by simp, ?_⟩
  · unfold thNL
    split
    · exact ⟨fun β σ σ' _ _ => .base _ rfl, fun β σ σ' _ _ i hi => absurd hi (Nat.not_lt_zero i)⟩
    · exact ⟨fun β σ σ' b1 _ => VR.sl (σ 0) 0 _ _ ⟨σ' 0, 0, []⟩ (b1 0 Nat.one_pos), fun β σ σ' _ b2 i hi => selfsOK_vrs b2 (thoC_all hself)⟩
  simp only [c17, G0, Nat.reduceAdd]
  simp only [↓R0, R1, simprocAttr, -Int.reduceAbs]
  refine lp_parts (fun q tm hp nx => ∃ (i M : Nat) (o : Value), q + i = ps.length ∧ tmget tm 0 = sl ∧ tmget tm 1 = .slice a' ps.length c' ∧ tmget tm 2 = .int .i64 but ∧ tmget tm 8 = .int .i64 i ∧ tmget tm 7 = o ∧ OutE hp N M o (smL but ps i).length (thoC cs (smL but ps i)) ∧ (∀ q, q < N → hget hp q = hget h q) ∧ N ≤ M ∧ nx = M + 0) ?_ ps.length
    ⟨0, N, .slice none 0 0, by omega, ?_, ?_, ?_, ?_, ?_, .inl ⟨rfl, rfl⟩, ?_, Nat.le_refl _, rfl⟩
  rotate_left
  all_goals first | (simp only [↓R0, R1, simprocAttr, -Int.reduceAbs]; done) | (simp only [↓R0, R1, simprocAttr, -Int.reduceAbs]; rfl) | skip
  · exact fun q _ => rfl
  rintro q tm hp nx ⟨i, M, o, hq, t0, t1, t2, t8, t7, hO, hh, hM, hnx⟩
  rw [hnx]
  clear hnx nx
  have wi : IntKind.i64.wrap ((i : Int) + 1) = ((i + 1 : Nat) : Int) := by rw [i64_in _ (by omega)]; omega
  have inS : (smL but ps i).all (inR cs) = true := by
    rw [List.all_eq_true] at hin ⊢
    exact fun p hp => hin p (smL_mem hp)
  by_cases ci : i < ps.length
  case neg =>
    have ei : i = ps.length := by omega
    subst ei
    have ci' : ((ps.length : Int) < (ps.length : Int)) = False := eq_false (by omega)
    unfold thNL
    rcases hO with ⟨z, rfl⟩ | ⟨z, kk, x, rfl, h3, h4, h5⟩
    · have z0 : smL but ps ps.length = [] := List.eq_nil_of_length_eq_zero z
      rw [if_pos z0]
      simp only [↓R0, R1, simprocAttr, -Int.reduceAbs, t0, t1, t2, t8, t7, ci', FinL, isEnd, resL, res1]
      refine ⟨fun i => i, _, fun i hi => absurd hi (Nat.not_lt_zero i), fun i j hi => absurd hi (Nat.not_lt_zero i), rfl, rfl, fun i hi => absurd hi (Nat.not_lt_zero i), hh⟩
    · have z0 : ¬ smL but ps ps.length = [] := fun e => by rw [e] at z; exact absurd z (Nat.not_lt_zero _)
      rw [if_neg z0]
      simp only [↓R0, R1, simprocAttr, -Int.reduceAbs, t0, t1, t2, t8, t7, ci', FinL, isEnd, resL, res1]
      refine ⟨fun _ => kk, _, fun i hi => (by omega : N ≤ kk), fun i j (hi : i < 1) (hj : j < 1) _ => by omega, rfl, rfl, fun i hi => ⟨x, h3⟩, hh⟩
  have ci' : ((i : Int) < (ps.length : Int)) = True := eq_true (by omega)
  have sml := smL_len but ps i
  have sms : smL but ps (i + 1) = smL but ps i ++ (if (i : Int) = but then [] else (ps[i]?).toList) := rfl
  by_cases ib : (i : Int) = but
  · have ib' : ((i : Int) = but) = True := eq_true ib
    rw [if_pos ib, List.append_nil] at sms
    simp only [↓R0, R1, simprocAttr, -Int.reduceAbs, t0, t1, t2, t8, t7, ci, ci', ib', wi, Bool.not_true]
    refine ⟨q - 1, by omega, i + 1, M, o, by omega, rfl, rfl, by rw [sms]; exact hO, hh, hM, rfl⟩
  have ib' : ((i : Int) = but) = False := eq_false ib
  have HL : hle h hp := fun q b e => by rw [hh q (hN _ _ e)]; exact e
  obtain ⟨p, pt⟩ : ∃ p, ps[i]? = some p := ⟨_, List.getElem?_eq_getElem ci⟩
  obtain ⟨kp, op, bp, ea, hbp, _, _, hat⟩ := listAt_get h2 (by omega)
  obtain ⟨q1, q2⟩ := hat i p pt
  have q2 := cell1_of (decN_eq q2)
  rw [Nat.mul_one] at q2
  subst ea
  have hbb := HL _ _ hbp
  have inp : inR cs p = true := by
    rw [List.all_eq_true] at hin
    exact hin p (List.mem_of_getElem? pt)
  have len5 := eqC_len inp
  have inp0 := inp
  unfold inR at inp0
  rw [Bool.and_eq_true, decide_eq_true_eq, decide_eq_true_eq] at inp0
  obtain ⟨p0, p1⟩ := inp0
  obtain ⟨m, rfl⟩ := Int.eq_ofNat_of_zero_le p0
  rw [Int.toNat_natCast] at p1
  obtain ⟨ar, lr, cr, rfl, hlr⟩ := lay_len h1
  obtain ⟨kr, orr, br, ea, hbr, hlc, hle, ecs⟩ := lay_pos h1 (by omega)
  subst ea
  have hbr' := HL _ _ hbr
  have nkr := hN _ _ hbr
  have nkp := hN _ _ hbp
  have ml : m < lr := by omega
  have ml' : ((m : Int) < (lr : Int)) = True := eq_true (by omega)
  have m5 : orr + m * 5 + 5 ≤ br.cells.length := by omega
  have ec : (br.cells.drop (orr + m * 5)).take 5 = eqC cs m := by
    unfold eqC
    rw [Int.toNat_natCast, ecs, List.drop_take, List.take_take, Nat.min_eq_left (by omega), List.drop_drop]
  have fok : (eqC cs m).all okCell = true := eqC_all (selfsOK_cells hself)
  rw [if_neg ib, pt] at sms
  have ths : thoC cs (smL but ps (i + 1)) = thoC cs (smL but ps i) ++ eqC cs m := by
    rw [sms]
    unfold thoC
    rw [List.flatMap_append]
    simp
  have lms : (smL but ps (i + 1)).length = (smL but ps i).length + 1 := by rw [sms, List.length_append]; rfl
  have thl := thoC_len inS
  generalize eSL : (smL but ps i).length = SL at *
  generalize eqC cs m = C5 at *
  generalize thoC cs (smL but ps i) = CT at *
  generalize eT1 : thoC cs (smL but ps (i + 1)) = CT1 at *
  have tk5 : C5.take 5 = C5 := List.take_of_length_le (by omega)
  have st5 : setR [.slice none 0 0, .bool false, .string ⟨⟨[]⟩⟩, .string ⟨⟨[]⟩⟩, .int .i64 0] 0 C5 = C5 := by
    match C5, len5 with
    | [x1, x2, x3, x4, x5], _ => rfl
  have M0 : ∀ j, (M + j = kr) = False := fun j => eq_false (by omega)
  have M1 : ∀ j, (M + j = kp) = False := fun j => eq_false (by omega)
  rcases hO with ⟨z0, rfl⟩ | ⟨z0, kk, x, rfl, h3, h4, h5⟩
  · have hCT : CT = [] := List.eq_nil_of_length_eq_zero (by omega)
    subst hCT
    rw [List.nil_append] at ths
    simp only [↓R0, R1, simprocAttr, -Int.reduceAbs, t0, t1, t2, t8, t7, ci, ci', ib', hbb, q1, q2, hbr', ml, ml', m5, ec, len5, fok, st5, tk5, setR_length, wi, M0, M1, vcells, fillI, Bool.not_false]
    refine ⟨q - 1, by omega, i + 1, M + 2, .slice (some ⟨M + 1, 0, none⟩) 1 1, by omega, rfl, rfl, .inr ⟨by omega, M + 1, false, by rw [lms, z0], ?_, by omega, by omega⟩, fun q hq => ?_, by omega, rfl⟩
    · rw [eT1, ths]
      simp only [↓R0, R1, simprocAttr, -Int.reduceAbs]
    · have nb : ∀ d, (M + d = q) = False := fun d => eq_false (by omega)
      simp only [↓R0, R1, simprocAttr, -Int.reduceAbs, nb]
      exact hh q hq
  · have v1 : ∀ d, (M + d = kk) = False := fun d => eq_false (by omega)
    have v2 : ∀ d, (kk = M + d) = False := fun d => eq_false (by omega)
    have nler : (SL + 1 ≤ SL) = False := eq_false (by omega)
    have ovr : ((SL + 1) * 72 ≤ 140737488355328) = True := eq_true (by omega)
    simp only [↓R0, R1, simprocAttr, -Int.reduceAbs, t0, t1, t2, t8, t7, ci, ci', ib', hbb, q1, q2, hbr', ml, ml', m5, ec, len5, fok, st5, tk5, setR_length, wi, M0, M1, h3, thl, nler, ovr, v1, v2, vcells, fillI, Bool.not_false]
    refine ⟨q - 1, by omega, i + 1, M + 2, .slice (some ⟨M + 1, 0, none⟩) (SL + 1) (SL + 1), by omega, rfl, rfl, .inr ⟨by omega, M + 1, false, by rw [lms], ?_, by omega, by omega⟩, fun q hq => ?_, by omega, rfl⟩
    · rw [eT1, ths]
      simp only [↓R0, R1, simprocAttr, -Int.reduceAbs, v1, v2]
    · have nb : ∀ d, (M + d = q) = False := fun d => eq_false (by omega)
      have nq : (kk = q) = False := eq_false (by omega)
      simp only [↓R0, R1, simprocAttr, -Int.reduceAbs, nb, nq]
      exact hh q hq
end Go.Eng
end
section
set_option linter.unusedVariables false
set_option linter.unusedSimpArgs false
set_option linter.unusedSectionVars false
set_option maxRecDepth 20000
namespace Go.Eng
open Go Go.Proofs Go.IntWalk
theorem some_call {h : Heap} {b : Nat} {l : List EqR} {sl pl : Value} {cs : List Value} {L : List Int} {but : Int} (R : RowsS h sl l cs) (hp : listAt 1 decN h pl = some L) (hL : ∀ p ∈ L, 0 ≤ p ∧ p.toNat < l.length) (hl : L.length ≤ 1000) (hb : ∀ k blk, hget h k = some blk → k < b) :
    ∃ a m D mm, nwL spSome5 [sl, pl, .int .i64 but] h b = some (.slice a m m, D, mm) ∧ (∀ q, q < b → hget (D ++ h) q = hget h q) ∧ decRows (D ++ h) (.slice a m m) = some (selL l (smL but L L.length)) := by
  have inL : L.all (inR cs) = true := by
    rw [List.all_eq_true]
    intro p hp'
    obtain ⟨q1, q2⟩ := hL p hp'
    have := R.inR q2
    rw [Int.toNat_of_nonneg q1] at this
    exact this
  have inS : (smL but L L.length).all (inR cs) = true := by
    rw [List.all_eq_true] at inL ⊢
    exact fun p hp => inL p (smL_mem hp)
  have e : spSome5 [sl, pl, .int .i64 but] h = some (thNL cs (smL but L L.length)) := by
    unfold spSome5
    simp only [R.lay, hp]
    exact if_pos ⟨R.self, inL, hl⟩
  unfold nwL
  rw [e]
  unfold thNL
  by_cases z : smL but L L.length = []
  · rw [if_pos z, z]
    exact ⟨none, 0, [], 0, rfl, fun _ _ => rfl, rfl⟩
  · rw [if_neg z]
    refine ⟨some ⟨b + 0, 0, none⟩, _, _, 1, rfl, fun q hq => ?_, ?_⟩
    · have : (b + 0 = q) = False := eq_false (by omega)
      simp only [newH, List.cons_append, List.nil_append, hget, this, if_false]
    · refine (R.those (el := 40) (sz := 5) (x := false) inS (fun k blk hk => ?_) (Nat.le_refl _) ?_).rows
      · have := hb k blk hk
        have : (b + 0 = k) = False := eq_false (by omega)
        simp only [newH, List.cons_append, List.nil_append, hget, this, if_false]
        exact hk
      · simp only [newH, List.cons_append, List.nil_append, hget, if_true]
theorem tog14 {n : Int} {l : List EqR} {b : Bool} (h : togL n l = b) : ((solveL n l).1 = 14) = (b = false) := by
  unfold togL at h
  cases b with
  | true => exact propext ⟨fun e => absurd e (of_decide_eq_true h), fun e => by cases e⟩
  | false => exact propext ⟨fun _ => rfl, fun _ => Classical.byContradiction fun y => of_decide_eq_false h y⟩
theorem nwL_bnd {F : List Value → Heap → Option NewL} {args : List Value} {h : Heap} {b mm : Nat} {V : Value} {D : Heap} (e : nwL F args h b = some (V, D, mm)) (hb : ∀ k blk, hget h k = some blk → k < b) : ∀ k blk, hget (D ++ h) k = some blk → k < b + mm := by
  unfold nwL at e
  rw [Option.map_eq_some_iff] at e
  obtain ⟨r, _, e⟩ := e
  simp only [Prod.mk.injEq] at e
  obtain ⟨_, rfl, rfl⟩ := e
  intro k blk hk
  by_cases c : ∃ i, i < r.m ∧ b + i = k
  · obtain ⟨i, h1, h2⟩ := c; omega
  · rw [newH_old _ (fun i hi e => c ⟨i, hi, e⟩)] at hk
    have := hb k blk hk
    omega
def spL25min : List Value → Heap → Option Value
  | [.int .i64 n, a], h => match decRows h a with
    | some la => if (-9223372036854775808 ≤ n ∧ n ≤ 9223372036854775807) ∧ la.length ≤ 9223372036854775807 then some (.bool true) else none
    | _ => none
  | _, _ => none
def c4 : ICode :=
  (.seq (.reg [qq 4 (.mv (.c (.bool false)))]) (.seq (.seq (.reg [qq 16 (.call 9 []), qq 17 (.un .not (.t 16))]) (.cond (.t 17) (.seq (.reg [qq 4 (.mv (.c (.bool false)))]) .ret) .skip)) (.seq (.reg [qq 19 (.mv (.t 0)), qq 20 (.mv (.t 1)), qq 21 (.call 10 [(.t 19), (.t 20)]), qq 18 (.mv (.t 21)), qq 22 (.ext (.t 18) 0), qq 23 (.ext (.t 18) 1), qq 5 (.mv (.t 22)), qq 6 (.mv (.t 23))]) (.seq (.seq (.reg [qq 24 (.mv (.t 6)), qq 25 (.un .not (.t 24))]) (.cond (.t 25) (.seq (.reg [qq 4 (.mv (.c (.bool true)))]) .ret) .skip)) (.seq (.reg [qq 26 (.mv (.t 0)), qq 27 (.mv (.t 5)), qq 28 (.call 12 [(.t 26), (.t 27)]), qq 7 (.mv (.t 28))]) (.seq (.reg [qq 30 (.mv (.t 0)), qq 31 (.mv (.t 5)), qq 32 (.call 16 [(.t 30), (.t 31)]), qq 29 (.mv (.t 32)), qq 33 (.ext (.t 29) 0), qq 34 (.ext (.t 29) 1), qq 8 (.mv (.t 33)), qq 9 (.mv (.t 34))]) (.seq (.seq (.reg [qq 35 (.mv (.t 7)), qq 36 (.lensl (.t 35)), qq 37 (.bin .eql (.t 36) (ci 0)), qq 38 (.mv (.t 9)), qq 39 (.bin .neq (.t 38) (ci 14)), qq 40 (.eqb true (.t 37) (.t 39))]) (.cond (.t 40) (.seq (.reg [qq 4 (.mv (.c (.bool false)))]) .ret) .skip)) (.seq (.seq (.reg [qq 41 (.mv (.t 7)), qq 42 (.lensl (.t 41)), qq 43 (.bin .eql (.t 42) (ci 0))]) (.cond (.t 43) (.seq (.reg [qq 4 (.mv (.c (.bool true)))]) .ret) .skip)) (.seq (.seq (.reg [qq 10 (.mv (ci 0))]) (.block 0 (.loop (.seq (.seq (.reg [qq 44 (.mv (.t 10)), qq 45 (.mv (.t 7)), qq 46 (.lensl (.t 45)), qq 47 (.bin .lss (.t 44) (.t 46))]) (.cond (.t 47) .skip (.exit 0))) (.seq (.block 1 (.seq (.dreg [qu 50 (.mv (.t 7)), qu 51 (.mv (.t 10)), qu 52 (.ixsl 1 (.t 50) (.t 51)), qu 53 (.load false 1 (.t 52)), qu 54 (.bin .lss (.t 53) (ci 0)), qu 55 (.mv (.t 54)), ⟨(some 56), (some (55, false)), [], (.mv (.t 7))⟩, ⟨(some 57), (some (55, false)), [], (.mv (.t 10))⟩, ⟨(some 58), (some (55, false)), [], (.ixsl 1 (.t 56) (.t 57))⟩, ⟨(some 59), (some (55, false)), [], (.load false 1 (.t 58))⟩, ⟨(some 60), (some (55, false)), [], (.mv (.t 5))⟩, ⟨(some 61), (some (55, false)), [], (.lensl (.t 60))⟩, ⟨(some 62), (some (55, false)), [], (.bin .geq (.t 59) (.t 61))⟩, qu 63 (.pick (.t 55) (.c (.bool true)) (.t 62)), qu 64 (.mv (.t 63)), ⟨(some 65), (some (64, false)), [], (.mv (.t 10))⟩, ⟨(some 66), (some (64, false)), [], (.bin .gtr (.t 65) (ci 0))⟩, ⟨(some 67), (some (64, false)), [], (.mv (.t 66))⟩, ⟨(some 68), (some (67, true)), [], (.mv (.t 7))⟩, ⟨(some 69), (some (67, true)), [], (.mv (.t 10))⟩, ⟨(some 70), (some (67, true)), [], (.ixsl 1 (.t 68) (.t 69))⟩, ⟨(some 71), (some (67, true)), [], (.load false 1 (.t 70))⟩, ⟨(some 72), (some (67, true)), [], (.mv (.t 7))⟩, ⟨(some 73), (some (67, true)), [], (.mv (.t 10))⟩, ⟨(some 74), (some (67, true)), [], (.bin .sub (.t 73) (ci 1))⟩, ⟨(some 75), (some (67, true)), [], (.ixsl 1 (.t 72) (.t 74))⟩, ⟨(some 76), (some (67, true)), [], (.load false 1 (.t 75))⟩, ⟨(some 77), (some (67, true)), [], (.bin .leq (.t 71) (.t 76))⟩, ⟨(some 78), (some (64, false)), [], (.pick (.t 67) (.t 77) (.c (.bool false)))⟩, qu 79 (.pick (.t 64) (.c (.bool true)) (.t 78))]) (.cond (.t 79) (.seq (.reg [qq 4 (.mv (.c (.bool false)))]) .ret) .skip))) (.reg [qq 48 (.mv (.t 10)), qq 49 (.bin .add (.t 48) (ci 1)), qq 10 (.mv (.t 49))])))))) (.seq (.seq (.reg [qq 81 (.mv (.t 0)), qq 82 (.mv (.t 5)), qq 83 (.mv (.t 7)), qq 84 (.call 17 [(.t 82), (.t 83), (ci (-1))]), qq 85 (.call 16 [(.t 81), (.t 84)]), qq 80 (.mv (.t 85)), qq 86 (.ext (.t 80) 0), qq 87 (.ext (.t 80) 1), qq 11 (.mv (.t 86)), qq 12 (.mv (.t 87))]) (.seq (.reg [qq 88 (.mv (.t 12)), qq 89 (.bin .neq (.t 88) (ci 14))]) (.cond (.t 89) (.seq (.reg [qq 4 (.mv (.c (.bool false)))]) .ret) .skip))) (.seq (.seq (.reg [qq 13 (.mv (ci 0))]) (.block 2 (.loop (.seq (.seq (.reg [qq 90 (.mv (.t 13)), qq 91 (.mv (.t 7)), qq 92 (.lensl (.t 91)), qq 93 (.bin .lss (.t 90) (.t 92))]) (.cond (.t 93) .skip (.exit 2))) (.seq (.block 3 (.seq (.reg [qq 97 (.mv (.t 0)), qq 98 (.mv (.t 5)), qq 99 (.mv (.t 7)), qq 100 (.mv (.t 13)), qq 101 (.call 17 [(.t 98), (.t 99), (.t 100)]), qq 102 (.call 16 [(.t 97), (.t 101)]), qq 96 (.mv (.t 102)), qq 103 (.ext (.t 96) 0), qq 104 (.ext (.t 96) 1), qq 14 (.mv (.t 103)), qq 15 (.mv (.t 104))]) (.seq (.reg [qq 105 (.mv (.t 15)), qq 106 (.bin .eql (.t 105) (ci 14))]) (.cond (.t 106) (.seq (.reg [qq 4 (.mv (.c (.bool false)))]) .ret) .skip)))) (.reg [qq 94 (.mv (.t 13)), qq 95 (.bin .add (.t 94) (ci 1)), qq 13 (.mv (.t 95))])))))) (.seq (.reg [qq 4 (.mv (.c (.bool true)))]) .ret))))))))))))
theorem tr4 : trFun Tryz.prog 4 = some ⟨107, [.t 4], c4⟩ := by kernel_rfl
set_option maxHeartbeats 32000000 in
theorem ok_L25min : SpecOK Tryz.prog 4 (rdS spL25min) := by
  refine rd_run (env_cons ok_alive5 (env_cons ok_normed (env_cons ok_min (env_cons ok_solve (env_cons ok_some5 (env_nil _)))))) mixed tr4 ?_ ?_
  · intro args h h' v hle e
    unfold spL25min at e ⊢
    split at e
    · split at e
      · rename_i la h1
        simp only [decRows_mono hle h1]; exact e
      · cases e
    · cases e
  intro args v h N hG hN
  unfold spL25min at hG
  split at hG
  case h_2 => cases hG
  rename_i n sa
  split at hG
  case h_2 => cases hG
  rename_i la hxa
  split at hG
  case isFalse => cases hG
  rename_i hm
  obtain ⟨hn, hma⟩ := hm
  cases hG
  refine ⟨by rfl, by simp, ?_⟩
  have al : spAlive5 [] = some (.bool true) := rfl
  obtain ⟨aA, mA, okA, DA, dA, kA, oA, bA, cA⟩ := normed_any (n := n) (b := N + 0) hxa hma (fun k b e => by have := hN k b e; omega)
  obtain ⟨MA, hMA⟩ : ∃ M, M = N + dA := ⟨_, rfl⟩
  have eMA : N + 0 + dA = MA + 0 := by omega
  rw [show N + 0 + dA = MA by omega] at bA
  generalize eHA : DA ++ h = HA at *
  have acA : ∀ (d : Nat) (tm : List (Nat × Value)) (V : Value) (K : St → Prop), @aft (some d) (some (V, DA, dA)) ⟨(⟨tm, h, N + 0⟩, K)⟩ = K ⟨(d, V) :: tm, HA, MA + 0⟩ := fun _ _ _ _ => by rw [← eMA, ← eHA]; exact propext Iff.rfl
  have xA : ExtL N h HA := fun q hq => oA q (by omega)
  rcases cA with ⟨rfl, _⟩ | ⟨rfl, fA, rfl, csA, RA⟩
  · simp only [c4, G0, Nat.reduceAdd]
    simp only [↓R0, R1, simprocAttr, -Int.reduceAbs, flat, al, kA, acA, Bool.not_true, Bool.not_false, Fin, isEnd, resL, res1]
    exact ⟨_, rfl, rfl, xA⟩
  obtain ⟨nn, rfl⟩ := Int.eq_ofNat_of_zero_le fA.1
  have la14 := fA.2.2.1
  have EA := fit_eqs fA
  have lA := nmL_len la
  generalize nmL la = LL at *
  have sysA : SysOK nn LL := EA.min.sys
  cases tA : togL nn LL with
  | true =>
    have kM := min_yes (b := MA + 0) RA EA tA
    obtain ⟨a9, D, mm, kc, gq, _⟩ := solve_call (b := MA + 0) RA.rows sysA
    generalize eHP : D ++ HA = HP at *
    have ac : ∀ (d : Nat) (tm : List (Nat × Value)) (V : Value) (K : St → Prop), @aft (some d) (some (V, D, mm)) ⟨(⟨tm, HA, MA + 0⟩, K)⟩ = K ⟨(d, V) :: tm, HP, MA + (0 + mm)⟩ := fun _ _ _ _ => by rw [← eHP]; exact a_newL
    have s14 : ((solveL nn LL).1 = 14) = False := by rw [tog14 tA]; exact eq_false (by simp)
    simp only [c4, G0, Nat.reduceAdd]
    simp only [↓R0, R1, simprocAttr, -Int.reduceAbs, flat, al, kA, acA, kM, kc, ac, s14, Bool.not_true, Bool.not_false, Fin, isEnd, resL, res1]
    exact ⟨_, rfl, rfl, fun q hq => by rw [gq q (by omega)]; exact xA q hq⟩
  | false =>
  have kM0 := min_no (b := MA + 0) RA EA tA
  have MR := minF_R EA.chk tA
  have pos := MR.pos EA.n8
  have len := MR.len
  generalize minF nn LL = L at *
  generalize (minS nn LL LL.length).2 = Z at *
  obtain ⟨CA, eCA⟩ : ∃ x, intZ (L ++ List.replicate Z 0) = x := ⟨_, rfl⟩
  rw [eCA] at kM0
  have gKM : hget ((MA + 0, some ⟨3, 1, false, CA⟩) :: HA) (MA + 0) = some ⟨3, 1, false, CA⟩ := if_pos rfl
  have b1 : ∀ k blk, hget ((MA + 0, some ⟨3, 1, false, CA⟩) :: HA) k = some blk → k < MA + 1 := fun k blk hk => by
    by_cases e : MA + 0 = k
    · omega
    · simp only [hget] at hk
      rw [if_neg e] at hk
      have := bA k blk hk; omega
  have up1 : hle HA ((MA + 0, some ⟨3, 1, false, CA⟩) :: HA) := fun k blk hk => by
    have := bA k blk hk
    simp only [hget]
    rw [if_neg (by omega)]; exact hk
  have o1 : ∀ q, q < N → hget ((MA + 0, some ⟨3, 1, false, CA⟩) :: HA) q = hget h q := fun q hq => by
    simp only [hget]
    rw [if_neg (by omega)]; exact xA q hq
  have RA1 := RA.mono up1
  obtain ⟨a9, D, mm, kc, gq, _⟩ := solve_call (b := MA + 1) RA1.rows sysA
  have bD := nwL_bnd kc b1
  obtain ⟨MB, hMB⟩ : ∃ M, M = MA + 1 + mm := ⟨_, rfl⟩
  rw [← hMB] at bD
  generalize eHB : D ++ ((MA + 0, some ⟨3, 1, false, CA⟩) :: HA) = HB at *
  have ac2 : ∀ (d : Nat) (tm : List (Nat × Value)) (V : Value) (K : St → Prop), @aft (some d) (some (V, D, mm)) ⟨(⟨tm, ((MA + 0, some ⟨3, 1, false, CA⟩) :: HA), MA + 1⟩, K)⟩ = K ⟨(d, V) :: tm, HB, MB + 0⟩ := fun _ _ _ _ => by rw [← eHB, hMB]; exact propext Iff.rfl
  have s14 : ((solveL nn LL).1 = 14) = True := by rw [tog14 tA]; exact eq_true rfl
  have RB : RowsS HB (.slice aA la.length la.length) LL csA := RA1.mono fun k blk hk => by rw [gq k (b1 k blk hk)]; exact hk
  have gB : hget HB (MA + 0) = some ⟨3, 1, false, CA⟩ := by rw [gq _ (by omega)]; exact gKM
  have oB : ∀ q, q < N → hget HB q = hget h q := fun q hq => by rw [gq q (by omega)]; exact o1 q hq
  have L0 : (L.length = 0) = False := eq_false (by omega)
  have L0' : ((L.length : Int) = 0) = False := eq_false (by omega)
  have Lc : ∀ i p, L[i]? = some p → CA[i]? = some (Value.int .i64 p) := fun i p hp => by
    rw [← eCA]
    exact intZ_get (l := L ++ List.replicate Z 0) (by rw [List.getElem?_append_left (List.getElem?_eq_some_iff.1 hp).1]; exact hp)
  have CAl : CA.length = L.length + Z := by rw [← eCA, intZ_len, List.length_append, List.length_replicate]
  have Ll : L.length ≤ 14 := by omega
  simp only [c4, G0, Nat.reduceAdd]
  simp only [↓R0, R1, simprocAttr, -Int.reduceAbs, flat, al, kA, acA, kM0, kc, ac2, s14, L0, L0', Bool.not_true, Bool.not_false]
  refine lp_parts (fun q tm hp nx => ∃ i : Nat, q + i = L.length ∧ tmget tm 0 = .int .i64 nn ∧ tmget tm 5 = .slice aA la.length la.length ∧ tmget tm 7 = .slice (some ⟨MA + 0, 0, none⟩) L.length (L.length + Z) ∧ tmget tm 10 = .int .i64 i ∧ HB = hp ∧ nx = MB + 0) ?_ L.length
    ⟨0, by omega, ?_, ?_, ?_, ?_, rfl, rfl⟩
  rotate_left
  all_goals first | (simp only [↓R0, R1, simprocAttr, -Int.reduceAbs]; done) | (simp only [↓R0, R1, simprocAttr, -Int.reduceAbs]; rfl) | skip
  rintro q tm hp nx ⟨i, hq, t0, t5, t7, t10, hhp, hnx⟩
  subst hhp
  rw [hnx]
  clear hnx nx
  by_cases ci : i < L.length
  case pos =>
    have ci' : ((i : Int) < (L.length : Int)) = True := eq_true (by omega)
    have wi : IntKind.i64.wrap ((i : Int) + 1) = ((i + 1 : Nat) : Int) := by rw [i64_in _ (by omega)]; omega
    obtain ⟨p, hp⟩ : ∃ p, L[i]? = some p := ⟨_, List.getElem?_eq_getElem ci⟩
    have pm := MR.mem p (List.mem_of_getElem? hp)
    have p1 : (p < 0) = False := eq_false (by omega)
    have p2 : (p ≥ (la.length : Int)) = False := eq_false (by omega)
    have c1 := Lc i p hp
    have cl : i + 1 ≤ CA.length := by omega
    by_cases i0 : i = 0
    · have i0' : ((i : Int) > 0) = False := eq_false (by omega)
      simp only [↓R0, R1, simprocAttr, -Int.reduceAbs, t0, t5, t7, t10, ci, ci', gB, c1, cl, p1, p2, i0', wi, Nat.zero_add]
      exact ⟨q - 1, by omega, i + 1, by omega, rfl⟩
    · have i0' : ((i : Int) > 0) = True := eq_true (by omega)
      have wm : IntKind.i64.wrap ((i : Int) - 1) = ((i - 1 : Nat) : Int) := by rw [i64_in _ (by omega)]; omega
      obtain ⟨p', hp'⟩ : ∃ p, L[i - 1]? = some p := ⟨_, List.getElem?_eq_getElem (by omega)⟩
      have c2 := Lc _ p' hp'
      have lt : p' < p := by
        have := (List.pairwise_iff_getElem.1 MR.sort) (i - 1) i (by omega) ci (by omega)
        rw [(List.getElem?_eq_some_iff.1 hp).2, (List.getElem?_eq_some_iff.1 hp').2] at this
        exact this
      have p3 : (p ≤ p') = False := eq_false (by omega)
      have cm : ((i - 1 : Nat) : Int) < (L.length : Int) := by omega
      have cm2 : i - 1 < L.length := by omega
      have cl2 : i - 1 + 1 ≤ CA.length := by omega
      simp only [↓R0, R1, simprocAttr, -Int.reduceAbs, t0, t5, t7, t10, ci, ci', gB, c1, c2, cl, cl2, cm, cm2, p1, p2, p3, i0', wi, wm, Nat.zero_add]
      exact ⟨q - 1, by omega, i + 1, by omega, rfl⟩
  have ci' : ((i : Int) < (L.length : Int)) = False := eq_false (by omega)
  have atL : ∀ hp, hget hp (MA + 0) = some ⟨3, 1, false, CA⟩ → listAt 1 decN hp (.slice (some ⟨MA + 0, 0, none⟩) L.length (L.length + Z)) = some L := fun hp hk => by
    rw [← eCA] at hk
    exact intZ_list hk (by omega)
  have sub : ∀ but, SysOK nn (selL LL (smL but L L.length)) := fun but => EA.min.sub _ (fun p hp => MR.mem p (smL_mem hp)) (Nat.le_trans (smL_len _ _ _) (by omega))
  have sA : smL (-1) L L.length = L := by rw [smL_all (by omega) (Nat.le_refl _), List.take_length]
  obtain ⟨aS, mS, DS, dS, kS, gS, rS⟩ := some_call (b := MB + 0) (but := -1) RB (atL _ gB) (fun p hp => MR.mem p hp) (by omega) (fun k b hk => by have := bD k b hk; omega)
  have bS := nwL_bnd kS (fun k b hk => by have := bD k b hk; omega)
  obtain ⟨MS, hMS⟩ : ∃ M, M = MB + 0 + dS := ⟨_, rfl⟩
  rw [← hMS] at bS
  rw [sA] at rS
  generalize eHS : DS ++ HB = HS at *
  have acS : ∀ (d : Nat) (tm : List (Nat × Value)) (V : Value) (K : St → Prop), @aft (some d) (some (V, DS, dS)) ⟨(⟨tm, HB, MB + 0⟩, K)⟩ = K ⟨(d, V) :: tm, HS, MS + 0⟩ := fun _ _ _ _ => by rw [← eHS, hMS]; exact propext Iff.rfl
  have sysS := sub (-1)
  rw [sA] at sysS
  obtain ⟨a8, DT, dT, kT, gT, _⟩ := solve_call (b := MS + 0) rS sysS
  have bT := nwL_bnd kT (fun k b hk => by have := bS k b hk; omega)
  obtain ⟨MT, hMT⟩ : ∃ M, M = MS + 0 + dT := ⟨_, rfl⟩
  rw [← hMT] at bT
  generalize eHT : DT ++ HS = HT at *
  have acT : ∀ (d : Nat) (tm : List (Nat × Value)) (V : Value) (K : St → Prop), @aft (some d) (some (V, DT, dT)) ⟨(⟨tm, HS, MS + 0⟩, K)⟩ = K ⟨(d, V) :: tm, HT, MT + 0⟩ := fun _ _ _ _ => by rw [← eHT, hMT]; exact propext Iff.rfl
  have sb : ((solveL nn (selL LL L)).1 = 14) = True := by rw [tog14 MR.bad]; exact eq_true rfl
  have keepT : ∀ q, q < MB → hget HT q = hget HB q := fun q hq => by rw [gT q (by omega), gS q (by omega)]
  have RT : RowsS HT (.slice aA la.length la.length) LL csA := RB.mono fun k blk hk => by rw [keepT k (bD k blk hk)]; exact hk
  have gT2 : hget HT (MA + 0) = some ⟨3, 1, false, CA⟩ := by rw [keepT _ (by omega)]; exact gB
  have oT : ∀ q, q < N → hget HT q = hget h q := fun q hq => by rw [keepT q (by omega)]; exact oB q hq
  simp only [↓R0, R1, simprocAttr, -Int.reduceAbs, t0, t5, t7, t10, ci', kS, acS, kT, acT, sb, Bool.not_true, Bool.not_false]
  refine lp_parts (fun q tm hp nx => ∃ (i M : Nat), q + i = L.length ∧ tmget tm 0 = .int .i64 nn ∧ tmget tm 5 = .slice aA la.length la.length ∧ tmget tm 7 = .slice (some ⟨MA + 0, 0, none⟩) L.length (L.length + Z) ∧ tmget tm 13 = .int .i64 i ∧ ExtL MT HT hp ∧ (∀ k blk, hget hp k = some blk → k < M) ∧ MT ≤ M ∧ nx = M + 0) ?_ L.length
    ⟨0, MT, by omega, ?_, ?_, ?_, ?_, fun q _ => rfl, bT, Nat.le_refl _, rfl⟩
  rotate_left
  all_goals first | (simp only [↓R0, R1, simprocAttr, -Int.reduceAbs, t0, t5, t7]; done) | (simp only [↓R0, R1, simprocAttr, -Int.reduceAbs, t0, t5, t7]; rfl) | skip
  clear t0 t5 t7 t10 hq ci ci' kS acS kT acT
  rintro q tm hp nx ⟨i, M, hq, t0, t5, t7, t13, he, hbM, hMM, hnx⟩
  rw [hnx]
  clear hnx nx
  by_cases ci : i < L.length
  case neg =>
    have ci' : ((i : Int) < (L.length : Int)) = False := eq_false (by omega)
    simp only [↓R0, R1, simprocAttr, -Int.reduceAbs, t0, t5, t7, t13, ci', Fin, isEnd, resL, res1]
    exact ⟨_, rfl, rfl, fun q hq => by rw [he q (by omega)]; exact oT q hq⟩
  have ci' : ((i : Int) < (L.length : Int)) = True := eq_true (by omega)
  have wi : IntKind.i64.wrap ((i : Int) + 1) = ((i + 1 : Nat) : Int) := by rw [i64_in _ (by omega)]; omega
  obtain ⟨p, hpi⟩ : ∃ p, L[i]? = some p := ⟨_, List.getElem?_eq_getElem ci⟩
  have nd : L.Nodup := MR.sort.imp (fun h => by omega)
  have sD : smL i L L.length = delL p L := by rw [smL_del nd hpi (Nat.le_refl _), List.take_length]
  have RM : RowsS hp (.slice aA la.length la.length) LL csA := RT.mono fun k blk hk => by rw [he k (bT k blk hk)]; exact hk
  obtain ⟨aS, mS, DS, dS, kS, gS, rS⟩ := some_call (b := M + 0) (but := i) RM (atL _ (by rw [he _ (by omega)]; exact gT2)) (fun p hp => MR.mem p hp) (by omega) (fun k b hk => by have := hbM k b hk; omega)
  have bS := nwL_bnd kS (fun k b hk => by have := hbM k b hk; omega)
  obtain ⟨MS, hMS⟩ : ∃ M', M' = M + 0 + dS := ⟨_, rfl⟩
  rw [← hMS] at bS
  rw [sD] at rS
  generalize eHS : DS ++ hp = HS at *
  have acS : ∀ (d : Nat) (tm : List (Nat × Value)) (V : Value) (K : St → Prop), @aft (some d) (some (V, DS, dS)) ⟨(⟨tm, hp, M + 0⟩, K)⟩ = K ⟨(d, V) :: tm, HS, MS + 0⟩ := fun _ _ _ _ => by rw [← eHS, hMS]; exact propext Iff.rfl
  have sysS := sub i
  rw [sD] at sysS
  obtain ⟨a8, DT, dT, kT, gT, _⟩ := solve_call (b := MS + 0) rS sysS
  have bT' := nwL_bnd kT (fun k b hk => by have := bS k b hk; omega)
  obtain ⟨MU, hMU⟩ : ∃ M', M' = MS + 0 + dT := ⟨_, rfl⟩
  rw [← hMU] at bT'
  generalize eHU : DT ++ HS = HU at *
  have acT : ∀ (d : Nat) (tm : List (Nat × Value)) (V : Value) (K : St → Prop), @aft (some d) (some (V, DT, dT)) ⟨(⟨tm, HS, MS + 0⟩, K)⟩ = K ⟨(d, V) :: tm, HU, MU + 0⟩ := fun _ _ _ _ => by rw [← eHU, hMU]; exact propext Iff.rfl
  have sg : ((solveL nn (selL LL (delL p L))).1 = 14) = False := by rw [tog14 (MR.min p (List.mem_of_getElem? hpi))]; exact eq_false (by simp)
  simp only [↓R0, R1, simprocAttr, -Int.reduceAbs, t0, t5, t7, t13, ci', kS, acS, kT, acT, sg, wi]
  exact ⟨q - 1, by omega, i + 1, MU, by omega, rfl, fun q hq => by rw [gT q (by omega), gS q (by omega)]; exact he q hq, bT', by omega, rfl⟩
theorem fr_L25min {h : Heap} {N : Nat} {n : Int} {a : Value} {la : List EqR} (z : -9223372036854775808 ≤ n ∧ n ≤ 9223372036854775807) (ea : decRows h a = some la) (ma : la.length ≤ maxLen) : rdS spL25min [.int .i64 n, a] h N = some (.bool true, [], 0) := by
  unfold rdS spL25min
  simp only [ea]
  rw [if_pos ⟨z, Nat.le_trans ma (by decide)⟩]; rfl
end Go.Eng
end
section
set_option linter.unusedVariables false
set_option linter.unusedSimpArgs false
set_option linter.unusedSectionVars false
namespace Go.Eng.K
open Go.Eng
inductive Ki where
  | b | i (k : IntKind) | s
def kiFs (ty : TypeId → Option (List Ki)) (P : Program) : List Field → Nat → Option (List Ki)
  | [], _ => some []
  | f :: r, off =>
    if f.name ≠ "_" ∧ f.offset = off then
      match ty f.type, szOf P f.type with
      | some ks, some n => if ks.length = n then (kiFs ty P r (off + n)).map (ks ++ ·) else none
      | _, _ => none
    else none
def kiTy (P : Program) : Nat → TypeId → Option (List Ki)
  | 0, _ => none
  | d + 1, t =>
    match P.underlying t with
    | some .bool => some [.b]
    | some (.int k) => some [.i k]
    | some .string => some [.s]
    | some (.struct fs) => if P.stoodInHeld t then none else kiFs (kiTy P d) P fs.toList 0
    | some (.array len e) => match kiTy P d e, szOf P e with
      | some ks, some n => if ks.length = n then some (List.replicate len ks).flatten else none
      | _, _ => none
    | _ => none
def kmatch : List Ki → List Value → Prop
  | [], [] => True
  | .b :: ks, .bool _ :: r => kmatch ks r
  | .i k :: ks, .int k' n :: r => (k' = k ∧ (Lit.int k n).wf = true) ∧ kmatch ks r
  | .s :: ks, .string s :: r => s.size ≤ maxLen ∧ kmatch ks r
  | _, _ => False
theorem kmatch_append : ∀ {ks ks' : List Ki} {cs cs' : List Value}, kmatch ks cs → kmatch ks' cs' → kmatch (ks ++ ks') (cs ++ cs')
  | [], _, [], _, _, h => h
  | [], _, _ :: _, _, h, _ => h.elim
  | .b :: ks, ks', cs, cs', h, h' => by
    match cs, h with
    | .bool _ :: r, h => exact kmatch_append (ks := ks) h h'
  | .i k :: ks, ks', cs, cs', h, h' => by
    match cs, h with
    | .int _ _ :: r, h => exact ⟨h.1, kmatch_append (ks := ks) h.2 h'⟩
  | .s :: ks, ks', cs, cs', h, h' => by
    match cs, h with
    | .string _ :: r, h => exact ⟨h.1, kmatch_append (ks := ks) h.2 h'⟩
section
variable {H : Type} {enc : TypeId × Value → H} {P : Program}
theorem cellsOf_sz {t : TypeId} {n : Nat} (h : szOf P t = some n) : P.cellsOf t = n := by
  unfold Program.cellsOf; unfold szOf at h; rw [h]; rfl
def Plain (P : Program) (enc : TypeId × Value → H) (fuel : Nat) (t : TypeId) (ks : List Ki) : Prop :=
  ∀ (w : World) (base : Nat) (spare : Nat → Bool) (held : Bool) (cs : List Value) (x : DataW H × List MemPlace), DataW.trod enc P w base spare held fuel t cs = some x →
    kmatch ks cs ∧ x.2 = [] ∧ ∀ w' base' spare' held', DataW.trod enc P w' base' spare' held' fuel t cs = some x
theorem plain_fields {fuel : Nat} {ty : TypeId → Option (List Ki)} (hty : ∀ t ks n, ty t = some ks → szOf P t = some n → ks.length = n → Plain P enc fuel t ks) :
    ∀ (fs : List Field) (off : Nat) (ks : List Ki), kiFs ty P fs off = some ks → ∀ (w : World) (base : Nat) (spare : Nat → Bool) (held : Bool) (cs : List Value) (xs : List (DataW H × List MemPlace)),
      (fs.mapM fun f => DataW.trod enc P w base spare held fuel f.type ((cs.drop f.offset).take (P.cellsOf f.type))) = some xs → cs.length = off + ks.length →
      kmatch ks (cs.drop off) ∧ xs.flatMap (·.2) = [] ∧ ∀ w' base' spare' held', (fs.mapM fun f => DataW.trod enc P w' base' spare' held' fuel f.type ((cs.drop f.offset).take (P.cellsOf f.type))) = some xs
  | [], off, ks, h, w, base, spare, held, cs, xs, hm, hl => by
    simp only [kiFs, Option.some.injEq] at h
    subst h
    simp only [List.mapM_nil, Option.pure_def, Option.some.injEq] at hm
    subst hm
    simp only [List.length_nil, Nat.add_zero] at hl
    rw [List.drop_eq_nil_of_le (by omega)]
    exact ⟨trivial, rfl, fun _ _ _ _ => rfl⟩
  | f :: r, off, ks, h, w, base, spare, held, cs, xs, hm, hl => by
    simp only [kiFs] at h
    split at h
    case isFalse => cases h
    rename_i hc
    obtain ⟨_, hoff⟩ := hc
    split at h
    case h_2 => cases h
    rename_i ks0 n hk hn
    split at h
    case isFalse => cases h
    rename_i hlen
    rw [Option.map_eq_some_iff] at h
    obtain ⟨ks1, h1, rfl⟩ := h
    have hsz := cellsOf_sz hn
    simp only [List.mapM_cons, Option.bind_eq_bind, Option.bind_eq_some_iff, Option.pure_def, Option.some.injEq] at hm
    obtain ⟨y, hy, ys, hys, rfl⟩ := hm
    have hp := hty f.type ks0 n hk hn hlen w base spare held _ y hy
    obtain ⟨p1, p2, p3⟩ := hp
    simp only [List.length_append] at hl
    obtain ⟨q1, q2, q3⟩ := plain_fields hty r (off + n) ks1 h1 w base spare held cs ys hys (by omega)
    rw [hoff, hsz] at p1
    refine ⟨?_, ?_, ?_⟩
    · have e : cs.drop off = (cs.drop off).take n ++ cs.drop (off + n) := by
        rw [← List.drop_drop, List.take_append_drop]
      rw [e]
      exact kmatch_append p1 q1
    · simp only [List.flatMap_cons, p2, q2, List.nil_append]
    · intro w' base' spare' held'
      simp only [List.mapM_cons, Option.bind_eq_bind, Option.bind_eq_some_iff, Option.pure_def, Option.some.injEq]
      exact ⟨y, p3 w' base' spare' held', ys, q3 w' base' spare' held', rfl⟩
theorem plain_elems {fuel : Nat} {e : TypeId} {ks : List Ki} {n : Nat} (hn : szOf P e = some n) (hl : ks.length = n) (he : Plain P enc fuel e ks) :
    ∀ (m i0 : Nat) (w : World) (base : Nat) (spare : Nat → Bool) (held : Bool) (cs : List Value) (xs : List (DataW H × List MemPlace)),
      ((List.range' i0 m).mapM fun i => DataW.trod enc P w base spare held fuel e ((cs.drop (i * P.cellsOf e)).take (P.cellsOf e))) = some xs → cs.length = (i0 + m) * n →
      kmatch (List.replicate m ks).flatten (cs.drop (i0 * n)) ∧ xs.flatMap (·.2) = [] ∧ ∀ w' base' spare' held', ((List.range' i0 m).mapM fun i => DataW.trod enc P w' base' spare' held' fuel e ((cs.drop (i * P.cellsOf e)).take (P.cellsOf e))) = some xs
  | 0, i0, w, base, spare, held, cs, xs, hm, hlen => by
    simp only [List.range'_zero, List.mapM_nil, Option.pure_def, Option.some.injEq] at hm
    subst hm
    simp only [Nat.add_zero] at hlen
    rw [List.drop_eq_nil_of_le (by omega)]
    exact ⟨trivial, rfl, fun _ _ _ _ => by simp⟩
  | m + 1, i0, w, base, spare, held, cs, xs, hm, hlen => by
    have hsz := cellsOf_sz hn
    simp only [List.range'_succ, List.mapM_cons, Option.bind_eq_bind, Option.bind_eq_some_iff, Option.pure_def, Option.some.injEq] at hm
    obtain ⟨y, hy, ys, hys, rfl⟩ := hm
    obtain ⟨p1, p2, p3⟩ := he w base spare held _ y hy
    obtain ⟨q1, q2, q3⟩ := plain_elems hn hl he m (i0 + 1) w base spare held cs ys hys (by rw [hlen]; congr 1; omega)
    rw [hsz] at p1
    refine ⟨?_, ?_, ?_⟩
    · rw [List.replicate_succ, List.flatten_cons]
      have e : cs.drop (i0 * n) = (cs.drop (i0 * n)).take n ++ cs.drop ((i0 + 1) * n) := by
        rw [Nat.succ_mul, ← List.drop_drop, List.take_append_drop]
      rw [e]
      exact kmatch_append p1 q1
    · simp only [List.flatMap_cons, p2, q2, List.nil_append]
    · intro w' base' spare' held'
      simp only [List.range'_succ, List.mapM_cons, Option.bind_eq_bind, Option.bind_eq_some_iff, Option.pure_def, Option.some.injEq]
      exact ⟨y, p3 w' base' spare' held', ys, q3 w' base' spare' held', rfl⟩
theorem plain_ty : ∀ (fuel d : Nat) (t : TypeId) (ks : List Ki) (n : Nat), kiTy P d t = some ks → szOf P t = some n → ks.length = n → Plain P enc fuel t ks
  | 0, d, t, ks, n, h, hn, hl => by intro w base spare held cs x hx; simp [DataW.trod] at hx
  | fuel + 1, 0, t, ks, n, h, hn, hl => by simp [kiTy] at h
  | fuel + 1, d + 1, t, ks, n, h, hn, hl => by
    intro w base spare held cs x hx
    unfold kiTy at h
    unfold DataW.trod at hx ⊢
    split at h
    · rename_i hu
      cases h
      rw [hu] at hx ⊢
      match cs, hx with
      | [.bool b], hx => simp only [Option.some.injEq] at hx; subst hx; exact ⟨trivial, rfl, fun _ _ _ _ => rfl⟩
    · rename_i k hu
      cases h
      rw [hu] at hx ⊢
      match cs, hx with
      | [.int k' m], hx =>
        simp only at hx
        split at hx
        · rename_i hc
          simp only [Option.some.injEq] at hx; subst hx
          exact ⟨⟨hc, trivial⟩, rfl, fun _ _ _ _ => by simp only; rw [if_pos hc]⟩
        · cases hx
    · rename_i hu
      cases h
      rw [hu] at hx ⊢
      match cs, hx with
      | [.string s], hx =>
        simp only at hx
        split at hx
        · rename_i hc
          simp only [Option.some.injEq] at hx; subst hx
          exact ⟨⟨hc, trivial⟩, rfl, fun _ _ _ _ => by simp only; rw [if_pos hc]⟩
        · cases hx
    · rename_i fs hu
      split at h
      · cases h
      rw [hu] at hx ⊢
      simp only at hx ⊢
      split at hx
      case isFalse => cases hx
      rename_i hlen
      rw [Option.map_eq_some_iff] at hx
      obtain ⟨xs, hxs, rfl⟩ := hx
      rw [cellsOf_sz hn, ← hl] at hlen
      obtain ⟨p1, p2, p3⟩ := plain_fields (fuel := fuel) (fun t ks n h1 h2 h3 => plain_ty fuel d t ks n h1 h2 h3) fs.toList 0 ks h w base spare held cs xs hxs (by omega)
      refine ⟨by simpa using p1, p2, fun w' base' spare' held' => ?_⟩
      rw [if_pos (by rw [cellsOf_sz hn, ← hl, hlen]), p3]; rfl
    · rename_i len e hu
      split at h
      case h_2 => cases h
      rename_i ks0 m hk hm
      split at h
      case isFalse => cases h
      rename_i hlm
      simp only [Option.some.injEq] at h
      subst h
      rw [hu] at hx ⊢
      simp only at hx ⊢
      split at hx
      case isFalse => cases hx
      rename_i hlen
      rw [Option.map_eq_some_iff] at hx
      obtain ⟨xs, hxs, rfl⟩ := hx
      rw [cellsOf_sz hn, ← hl] at hlen
      rw [List.range_eq_range'] at hxs
      have hfl : ((List.replicate len ks0).flatten).length = len * m := by rw [List.length_flatten]; simp [hlm]
      obtain ⟨p1, p2, p3⟩ := plain_elems hm hlm (plain_ty fuel d e ks0 m hk hm hlm) len 0 w base spare held cs xs hxs (by rw [hlen, hfl, Nat.zero_add])
      refine ⟨by simpa using p1, p2, fun w' base' spare' held' => ?_⟩
      rw [if_pos (by rw [cellsOf_sz hn, ← hl, hlen]), List.range_eq_range', p3]; rfl
    · cases h
end
theorem wf_i64 {n : Int} (h : (Lit.int .i64 n).wf = true) : -9223372036854775808 ≤ n ∧ n ≤ 9223372036854775807 := by simpa [Lit.wf, IntKind.min, IntKind.max, IntKind.signed, IntKind.bits] using h
end Go.Eng.K
end
section
set_option linter.unusedVariables false
set_option linter.unusedSimpArgs false
set_option linter.unusedSectionVars false
namespace Go.Eng.K
open Go.Eng
theorem vr_ex (β : Emb) : ∀ v : Value, ∃ a, VR β a v := by
  have key : ∀ (n : Nat) (v : Value), SizeOf.sizeOf v < n → ∃ a, VR β a v := by
    intro n
    induction n with
    | zero => intro v h; omega
    | succ n ih =>
      intro v h
      have list : ∀ l : List Value, (∀ x ∈ l, SizeOf.sizeOf x < n) → ∃ bs, VRs β bs l := by
        intro l
        induction l with
        | nil => intro _; exact ⟨[], .nil⟩
        | cons x r ihl =>
          intro hx
          obtain ⟨a, ha⟩ := ih x (hx x (List.mem_cons_self ..))
          obtain ⟨bs, hs⟩ := ihl (fun y hy => hx y (List.mem_cons_of_mem _ hy))
          exact ⟨a :: bs, .cons _ _ _ _ ha hs⟩
      by_cases ho : okCell v = true
      · exact ⟨.chan none, .junk none v ho⟩
      · match v, ho, h with
        | .agg ⟨l⟩, _, h =>
          obtain ⟨bs, hs⟩ := list l (fun x hx => by
            have := List.sizeOf_lt_of_mem hx
            simp only [Value.agg.sizeOf_spec, Array.mk.sizeOf_spec] at h
            omega)
          exact ⟨.agg ⟨bs⟩, .agg _ _ hs⟩
        | .tuple ⟨l⟩, _, h =>
          obtain ⟨bs, hs⟩ := list l (fun x hx => by
            have := List.sizeOf_lt_of_mem hx
            simp only [Value.tuple.sizeOf_spec, Array.mk.sizeOf_spec] at h
            omega)
          exact ⟨.tuple ⟨bs⟩, .tup _ _ hs⟩
  exact fun v => key (SizeOf.sizeOf v + 1) v (Nat.lt_succ_self _)
def mirE (W : World) : Emb := fun k => if k < W.heap.size then some ⟨k, 0, []⟩ else none
open Classical in
noncomputable def absV (W : World) (v : Value) : Value :=
  match v with
  | .slice (some a) len cap =>
    if len = 0 then .slice (some ⟨0, 0, some 1⟩) 0 0
    else if a.spot = none ∧ a.block < W.heap.size then .slice (some a) len cap
    else Classical.choose (vr_ex (mirE W) (.slice (some a) len cap))
  | v => if isBase v = true then v else Classical.choose (vr_ex (mirE W) v)
theorem absV_vr (W : World) (v : Value) : VR (mirE W) (absV W v) v := by
  unfold absV
  split
  · rename_i a len cap
    split
    · rename_i h; subst h; exact .sle _ _
    · split
      · rename_i h
        obtain ⟨b, off, s⟩ := a
        obtain ⟨h1, h2⟩ := h
        simp only at h1 h2
        subst h1
        exact VR.sl b off len cap ⟨b, 0, []⟩ (by unfold mirE; rw [if_pos h2])
      · exact Classical.choose_spec (vr_ex (mirE W) _)
  · split
    · rename_i h; exact .base _ h
    · exact Classical.choose_spec (vr_ex (mirE W) _)
theorem absV_base {W : World} {v : Value} (h : isBase v = true) : absV W v = v := by
  unfold absV
  split
  · simp [isBase] at h
  · rw [if_pos h]
theorem absV_map (W : World) : ∀ l : List Value, VRs (mirE W) (l.map (absV W)) l
  | [] => .nil
  | v :: r => .cons _ _ _ _ (absV_vr W v) (absV_map W r)
theorem absV_bases {W : World} : ∀ {l : List Value}, l.all isBase = true → l.map (absV W) = l
  | [], _ => rfl
  | v :: r, h => by
    simp only [List.all_cons, Bool.and_eq_true] at h
    rw [List.map_cons, absV_base h.1, absV_bases h.2]
noncomputable def mirB (W : World) (b : Nat) : Option Blk :=
  match W.heap[b]? with
  | some (.cells c elem _) => some ⟨elem, 0, true, c.toList.map (absV W)⟩
  | _ => none
noncomputable def mirror (W : World) : Heap := (List.range W.heap.size).map fun b => (b, mirB W b)
theorem hget_map {f : Nat → Option Blk} {k : Nat} : ∀ (l : List Nat), hget (l.map fun b => (b, f b)) k = if k ∈ l then f k else none
  | [] => rfl
  | b :: r => by
    simp only [List.map_cons, hget]
    by_cases e : b = k
    · subst e; simp
    · rw [if_neg e, hget_map r]
      simp [Ne.symm e]
theorem mir_get (W : World) (k : Nat) : hget (mirror W) k = mirB W k := by
  unfold mirror
  rw [hget_map]
  by_cases h : k < W.heap.size
  · rw [if_pos (List.mem_range.2 h)]
  · rw [if_neg (by simpa using h)]
    unfold mirB
    rw [Array.getElem?_eq_none (by omega)]
theorem mir_blk {W : World} {k : Nat} {blk : Blk} (h : hget (mirror W) k = some blk) : k < W.heap.size ∧ ∃ C fr, W.heap[k]? = some (.cells ⟨C⟩ blk.elem fr) ∧ blk.sz = 0 ∧ blk.cells = C.map (absV W) := by
  rw [mir_get] at h
  unfold mirB at h
  split at h
  · rename_i c elem fr hk
    cases h
    refine ⟨?_, c.toList, fr, hk, rfl, rfl⟩
    rcases Nat.lt_or_ge k W.heap.size with h | h
    · exact h
    · rw [Array.getElem?_eq_none h] at hk; cases hk
  · cases h
theorem mir_wr {W : World} {k : Nat} : ¬ wr (mirror W) k := fun ⟨blk, h1, h2⟩ => by
  obtain ⟨_, C, fr, _, h3, _⟩ := mir_blk h1
  exact h2 h3
theorem mir_rel (W : World) : Rel (mirE W) (mirror W) W := by
  refine ⟨fun k blk hk => ?_, fun k k' L L' _ b => absurd b mir_wr, fun k L h => ?_⟩
  · obtain ⟨h1, C, fr, h2, h3, h4⟩ := mir_blk hk
    refine ⟨⟨k, 0, []⟩, C, fr, by unfold mirE; rw [if_pos h1], by simpa using h2, fun h => absurd h3 h, by rw [h4]; exact absV_map W C, by simp, fun _ => rfl⟩
  · unfold mirE at h
    split at h
    · rename_i hk; cases h; exact hk
    · cases h
theorem mir_calls {P : Program} {f : Nat} {S : List Value → Heap → Nat → Option Out} (hS : SpecOK P f S) {W : World} {aargs args : List Value} {v : Value} (h : S aargs (mirror W) W.heap.size = some (v, [], 0))
    (ha : VRs (mirE W) aargs args) (hv : isBase v = true) :
    Calls P f ⟨args⟩ W fun e W' => e = .returned v ∧ W'.os = W.os ∧ W'.output = W.output ∧ ∀ b, b < W.heap.size → W'.heap[b]? = W.heap[b]? := by
  have h := hS.ok aargs (mirror W) W.heap.size (v, [], 0) h (mirE W) W args ha (mir_rel W) (fun k h1 h2 => by simp only at h2; omega)
    ⟨W.heap.size, fun k hk => by
      rcases Nat.lt_or_ge k W.heap.size with h | h
      · exact h
      · exact absurd (by unfold mirE; rw [if_neg (by omega)]) hk⟩
  refine h.mono ?_
  rintro e W' ⟨β', v', he, hvr, hrel, hfr, _⟩
  exact ⟨by rw [he, hvr.base_left hv], hfr.os, hfr.out, fun b hb => hfr.keep b hb (fun k L hk => absurd hk mir_wr)⟩
theorem kept_of {W W' : World} (h1 : W'.os = W.os) (h2 : W'.output = W.output) (h3 : ∀ b, b < W.heap.size → W'.heap[b]? = W.heap[b]?) : W.keptBut W' (fun _ => False) := by
  refine ⟨h1, h2, fun i hi => ?_⟩
  rw [h3 i hi]
  cases W.heap[i]? with
  | none => rfl
  | some o =>
    cases o with
    | cells c t fr => exact ⟨rfl, rfl, rfl, fun _ _ => rfl⟩
    | map es cl => exact .inr ⟨rfl, rfl⟩
    | _ => rfl
section
variable {H : Type} {enc : TypeId × Value → H} {P : Program}
theorem trodAll_old {W W' : World} (hs : ∀ b, b < W.heap.size → W'.heap[b]? = W.heap[b]?) {base : Nat} {sp : Nat → Bool} {held : Bool} :
    ∀ {ts : List TypeId} {vs : List Value} {ds : List (DataW H)} {ps : List MemPlace}, DataW.TrodAll enc P W base sp held ts vs ds ps → DataW.TrodAll enc P W' base sp held ts vs ds ps
  | [], [], [], _, h => h
  | t :: ts, v :: vs, d :: ds, ps, ⟨p, q, ⟨n, h1⟩, h2, e⟩ => by
    have lt := DataW.trod_lt n _ _ _ h1
    refine ⟨p, q, ⟨n, DataW.trod_carry n _ _ _ h1 (fun x hx => ?_)⟩, trodAll_old hs h2, e⟩
    have hb := lt x hx
    cases x with
    | cell b off => simp only [MemPlace.block] at hb; simp only [World.sameAt, World.cell?, hs b hb]
    | map b => simp only [MemPlace.block] at hb; simp only [World.sameAt, hs b hb]
  | [], [], _ :: _, _, h => h.elim
  | [], _ :: _, _, _, h => by cases h
  | _ :: _, [], _, _, h => by cases h
  | _ :: _, _ :: _, [], _, h => by cases h
theorem args_again {W W' : World} (hl : laidOutB P = true) (hm : mapsRowed P = true) (hz : ((List.range P.types.size).all fun t => match P.underlying t with | some (.slice e) => decide (0 < P.cellsOf e) | _ => true) = true)
    (hs : ∀ b, b < W.heap.size → W'.heap[b]? = W.heap[b]?) {ts : List TypeId} (ht : ts.all (fun t => decide (t < P.types.size)) = true) {vs : List Value} {ds : List (DataW H)} {ps : List MemPlace} (h : DataW.TrodAll enc P W 0 (fun _ => true) true ts vs ds ps) :
    DataW.TrodAll enc P W' 0 (fun b => decide (b < W.heap.size)) true ts vs ds ps := by
  refine DataW.TrodAll.respare (kids_rows hl hm) (slices_full_of P hz) (fun t h => of_decide_eq_true (List.all_eq_true.1 ht t h)) (trodAll_old hs h) (fun p hp => ?_)
  exact decide_eq_true (DataW.TrodAll.lt h p hp)
theorem mir_at {W : World} {a : Addr} {n : Nat} {cs : List Value} (hn : 0 < n) (h : W.cells? 0 a n = some cs) :
    a.spot = none ∧ a.block < W.heap.size ∧ ∃ blk, hget (mirror W) a.block = some blk ∧ a.off + n ≤ blk.cells.length ∧ (blk.cells.drop a.off).take n = cs.map (absV W) := by
  obtain ⟨_, hlen, hc⟩ := World.cells?_some h
  have h0 := hc 0 hn
  rw [List.getElem?_eq_getElem (by omega)] at h0
  have e0 : a.add 0 = a := rfl
  rw [e0] at h0
  unfold World.cell? at h0
  split at h0
  case h_2 => cases h0
  rename_i c elem fr hk
  split at h0
  case isTrue => cases h0
  rename_i hsp
  have hspot : a.spot = none := by cases h : a.spot with | none => rfl | some s => rw [h] at hsp; simp at hsp
  have hlt : a.block < W.heap.size := by
    rcases Nat.lt_or_ge a.block W.heap.size with h | h
    · exact h
    · rw [Array.getElem?_eq_none h] at hk; cases hk
  have cell : ∀ i, i < n → c.toList[a.off + i]? = cs[i]? := fun i hi => by
    have := hc i hi
    rw [← this]
    have ea : a.add i = ⟨a.block, a.off + i, none⟩ := by
      unfold Addr.add
      split
      · rename_i h0; subst h0; cases a; simp_all
      · rfl
    rw [ea]
    simp only [World.cell?, hk]
    simp
  have hle : a.off + n ≤ c.toList.length := by
    have := cell (n - 1) (by omega)
    rw [List.getElem?_eq_getElem (by omega : n - 1 < cs.length)] at this
    have := (List.getElem?_eq_some_iff.1 this).1
    omega
  refine ⟨hspot, hlt, ⟨elem, 0, true, c.toList.map (absV W)⟩, ?_, by simpa using hle, ?_⟩
  · rw [mir_get]; unfold mirB; rw [hk]
  · refine List.ext_getElem? fun i => ?_
    rw [List.getElem?_take]
    by_cases hi : i < n
    · rw [if_pos hi, List.getElem?_drop, List.getElem?_map, List.getElem?_map, cell i hi]
    · rw [if_neg hi, List.getElem?_eq_none (by simp; omega)]
theorem many_ex {α : Type} {sz : Nat} {dec : List Value → Option α} : ∀ (l : Nat) (cs : List Value), (∀ i, i < l → ∃ x, dec ((cs.drop (i * sz)).take sz) = some x) → ∃ xs, many sz dec l cs = some xs
  | 0, cs, _ => ⟨[], rfl⟩
  | l + 1, cs, h => by
    obtain ⟨x, hx⟩ := h 0 (by omega)
    simp only [Nat.zero_mul, List.drop_zero] at hx
    obtain ⟨xs, hxs⟩ := many_ex l (cs.drop sz) (fun i hi => by
      obtain ⟨y, hy⟩ := h (i + 1) (by omega)
      refine ⟨y, ?_⟩
      rw [List.drop_drop, ← hy, Nat.succ_mul, Nat.add_comm (i * sz) sz])
    refine ⟨x :: xs, ?_⟩
    unfold many
    simp only [hx, hxs]
theorem mir_list {W : World} {α : Type} {dec : List Value → Option α} {t e : TypeId} {n fuel : Nat} {held : Bool} {sv : Value} {x : DataW H × List MemPlace} (ht : P.underlying t = some (.slice e)) (hsz : P.cellsOf e = n) (hn : 0 < n)
    (h : DataW.trod enc P W 0 (fun _ => true) held fuel t [sv] = some x)
    (hdec : ∀ (m : Nat) (cs : List Value) (y : DataW H × List MemPlace), DataW.trod enc P W 0 (fun _ => true) held m e cs = some y → ∃ z, dec (cs.map (absV W)) = some z) :
    ∃ xs, listAt n dec (mirror W) (absV W sv) = some xs ∧ xs.length ≤ maxLen := by
  rcases Go.Deep.open_slice ht h with ⟨h1, _⟩ | ⟨a, len, cap, m, k, D, Pl, h1, _, hl, hm, hmm, _, hx⟩
  · simp only [List.cons.injEq, and_true] at h1
    subst h1
    exact ⟨[], by rw [absV_base rfl]; rfl, by simp⟩
  · simp only [List.cons.injEq, and_true] at h1
    subst h1
    simp only [if_true] at hmm
    subst hmm
    rw [hsz] at hx
    by_cases h0 : len = 0
    · subst h0
      exact ⟨[], by unfold absV; simp only [if_true]; rfl, by simp⟩
    · obtain ⟨c0, hc0, _⟩ := hx 0 (by omega)
      rw [Nat.zero_mul] at hc0
      obtain ⟨s1, s2, blk, s3, _, _⟩ := mir_at hn hc0
      have ev : absV W (.slice (some a) len m) = .slice (some a) len m := by unfold absV; simp only; rw [if_neg h0, if_pos ⟨s1, s2⟩]
      obtain ⟨b, off, sp⟩ := a
      replace s1 : sp = none := s1
      replace s3 : hget (mirror W) b = some blk := s3
      subst s1
      have cell : ∀ i, i < len → ∃ cs, off + i * n + n ≤ blk.cells.length ∧ (blk.cells.drop (off + i * n)).take n = cs.map (absV W) ∧ ∃ y, DataW.trod enc P W 0 (fun _ => true) held k e cs = some y := fun i hi => by
        obtain ⟨cs, hc, hy⟩ := hx i (by omega)
        obtain ⟨q1, q2, blk', q3, q4, q5⟩ := mir_at hn hc
        have ea : (⟨b, off, none⟩ : Addr).add (i * n) = ⟨b, off + i * n, none⟩ := add_none _ _ _
        rw [ea] at q3 q4 q5
        replace q3 : hget (mirror W) b = some blk' := q3
        replace q4 : off + i * n + n ≤ blk'.cells.length := q4
        replace q5 : (blk'.cells.drop (off + i * n)).take n = cs.map (absV W) := q5
        rw [s3] at q3; cases q3
        exact ⟨cs, q4, q5, _, hy⟩
      have hle : off + len * n ≤ blk.cells.length := by
        obtain ⟨_, q, _⟩ := cell (len - 1) (by omega)
        obtain ⟨l', rfl⟩ : ∃ l', len = l' + 1 := ⟨len - 1, by omega⟩
        simp only [Nat.add_sub_cancel] at q
        rw [Nat.succ_mul]; omega
      have la : lay n (mirror W) (.slice (some ⟨b, off, none⟩) len m) = some ((blk.cells.drop off).take (len * n)) := by
        obtain ⟨l', rfl⟩ : ∃ l', len = l' + 1 := ⟨len - 1, by omega⟩
        unfold lay
        simp only [s3]
        rw [if_pos ⟨hl, hle⟩]
      obtain ⟨xs, hxs⟩ := many_ex (sz := n) (dec := dec) len ((blk.cells.drop off).take (len * n)) (fun i hi => by
        obtain ⟨cs, q1, q2, y, q3⟩ := cell i hi
        obtain ⟨z, hz⟩ := hdec k cs y q3
        refine ⟨z, ?_⟩
        rw [List.drop_take, List.take_take, List.drop_drop]
        have : n ≤ len * n - i * n := by rw [← Nat.sub_mul]; exact Nat.le_mul_of_pos_left _ (by omega)
        rw [Nat.min_eq_left this, q2]
        exact hz)
      refine ⟨xs, ?_, ?_⟩
      · rw [ev]
        unfold listAt
        rw [la]
        exact hxs
      · rw [(many_get hxs).1]; omega
theorem kmatch_base : ∀ {ks : List Ki} {cs : List Value}, kmatch ks cs → cs.all isBase = true
  | [], [], _ => rfl
  | .b :: ks, cs, h => by
    match cs, h with
    | .bool _ :: r, h => simp only [List.all_cons, isBase, Bool.true_and]; exact kmatch_base (ks := ks) h
  | .i k :: ks, cs, h => by
    match cs, h with
    | .int _ _ :: r, h => simp only [List.all_cons, isBase, Bool.true_and]; exact kmatch_base (ks := ks) h.2
  | .s :: ks, cs, h => by
    match cs, h with
    | .string _ :: r, h => simp only [List.all_cons, isBase, Bool.true_and]; exact kmatch_base (ks := ks) h.2
end
end Go.Eng.K
end
section
set_option linter.unusedVariables false
set_option linter.unusedSimpArgs false
set_option linter.unusedSectionVars false
namespace Go.Eng
structure Pt where
  (s1 : Bool) (l1 : List UInt8) (s2 : Bool) (l2 : List UInt8) (s3 : Bool) (l3 : List UInt8) (s4 : Bool) (l4 : List UInt8)
deriving DecidableEq
namespace Pt
def cells (p : Pt) : List Value := [.bool p.s1, .string ⟨⟨p.l1⟩⟩, .bool p.s2, .string ⟨⟨p.l2⟩⟩, .bool p.s3, .string ⟨⟨p.l3⟩⟩, .bool p.s4, .string ⟨⟨p.l4⟩⟩]
def x (p : Pt) : Int := sv p.s1 p.l1
def y (p : Pt) : Int := sv p.s2 p.l2
def z (p : Pt) : Int := sv p.s3 p.l3
def w (p : Pt) : Int := sv p.s4 p.l4
def cmp (p q : Pt) : Int := cmp4 p.x p.y p.z p.w q.x q.y q.z q.w
def on (p q r : Pt) : Prop := flt p.x p.y p.z p.w q.x q.y q.z q.w r.x r.y r.z r.w
instance {p q r : Pt} : Decidable (on p q r) := by unfold on; infer_instance
def ok (p : Pt) : Prop := (p.l1.length ≤ 65536 ∧ p.l2.length ≤ 65536 ∧ p.l3.length ≤ 65536 ∧ p.l4.length ≤ 65536) ∧ 0 < p.w
instance {p : Pt} : Decidable p.ok := by unfold ok; infer_instance
def hi (p q : Pt) : Pt := if 0 < cmp p q then p else q
end Pt
end Go.Eng
end
section
set_option linter.unusedVariables false
set_option linter.unusedSimpArgs false
set_option linter.unusedSectionVars false
namespace Go.Eng
namespace Pt
def dflt : Pt := ⟨false, [], false, [], false, [], false, []⟩
def sz (k : Nat) (p : Pt) : Prop := p.l1.length ≤ k ∧ p.l2.length ≤ k ∧ p.l3.length ≤ k ∧ p.l4.length ≤ k
instance {k : Nat} {p : Pt} : Decidable (p.sz k) := by unfold sz; infer_instance
def c1 (p : Pt) : List Value := [.bool p.s1, .string ⟨⟨p.l1⟩⟩]
def c2 (p : Pt) : List Value := [.bool p.s2, .string ⟨⟨p.l2⟩⟩]
def c3 (p : Pt) : List Value := [.bool p.s3, .string ⟨⟨p.l3⟩⟩]
theorem g1 (p : Pt) : p.cells.take 2 = p.c1 := rfl
theorem g2 (p : Pt) : (p.cells.drop 2).take 2 = p.c2 := rfl
theorem g3 (p : Pt) : (p.cells.drop 4).take 2 = p.c3 := rfl
end Pt
def ptAt (l : List Pt) (i : Nat) : Pt := (l[i]?).getD Pt.dflt
def awx (a b : Pt) : Int := b.x * a.w - a.x * b.w
def awy (a b : Pt) : Int := b.y * a.w - a.y * b.w
def awz (a b : Pt) : Int := b.z * a.w - a.z * b.w
def lftZ (P a b x : Pt) : Int :=
  0 + P.x * (awy a b * awz a x - awz a b * awy a x) + P.y * (awz a b * awx a x - awx a b * awz a x) + P.z * (awx a b * awy a x - awy a b * awx a x)
def turnsP (P : Pt) (l : List Pt) : Prop := ∀ i, i < l.length → ∀ j, j < l.length → j ≠ i → j ≠ (i + 1) % l.length → 0 < lftZ P (ptAt l i) (ptAt l ((i + 1) % l.length)) (ptAt l j)
instance {P : Pt} {l : List Pt} : Decidable (turnsP P l) := by unfold turnsP; infer_instance
end Go.Eng
end
section
set_option linter.unusedVariables false
set_option linter.unusedSimpArgs false
set_option linter.unusedSectionVars false
namespace Go.Eng.K
open Go.Eng
section
variable {H : Type} {enc : TypeId × Value → H} {P : Program}
theorem trod_struct {w : World} {base : Nat} {spare : Nat → Bool} {held : Bool} {fuel : Nat} {t : TypeId} {cs : List Value} {x : DataW H × List MemPlace} {fs : Array Field} (hu : P.underlying t = some (.struct fs))
    (h : DataW.trod enc P w base spare held fuel t cs = some x) :
    cs.length = P.cellsOf t ∧ ∃ fuel' xs, fs.toList.mapM (fun f => DataW.trod enc P w base spare held fuel' f.type ((cs.drop f.offset).take (P.cellsOf f.type))) = some xs ∧ x = (.agg (xs.map (·.1)), xs.flatMap (·.2)) := by
  cases fuel with
  | zero => simp [DataW.trod] at h
  | succ fuel =>
    unfold DataW.trod at h
    rw [hu] at h
    simp only at h
    split at h
    case isFalse => cases h
    rename_i hl
    rw [Option.map_eq_some_iff] at h
    obtain ⟨xs, hx, rfl⟩ := h
    exact ⟨hl, fuel, xs, hx, rfl⟩
def sumL : List Nat → Nat
  | [] => 0
  | x :: r => x + sumL r
variable (bulk : DataW H → Nat) (b1 : ∀ b : List UInt8, b.length ≤ bulk (.lit (.string b))) (b2 : ∀ ps : List (DataW H), sumL (ps.map bulk) ≤ bulk (.agg ps))
include b1 b2 in
include b1 b2 in
end
end Go.Eng.K
end
section
set_option linter.unusedVariables false
set_option linter.unusedSimpArgs false
set_option linter.unusedSectionVars false
namespace Go.Eng.K
open Go.Eng Go.WideShapes
section
variable {H : Type} {enc : TypeId × Value → H} {P : Program}
theorem km_q {cs : List Value} (h : kmatch [.b, .s, .s] cs) : ∃ q : RQ, cs = q.cells := by
  match cs, h with
  | [.bool s, .string ⟨⟨n⟩⟩, .string ⟨⟨d⟩⟩], _ => exact ⟨⟨s, n, d⟩, rfl⟩
theorem km_i {k : IntKind} {cs : List Value} (h : kmatch [.i k] cs) : ∃ n, cs = [.int k n] := by
  match cs, h with
  | [.int k' n], h => obtain ⟨⟨rfl, _⟩, _⟩ := h; exact ⟨n, rfl⟩
theorem rats_trod {W : World} {fuel : Nat} {tv tq : TypeId} {sv : Value} {x : DataW H × List MemPlace} (hv : P.underlying tv = some (.slice tq)) (hq : kiTy P 20 tq = some [.b, .s, .s]) (hs : szOf P tq = some 3)
    (h : DataW.trod enc P W 0 (fun _ => true) true fuel tv [sv] = some x) : ∃ l, listAt 3 dec1 (mirror W) (absV W sv) = some l ∧ l.length ≤ maxLen :=
  mir_list (dec := dec1) (n := 3) hv (cellsOf_sz hs) (by omega) h (fun m cs y hy => by
    obtain ⟨km, _, _⟩ := plain_ty m 20 tq _ 3 hq hs rfl W 0 _ true _ y hy
    obtain ⟨q, eq⟩ := km_q km
    rw [absV_bases (kmatch_base km), eq]
    exact ⟨q, rfl⟩)
theorem five {l : List Value} (h : l.length = 5) : ∃ a b c d e, l = [a, b, c, d, e] := by
  match l, h with
  | [a, b, c, d, e], _ => exact ⟨a, b, c, d, e, rfl⟩
theorem open_eqs {W : World} {base : Nat} {t te tc tq ti : TypeId} {n1 n2 n3 g1 g2 g3 q1 q2 q3 : String} {b1 b2 b3 c1 c2 c3 : _} {v : Value} {d : DataW H} {ps : List MemPlace} (ht : P.underlying t = some (.slice te))
    (hu : P.underlying te = some (.struct #[⟨n1, tc, 0, b1, g1, q1, c1⟩, ⟨n2, tq, 1, b2, g2, q2, c2⟩, ⟨n3, ti, 4, b3, g3, q3, c3⟩])) (hce : P.cellsOf te = 5) (hv : P.underlying tc = some (.slice tq)) (hcc : P.cellsOf tc = 1)
    (hq : kiTy P 20 tq = some [.b, .s, .s]) (hs : szOf P tq = some 3) (hi : kiTy P 20 ti = some [.i .i64]) (hsi : szOf P ti = some 1)
    (hval : Value.okWide P W .any base t v) (h : DataW.Trod enc P W 0 (fun _ => true) true t v d ps) : ∃ l, decRows (mirror W) (absV W v) = some l ∧ l.length ≤ maxLen := by
  obtain ⟨a, len, cap, rfl⟩ := okWide_slice ht hval
  obtain ⟨fuel, h⟩ := h
  unfold decRows
  refine mir_list (dec := decEq (mirror W)) (n := 5) ht hce (by omega) h (fun m cs y hy => ?_)
  obtain ⟨hl, fuel', xs, hx, _⟩ := trod_struct hu hy
  rw [hce] at hl
  simp only [List.mapM_cons, List.mapM_nil, Option.bind_eq_bind, Option.bind_eq_some_iff, Option.pure_def, Option.some.injEq] at hx
  obtain ⟨y1, hy1, ys, ⟨y2, hy2, zs, ⟨y3, hy3, _⟩, _⟩, _⟩ := hx
  have e3 : P.cellsOf tq = 3 := cellsOf_sz hs
  have e1 : P.cellsOf ti = 1 := cellsOf_sz hsi
  rw [hcc] at hy1
  rw [e3] at hy2
  rw [e1] at hy3
  obtain ⟨k0, k1, k2, k3, k4, rfl⟩ := five hl
  have hy1 : DataW.trod enc P W 0 (fun _ => true) true fuel' tc [k0] = some y1 := hy1
  have hy2 : DataW.trod enc P W 0 (fun _ => true) true fuel' tq [k1, k2, k3] = some y2 := hy2
  have hy3 : DataW.trod enc P W 0 (fun _ => true) true fuel' ti [k4] = some y3 := hy3
  obtain ⟨l, hl1, _⟩ := rats_trod hv hq hs hy1
  obtain ⟨km, _, _⟩ := plain_ty fuel' 20 tq _ 3 hq hs rfl W 0 _ true _ y2 hy2
  obtain ⟨q, eq⟩ := km_q km
  obtain ⟨ki, _, _⟩ := plain_ty fuel' 20 ti _ 1 hi hsi rfl W 0 _ true _ y3 hy3
  obtain ⟨n, en⟩ := km_i ki
  simp only [RQ.cells, List.cons.injEq, and_true] at eq en
  obtain ⟨rfl, rfl, rfl⟩ := eq
  subst en
  refine ⟨⟨l, q, n⟩, ?_⟩
  simp only [List.map_cons, List.map_nil]
  rw [absV_base (v := .bool q.s) rfl, absV_base (v := .string ⟨⟨q.n⟩⟩) rfl, absV_base (v := .string ⟨⟨q.d⟩⟩) rfl, absV_base (v := .int .i64 n) rfl]
  exact decEq_of (e := ⟨l, q, n⟩) hl1
end
end Go.Eng.K
end
