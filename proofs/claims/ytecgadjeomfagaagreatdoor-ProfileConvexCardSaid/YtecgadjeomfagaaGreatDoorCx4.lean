/-
  A part of the proof: the machine, the contracts of the functions and the plain laws, merged from smaller texts.
-/
import Derived.Test.YtecgadjeomfagaaGreatDoorCx3
section
set_option linter.unusedVariables false
set_option linter.unusedSimpArgs false
set_option linter.unusedSectionVars false
namespace Go.Eng
theorem lexlt_irrefl (a : P2) : ¬ lexlt a a := by unfold lexlt; grind
theorem lexlt_trans {a b c : P2} (h : lexlt a b) (k : lexlt b c) : lexlt a c := by unfold lexlt at *; grind
theorem lexlt_tri (a b : P2) : lexlt a b ∨ a = b ∨ lexlt b a := by
  unfold lexlt
  by_cases h1 : a.1 = b.1
  · by_cases h2 : a.2 = b.2
    · exact .inr (.inl (Prod.ext h1 h2))
    · rcases Rat.le_total (a := a.2) (b := b.2) with x | x
      · exact .inl (.inr ⟨h1, by grind⟩)
      · exact .inr (.inr (.inr ⟨h1.symm, by grind⟩))
  · rcases Rat.le_total (a := a.1) (b := b.1) with x | x
    · exact .inl (.inl (by grind))
    · exact .inr (.inr (.inl (by grind)))
def p0 : P2 := (0, 0)
def ptv (l : List P2) (i : Nat) : P2 := (l[i]?).getD p0
theorem ptv_some {l : List P2} {i : Nat} (h : i < l.length) : l[i]? = some (ptv l i) := by unfold ptv; rw [List.getElem?_eq_getElem h]; rfl
theorem ptv_mem {l : List P2} {i : Nat} (h : i < l.length) : ptv l i ∈ l := List.mem_of_getElem? (ptv_some h)
def mnI (l : List P2) : Nat → Nat
  | 0 => 0
  | k + 1 => if cmpP (ptv l k) (ptv l (mnI l k)) < 0 then k else mnI l k
theorem mnI_spec (l : List P2) : ∀ k, 0 < k → mnI l k < k ∧ ∀ j, j < k → ¬ lexlt (ptv l j) (ptv l (mnI l k))
  | 0, h => absurd h (by omega)
  | k + 1, _ => by
    unfold mnI
    by_cases k0 : k = 0
    · subst k0
      have : ¬ cmpP (ptv l 0) (ptv l (mnI l 0)) < 0 := fun x => lexlt_irrefl _ (cmpP_lt.1 x)
      rw [if_neg this]
      refine ⟨by show 0 < 0 + 1; omega, fun j hj => ?_⟩
      have : j = 0 := by omega
      subst this; exact lexlt_irrefl _
    · obtain ⟨h1, h2⟩ := mnI_spec l k (by omega)
      split
      · rename_i c
        have c := cmpP_lt.1 c
        refine ⟨by omega, fun j hj x => ?_⟩
        by_cases e : j = k
        · subst e; exact lexlt_irrefl _ x
        · exact h2 j (by omega) (lexlt_trans x c)
      · rename_i c
        refine ⟨by omega, fun j hj => ?_⟩
        by_cases e : j = k
        · subst e; exact fun x => c (cmpP_lt.2 x)
        · exact h2 j (by omega)
def rmn (l : List P2) : List P2 := l.drop (mnI l l.length) ++ l.take (mnI l l.length)
def Least (l r : List P2) : Prop := ∃ A x B, l = A ++ x :: B ∧ r = x :: B ++ A ∧ ∀ y ∈ l, ¬ lexlt y x
theorem rmn_least {l : List P2} (h : l ≠ []) : Least l (rmn l) := by
  have hp := List.length_pos_iff.2 h
  obtain ⟨h1, h2⟩ := mnI_spec l l.length hp
  have e : l.drop (mnI l l.length) = ptv l (mnI l l.length) :: l.drop (mnI l l.length + 1) := by
    rw [List.drop_eq_getElem_cons h1]
    have := ptv_some h1
    rw [List.getElem?_eq_getElem h1] at this
    rw [Option.some.inj this]
  refine ⟨l.take (mnI l l.length), ptv l (mnI l l.length), l.drop (mnI l l.length + 1), ?_, ?_, fun y hy => ?_⟩
  · rw [← e, List.take_append_drop]
  · unfold rmn
    rw [e]
  · obtain ⟨j, hj⟩ := List.getElem?_of_mem hy
    have hjl := (List.getElem?_eq_some_iff.1 hj).1
    have := h2 j hjl
    rw [ptv_some hjl] at hj
    rw [← Option.some.inj hj]; exact this
theorem Least.uniq {l r r' : List P2} (nd : l.Nodup) (h : Least l r) (k : Least l r') : r = r' := by
  obtain ⟨A, x, B, e1, e2, e3⟩ := h
  obtain ⟨C, y, D, f1, f2, f3⟩ := k
  have hx : x ∈ l := by rw [e1]; simp
  have hy : y ∈ l := by rw [f1]; simp
  have : x = y := by
    rcases lexlt_tri x y with z | z | z
    · exact absurd z (f3 x hx)
    · exact z
    · exact absurd z (e3 y hy)
  subst this
  have hA : A = C ∧ B = D := by
    clear e2 e3 f2 f3 hx hy
    subst e1
    induction A generalizing C with
    | nil =>
      cases C with
      | nil => simp at f1; exact ⟨rfl, f1⟩
      | cons c C =>
        exfalso
        simp only [List.nil_append, List.cons_append, List.cons.injEq] at f1
        obtain ⟨e, f⟩ := f1
        simp only [List.nil_append, List.nodup_cons] at nd
        exact nd.1 (by rw [f]; simp)
    | cons a A ih =>
      cases C with
      | nil =>
        exfalso
        simp only [List.nil_append, List.cons_append, List.cons.injEq] at f1
        obtain ⟨e, f⟩ := f1
        simp only [List.cons_append, List.nodup_cons] at nd
        exact nd.1 (by rw [e]; simp)
      | cons c C =>
        simp only [List.cons_append, List.cons.injEq] at f1
        simp only [List.cons_append, List.nodup_cons] at nd
        obtain ⟨e, f⟩ := f1
        obtain ⟨g1, g2⟩ := ih C nd.2 f
        exact ⟨by rw [e, g1], g2⟩
  rw [e2, f2, hA.1, hA.2]
theorem split_two {A C D : List P2} {x : P2} {B : List P2} (h : A ++ x :: B = C ++ D) : (∃ E, C = A ++ x :: E ∧ B = E ++ D) ∨ (∃ E, A = C ++ E ∧ D = E ++ x :: B) := by
  rcases List.append_eq_append_iff.1 h with ⟨E, e1, e2⟩ | ⟨E, e1, e2⟩
  · cases E with
    | nil => exact .inr ⟨[], by simpa using e1.symm, by simpa using e2.symm⟩
    | cons y E =>
      simp only [List.cons_append, List.cons.injEq] at e2
      exact .inl ⟨E, by rw [e1, e2.1], e2.2⟩
  · exact .inr ⟨E, e1, e2⟩
theorem Least.rot {C D r : List P2} (h : Least (C ++ D) r) : Least (D ++ C) r := by
  obtain ⟨A, x, B, e1, e2, e3⟩ := h
  have h3 : ∀ y ∈ D ++ C, ¬ lexlt y x := fun y hy => e3 y (List.perm_append_comm.mem_iff.1 hy)
  rcases split_two e1.symm with ⟨E, f1, f2⟩ | ⟨E, f1, f2⟩
  · refine ⟨D ++ A, x, E, by rw [f1, List.append_assoc], ?_, h3⟩
    rw [e2, f2]; simp
  · refine ⟨E, x, B ++ C, by rw [f2]; simp, ?_, h3⟩
    rw [e2, f1]; simp
theorem rmn_rot {A B : List P2} (nd : (A ++ B).Nodup) : rmn (A ++ B) = rmn (B ++ A) := by
  by_cases h : A ++ B = []
  · rw [h]
    simp at h
    rw [h.1, h.2]; rfl
  · have h' : B ++ A ≠ [] := fun e => h (by simp at e ⊢; exact ⟨e.2, e.1⟩)
    exact (rmn_least h).uniq nd (rmn_least h').rot
theorem rmn_parts (l : List P2) : ∃ A B, l = A ++ B ∧ rmn l = B ++ A := ⟨_, _, (List.take_append_drop _ _).symm, rfl⟩
theorem rmn_rmn {l : List P2} (nd : l.Nodup) : rmn (rmn l) = rmn l := by
  obtain ⟨A, B, e1, e2⟩ := rmn_parts l
  have nd' := nd
  rw [e1] at nd'
  rw [e2, ← rmn_rot nd', ← e1, e2]
def ori (b : List P2) : List P2 := if ar2 b < 0 then b.reverse else b
def ncf (l : List P2) : List P2 := rmn (ori (bent l))
theorem Same2.rmn {l : List P2} (h : Simp l) : Same2 l (rmn l) := by
  obtain ⟨A, B, e1, e2⟩ := rmn_parts l
  rw [e2]
  conv => lhs; rw [e1]
  exact Same2.rot (e1 ▸ h)
theorem AllB.rmn {l : List P2} (h : AllB l) : AllB (rmn l) := by
  obtain ⟨A, B, e1, e2⟩ := rmn_parts l
  rw [e2]
  exact (e1 ▸ h : AllB (A ++ B)).rot
theorem ori_ar2 (b : List P2) : 0 ≤ ar2 (ori b) := by
  unfold ori
  split
  · rw [ar2_rev]; grind
  · grind
theorem ori_ori {b : List P2} (h : 0 ≤ ar2 b) : ori b = b := if_neg (by grind)
theorem Simp.ncf {l : List P2} (h : Simp l) : Simp (ncf l) ∧ AllB (ncf l) ∧ 0 ≤ ar2 (ncf l) ∧ (ar2 (ncf l) = ar2 l ∨ ar2 (ncf l) = - ar2 l) ∧ (∀ x, onL (ncf l) x = onL l x) ∧ (∀ x, xs x (ncf l) = xs x l) ∧ ncf (ncf l) = ncf l := by
  obtain ⟨S, al⟩ := Simp.chain _ rfl h
  have S2 : Simp (ori (bent l)) := by unfold ori; split; exact S.simp.rev; exact S.simp
  have al2 : AllB (ori (bent l)) := by unfold ori; split; exact al.rev; exact al
  have ar : ar2 (ori (bent l)) = ar2 l ∨ ar2 (ori (bent l)) = - ar2 l := by
    unfold ori; split
    · exact .inr (by rw [ar2_rev, S.ar])
    · exact .inl S.ar
  have on : ∀ x, onL (ori (bent l)) x = onL l x := fun x => by
    unfold ori; split
    · rw [onL_rev, S.on]
    · exact S.on x
  have xq : ∀ x, xs x (ori (bent l)) = xs x l := fun x => by
    unfold ori; split
    · rw [xs_rev, S.xs]
    · exact S.xs x
  have g := ori_ar2 (bent l)
  have R := Same2.rmn S2
  have nb := al2.rmn
  refine ⟨R.simp, nb, by unfold Go.Eng.ncf; rw [R.ar]; exact g, by unfold Go.Eng.ncf; rw [R.ar]; exact ar, fun x => (R.on x).trans (on x), fun x => (R.xs x).trans (xq x), ?_⟩
  show Go.Eng.rmn (ori (bent (Go.Eng.rmn (ori (bent l))))) = Go.Eng.rmn (ori (bent l))
  rw [nb.bent, ori_ori (by rw [R.ar]; exact g), rmn_rmn S2.nd]
end Go.Eng
end
section
set_option linter.unusedVariables false
set_option linter.unusedSimpArgs false
set_option linter.unusedSectionVars false
namespace Go.Eng
theorem onB_false {a b x : P2} : onB a b x = false ↔ x ≠ a ∧ x ≠ b ∧ ¬ opn a b x := by
  rw [← Bool.not_eq_true, onB_iff]
  constructor
  · intro h; exact ⟨fun e => h (.inl e), fun e => h (.inr (.inl e)), fun e => h (.inr (.inr e))⟩
  · rintro ⟨h1, h2, h3⟩ (h | h | h)
    · exact h1 h
    · exact h2 h
    · exact h3 h
def meetB (a b c d : P2) : Bool := onB a b c || (onB a b d || (onB c d a || (onB c d b || (decide (sg (cr a b c) * sg (cr a b d) < 0) && decide (sg (cr c d a) * sg (cr c d b) < 0)))))
theorem sg_mul_neg {p q : Rat} : sg p * sg q < 0 ↔ (0 < p ∧ q < 0) ∨ (p < 0 ∧ 0 < q) := by
  rcases sg3 p with ⟨x, y⟩ | ⟨x, y⟩ | ⟨x, y⟩ <;> rcases sg3 q with ⟨x', y'⟩ | ⟨x', y'⟩ | ⟨x', y'⟩ <;> rw [y, y'] <;> constructor <;> intro h <;> first | omega | (exfalso; omega) | grind | (exfalso; grind)
theorem at2_line (a b : P2) (g e s : Rat) : at2 (at2 a b g) (at2 a b e) s = at2 a b (g + s * (e - g)) := by unfold at2; ext <;> simp <;> grind
theorem line_opn {a b : P2} {g e t : Rat} (h : g < t ∧ t < e) : opn (at2 a b g) (at2 a b e) (at2 a b t) := by
  have n : e - g ≠ 0 := by grind
  refine ⟨(t - g) / (e - g), by rw [Rat.lt_div_iff (by grind)]; grind, by rw [Rat.div_lt_iff (by grind)]; grind, ?_⟩
  rw [at2_line, Rat.div_mul_cancel n]
  congr 1; grind
theorem cr_line (a b : P2) (g e t : Rat) : cr (at2 a b g) (at2 a b e) (at2 a b t) = 0 := by unfold cr at2; grind
theorem opn2_meet {a b c d x : P2} (hab : a ≠ b) (hcd : c ≠ d) (h : opn a b x) (k : opn c d x) : meetB a b c d = true := by
  obtain ⟨t, t0, t1, rfl⟩ := h
  obtain ⟨s, s0, s1, ex⟩ := k
  have hP : (1 - s) * cr a b c + s * cr a b d = 0 := by rw [← cr_lin, ← ex, cr_at2]
  have hR : (1 - t) * cr c d a + t * cr c d b = 0 := by rw [← cr_lin, ex, cr_at2]
  have s2 : 0 < 1 - s := by grind
  have t2 : 0 < 1 - t := by grind
  by_cases P0 : cr a b c = 0
  · have Q0 : cr a b d = 0 := by
      rw [P0, Rat.mul_zero, Rat.zero_add] at hP
      rcases Rat.mul_eq_zero.1 hP with z | z
      · grind
      · exact z
    obtain ⟨g, rfl⟩ := col_at2 hab P0
    obtain ⟨e, rfl⟩ := col_at2 hab Q0
    rw [at2_line] at ex
    have et := at2_inj hab ex
    have on1 : ∀ {r : Rat}, 0 ≤ r → r ≤ 1 → onB a b (at2 a b r) = true := fun {r} h1 h2 => by
      rw [onB_iff]
      by_cases e0 : r = 0
      · exact .inl (by rw [e0, at2_0])
      · by_cases e1 : r = 1
        · exact .inr (.inl (by rw [e1, at2_1]))
        · exact .inr (.inr ⟨r, by grind, by grind, rfl⟩)
    unfold meetB
    simp only [Bool.or_eq_true]
    by_cases c1 : 0 ≤ g ∧ g ≤ 1
    · exact .inl (on1 c1.1 c1.2)
    by_cases c2 : 0 ≤ e ∧ e ≤ 1
    · exact .inr (.inl (on1 c2.1 c2.2))
    refine .inr (.inr (.inl ?_))
    rw [onB_iff]
    refine .inr (.inr ?_)
    have g1 := Rat.mul_pos s0 s2
    rcases Rat.le_total (a := g) (b := e) with z | z
    · have m1 := Rat.mul_nonneg (a := s) (b := e - g) (by grind) (by grind)
      have m2 := Rat.mul_nonneg (a := 1 - s) (b := e - g) (by grind) (by grind)
      have := line_opn (a := a) (b := b) (g := g) (e := e) (t := 0) ⟨by grind, by grind⟩
      rw [at2_0] at this; exact this
    · have m1 := Rat.mul_nonneg (a := s) (b := g - e) (by grind) (by grind)
      have m2 := Rat.mul_nonneg (a := 1 - s) (b := g - e) (by grind) (by grind)
      have := line_opn (a := a) (b := b) (g := e) (e := g) (t := 0) ⟨by grind, by grind⟩
      rw [at2_0] at this
      exact opn_swap.1 this
  · have R0 : cr c d a ≠ 0 := by
      intro R0
      have S0 : cr c d b = 0 := by
        rw [R0, Rat.mul_zero, Rat.zero_add] at hR
        rcases Rat.mul_eq_zero.1 hR with z | z
        · grind
        · exact z
      obtain ⟨g, rfl⟩ := col_at2 hcd R0
      obtain ⟨e, rfl⟩ := col_at2 hcd S0
      have := cr_line c d g e 0
      rw [at2_0] at this
      exact P0 this
    have opp : ∀ {u p q : Rat}, 0 < u → 0 < 1 - u → (1 - u) * p + u * q = 0 → p ≠ 0 → (0 < p ∧ q < 0) ∨ (p < 0 ∧ 0 < q) := by
      intro u p q u0 u1 hh np
      by_cases pp : 0 < p
      · refine .inl ⟨pp, ?_⟩
        have := Rat.mul_pos u1 pp
        have : u * q < 0 := by grind
        exact (Rat.mul_neg_iff_of_pos_left u0).1 this
      · have pp : p < 0 := by grind
        refine .inr ⟨pp, ?_⟩
        have := (Rat.mul_neg_iff_of_pos_left u1).2 pp
        have : 0 < u * q := by grind
        exact (Rat.mul_pos_iff_of_pos_left u0).1 this
    unfold meetB
    simp only [Bool.or_eq_true, Bool.and_eq_true, decide_eq_true_eq]
    exact .inr (.inr (.inr (.inr ⟨sg_mul_neg.2 (opp s0 s2 hP P0), sg_mul_neg.2 (opp t0 t2 hR R0)⟩)))
theorem onB_a (a b : P2) : onB a b a = true := onB_iff.2 (.inl rfl)
theorem onB_b (a b : P2) : onB a b b = true := onB_iff.2 (.inr (.inl rfl))
theorem meet_iff {a b c d : P2} (hab : a ≠ b) (hcd : c ≠ d) : meetB a b c d = true ↔ ∃ x, onB a b x = true ∧ onB c d x = true := by
  constructor
  · intro h
    unfold meetB at h
    simp only [Bool.or_eq_true, Bool.and_eq_true, decide_eq_true_eq] at h
    rcases h with h | h | h | h | ⟨h1, h2⟩
    · exact ⟨c, h, onB_a _ _⟩
    · exact ⟨d, h, onB_b _ _⟩
    · exact ⟨a, onB_a _ _, h⟩
    · exact ⟨b, onB_b _ _, h⟩
    · obtain ⟨x, x1, x2⟩ := cross_pt (sg_mul_neg.1 h1) (sg_mul_neg.1 h2)
      exact ⟨x, onB_iff.2 (.inr (.inr x1)), onB_iff.2 (.inr (.inr x2))⟩
  · rintro ⟨x, h, k⟩
    rcases onB_iff.1 h with rfl | rfl | h'
    · unfold meetB; simp [k]
    · unfold meetB; simp [k]
    · rcases onB_iff.1 k with rfl | rfl | k'
      · unfold meetB; simp [h]
      · unfold meetB; simp [h]
      · exact opn2_meet hab hcd h' k'
theorem fold_on {a b c x : P2} (h : opn a b x) (k : opn b c x) : onB a b c = true ∨ onB b c a = true := by
  obtain ⟨s, s0, s1, ex⟩ := opn_swap.1 h
  obtain ⟨r, r0, r1, e⟩ := k
  rw [ex] at e
  have ns : s ≠ 0 := by grind
  have nr : r ≠ 0 := by grind
  unfold at2 at e
  injection e with e1 e2
  rcases Rat.le_total (a := s) (b := r) with z | z
  · left
    rw [onB_swap, onB_iff]
    have ec : c = at2 b a (s / r) := by
      have q := Rat.div_mul_cancel (a := s) nr
      generalize s / r = w at *
      have cancel : ∀ {y : Rat}, r * y = 0 → y = 0 := fun {y} hy => by
        rcases Rat.mul_eq_zero.1 hy with p | p
        · exact absurd p nr
        · exact p
      unfold at2
      refine Prod.ext ?_ ?_
      · have := cancel (y := c.1 - (b.1 + w * (a.1 - b.1))) (by grind)
        show c.1 = b.1 + w * (a.1 - b.1); grind
      · have := cancel (y := c.2 - (b.2 + w * (a.2 - b.2))) (by grind)
        show c.2 = b.2 + w * (a.2 - b.2); grind
    by_cases e : s = r
    · refine .inr (.inl ?_)
      rw [ec, e, show r / r = 1 by rw [Rat.div_def]; exact Rat.mul_inv_cancel _ nr, at2_1]
    · exact .inr (.inr ⟨s / r, by rw [Rat.lt_div_iff (by grind)]; grind, by rw [Rat.div_lt_iff (by grind)]; grind, ec⟩)
  · right
    rw [onB_iff]
    have ec : a = at2 b c (r / s) := by
      have q := Rat.div_mul_cancel (a := r) ns
      generalize r / s = w at *
      have cancel : ∀ {y : Rat}, s * y = 0 → y = 0 := fun {y} hy => by
        rcases Rat.mul_eq_zero.1 hy with p | p
        · exact absurd p ns
        · exact p
      unfold at2
      refine Prod.ext ?_ ?_
      · have := cancel (y := a.1 - (b.1 + w * (c.1 - b.1))) (by grind)
        show a.1 = b.1 + w * (c.1 - b.1); grind
      · have := cancel (y := a.2 - (b.2 + w * (c.2 - b.2))) (by grind)
        show a.2 = b.2 + w * (c.2 - b.2); grind
    by_cases e : r = s
    · refine .inr (.inl ?_)
      rw [ec, e, show s / s = 1 by rw [Rat.div_def]; exact Rat.mul_inv_cancel _ ns, at2_1]
    · exact .inr (.inr ⟨r / s, by rw [Rat.lt_div_iff (by grind)]; grind, by rw [Rat.div_lt_iff (by grind)]; grind, ec⟩)
def vt (l : List P2) (i : Nat) : P2 := ptv l (i % l.length)
theorem vt_lt {l : List P2} {i : Nat} (h : i < l.length) : vt l i = ptv l i := by unfold vt; rw [Nat.mod_eq_of_lt h]
theorem vt_add (l : List P2) (i : Nat) : vt l (i + l.length) = vt l i := by unfold vt; rw [Nat.add_mod_right]
theorem vt_sub {l : List P2} {i : Nat} (h : l.length ≤ i) : vt l i = vt l (i - l.length) := by rw [← vt_add l (i - l.length), Nat.sub_add_cancel h]
theorem cor_at {l : List P2} {i : Nat} (h : i < l.length) : (cor l)[i]? = some (vt l (i + l.length - 1), vt l i, vt l (i + 1)) := by
  cases l with
  | nil => exact absurd h (Nat.not_lt_zero _)
  | cons a t =>
    show (trp a (lst a t) a t)[i]? = _
    rw [cor_get _ _ _ _ _ h]
    have lastE : ∀ (a : P2) (t : List P2), ptv (a :: t) t.length = lst a t := by
      intro a t
      induction t generalizing a with
      | nil => rfl
      | cons b t ih => show ptv (b :: t) t.length = _; rw [ih]; rfl
    have g0 : ptv (a :: t) 0 = a := rfl
    have gd : ∀ {j}, j < (a :: t).length → ((a :: t)[j]?).getD a = ptv (a :: t) j := fun {j} hj => by rw [ptv_some hj]; rfl
    have hn : (a :: t).length = t.length + 1 := rfl
    refine congrArg some (Prod.ext ?_ (Prod.ext ?_ ?_))
    · show (if i = 0 then _ else _) = vt _ _
      by_cases c : i = 0
      · rw [if_pos c, vt_lt (by omega), c, show 0 + (a :: t).length - 1 = t.length by omega, lastE]
      · rw [if_neg c, gd (by omega), vt_sub (by omega), vt_lt (by omega)]
        congr 1; omega
    · show _ = vt _ _
      rw [gd h, vt_lt h]
    · show ((a :: t)[i + 1]?).getD a = vt _ _
      by_cases c : i + 1 < (a :: t).length
      · rw [gd c, vt_lt c]
      · rw [List.getElem?_eq_none (by omega), vt_sub (by omega), show i + 1 - (a :: t).length = 0 by omega, vt_lt (by omega), g0]; rfl
theorem edg_len (l : List P2) : (edg l).length = l.length := by unfold edg; rw [List.length_map, cor_len]
theorem edg_at {l : List P2} {i : Nat} (h : i < l.length) : (edg l)[i]? = some (vt l i, vt l (i + 1)) := by
  unfold edg
  rw [List.getElem?_map, cor_at h]; rfl
theorem edg_mem {l : List P2} {i : Nat} (h : i < l.length) : (vt l i, vt l (i + 1)) ∈ edg l := List.mem_of_getElem? (edg_at h)
theorem mem_edg {l : List P2} {e : P2 × P2} (h : e ∈ edg l) : ∃ i, i < l.length ∧ e = (vt l i, vt l (i + 1)) := by
  obtain ⟨i, hi⟩ := List.getElem?_of_mem h
  have hl := (List.getElem?_eq_some_iff.1 hi).1
  rw [edg_len] at hl
  rw [edg_at hl] at hi
  exact ⟨i, hl, (Option.some.inj hi).symm⟩
theorem mem_vt {l : List P2} {v : P2} (h : v ∈ l) : ∃ i, i < l.length ∧ v = vt l i := by
  obtain ⟨i, hi⟩ := List.getElem?_of_mem h
  have hl := (List.getElem?_eq_some_iff.1 hi).1
  rw [ptv_some hl] at hi
  exact ⟨i, hl, by rw [vt_lt hl]; exact (Option.some.inj hi).symm⟩
theorem vt_mem {l : List P2} (h : 0 < l.length) (i : Nat) : vt l i ∈ l := ptv_mem (Nat.mod_lt _ h)
def profP (l : List P2) : Prop := 3 ≤ l.length ∧ ∀ i, i < l.length → cmpP (vt l i) (vt l (i + 1)) ≠ 0 ∧ onB (vt l i) (vt l (i + 1)) (vt l (i + 2)) = false ∧ onB (vt l (i + 1)) (vt l (i + 2)) (vt l i) = false ∧
  ∀ k, k < i + l.length - 1 → i + 2 ≤ k → meetB (vt l i) (vt l (i + 1)) (vt l k) (vt l (k + 1)) = false
instance {l : List P2} : Decidable (profP l) := by unfold profP; infer_instance
theorem Simp.inj {l : List P2} (h : Simp l) {i j : Nat} (hi : i < l.length) (h1 : i < j) (h2 : j < i + l.length) : vt l i ≠ vt l j := by
  have key : ∀ i j, i < j → j < l.length → ptv l i ≠ ptv l j := fun i j hij hj => by
    have := (List.pairwise_iff_getElem.1 h.nd) i j (by omega) hj hij
    have a := ptv_some (l := l) (i := i) (by omega)
    have b := ptv_some (l := l) (i := j) hj
    rw [List.getElem?_eq_getElem (by omega)] at a b
    rw [← Option.some.inj a, ← Option.some.inj b]; exact this
  by_cases c : j < l.length
  · rw [vt_lt hi, vt_lt c]; exact key i j h1 c
  · rw [vt_sub (i := j) (by omega), vt_lt hi, vt_lt (by omega)]
    exact fun e => key _ _ (by omega) hi e.symm
theorem Simp.ooi {l : List P2} (h : Simp l) {i j : Nat} (hi : i < l.length) (hj : j < l.length) (ne : i ≠ j) (x : P2) : ¬ (opn (vt l i) (vt l (i + 1)) x ∧ opn (vt l j) (vt l (j + 1)) x) := by
  have key : ∀ i j, i < j → j < l.length → ∀ x, ¬ (opn (vt l i) (vt l (i + 1)) x ∧ opn (vt l j) (vt l (j + 1)) x) := fun i j hij hj x => by
    have := (List.pairwise_iff_getElem.1 h.oo) i j (by rw [edg_len]; omega) (by rw [edg_len]; exact hj) hij x
    have a := edg_at (l := l) (i := i) (by omega)
    have b := edg_at (l := l) (i := j) hj
    rw [List.getElem?_eq_getElem (by rw [edg_len]; omega)] at a b
    rw [Option.some.inj a, Option.some.inj b] at this; exact this
  rcases Nat.lt_or_gt_of_ne ne with c | c
  · exact key i j c hj x
  · exact fun ⟨a, b⟩ => key j i c hi x ⟨b, a⟩
theorem Simp.prof {l : List P2} (h : Simp l) : profP l := by
  have n3 := h.n3
  have vo : ∀ i j, i < l.length → ¬ opn (vt l i) (vt l (i + 1)) (vt l j) := fun i j hi => h.vo _ (vt_mem (by omega) j) _ (edg_mem hi)
  have vo' : ∀ k j, ¬ opn (vt l k) (vt l (k + 1)) (vt l j) := fun k j => by
    have hk : k % l.length < l.length := Nat.mod_lt _ (by omega)
    have e1 : vt l k = vt l (k % l.length) := by unfold vt; rw [Nat.mod_mod]
    have e2 : vt l (k + 1) = vt l (k % l.length + 1) := by unfold vt; rw [Nat.mod_add_mod]
    rw [e1, e2]
    exact vo _ j hk
  have ne' : ∀ i j, i < j → j < i + l.length → vt l i ≠ vt l j := fun i j h1 h2 => by
    have hi : i % l.length < l.length := Nat.mod_lt _ (by omega)
    have e1 : vt l i = vt l (i % l.length) := by unfold vt; rw [Nat.mod_mod]
    have e2 : vt l j = vt l (i % l.length + (j - i)) := by
      unfold vt
      rw [Nat.mod_add_mod, Nat.add_sub_cancel' (by omega)]
    rw [e1, e2]
    exact h.inj hi (by omega) (by omega)
  refine ⟨n3, fun i hi => ⟨fun e => ne' i (i + 1) (by omega) (by omega) (cmpP_zero.1 e), ?_, ?_, fun k k1 k2 => ?_⟩⟩
  · exact onB_false.2 ⟨fun e => ne' i (i + 2) (by omega) (by omega) e.symm, fun e => ne' (i + 1) (i + 2) (by omega) (by omega) e.symm, vo' i _⟩
  · exact onB_false.2 ⟨ne' i (i + 1) (by omega) (by omega), ne' i (i + 2) (by omega) (by omega), vo' (i + 1) _⟩
  · rw [← Bool.not_eq_true, meet_iff (ne' i (i + 1) (by omega) (by omega)) (ne' k (k + 1) (by omega) (by omega))]
    rintro ⟨x, hx, hy⟩
    rcases onB_iff.1 hx with rfl | rfl | hx
    · rcases onB_iff.1 hy with e | e | hy
      · exact ne' i k (by omega) (by omega) e
      · exact ne' i (k + 1) (by omega) (by omega) e
      · exact vo' k _ hy
    · rcases onB_iff.1 hy with e | e | hy
      · exact ne' (i + 1) k (by omega) (by omega) e
      · exact ne' (i + 1) (k + 1) (by omega) (by omega) e
      · exact vo' k _ hy
    · rcases onB_iff.1 hy with rfl | rfl | hy
      · exact vo' i _ hx
      · exact vo' i _ hx
      · by_cases c : k < l.length
        · exact h.ooi hi c (by omega) x ⟨hx, hy⟩
        · rw [vt_sub (i := k) (by omega), vt_sub (i := k + 1) (by omega), show k + 1 - l.length = k - l.length + 1 by omega] at hy
          exact h.ooi hi (j := k - l.length) (by omega) (by omega) x ⟨hx, hy⟩
theorem prof_simp {l : List P2} (h : profP l) : Simp l := by
  obtain ⟨n3, H⟩ := h
  have A1 : ∀ i, vt l i ≠ vt l (i + 1) := by
    intro i
    induction i using Nat.strongRecOn with
    | _ i ih =>
      by_cases c : i < l.length
      · exact fun e => (H i c).1 (cmpP_zero.2 e)
      · have := ih (i - l.length) (by omega)
        rw [vt_sub (i := i) (by omega), vt_sub (i := i + 1) (by omega), show i + 1 - l.length = i - l.length + 1 by omega]; exact this
  have A2 : ∀ i, onB (vt l i) (vt l (i + 1)) (vt l (i + 2)) = false ∧ onB (vt l (i + 1)) (vt l (i + 2)) (vt l i) = false := by
    intro i
    induction i using Nat.strongRecOn with
    | _ i ih =>
      by_cases c : i < l.length
      · exact ⟨(H i c).2.1, (H i c).2.2.1⟩
      · have := ih (i - l.length) (by omega)
        rw [vt_sub (i := i) (by omega), vt_sub (i := i + 1) (by omega), vt_sub (i := i + 2) (by omega), show i + 1 - l.length = i - l.length + 1 by omega, show i + 2 - l.length = i - l.length + 2 by omega]; exact this
  have M : ∀ i k, i < l.length → k < i + l.length - 1 → i + 2 ≤ k → ∀ x, ¬ (onB (vt l i) (vt l (i + 1)) x = true ∧ onB (vt l k) (vt l (k + 1)) x = true) := fun i k hi k1 k2 x hx => by
    have := (H i hi).2.2.2 k k1 k2
    rw [(meet_iff (A1 i) (A1 k)).2 ⟨x, hx⟩] at this
    cases this
  have inj : ∀ i j, i < j → j < l.length → vt l i ≠ vt l j := by
    intro i j hij hj e
    by_cases c1 : j = i + 1
    · subst c1; exact A1 i e
    by_cases c2 : j = i + l.length - 1
    · have : vt l (j + 1) = vt l i := by rw [show j + 1 = i + l.length by omega, vt_add]
      exact A1 j (e.symm.trans this.symm)
    · exact M i j (by omega) (by omega) (by omega) (vt l i) ⟨onB_a _ _, by rw [e]; exact onB_a _ _⟩
  have vo : ∀ i j, i < l.length → i ≤ j → j < i + l.length → ¬ opn (vt l i) (vt l (i + 1)) (vt l j) := by
    intro i j hi h1 h2 hx
    by_cases c0 : j = i
    · subst c0; exact opn_a (A1 j) hx
    by_cases c1 : j = i + 1
    · subst c1; exact opn_b (A1 i) hx
    by_cases c2 : j = i + 2
    · subst c2; exact (onB_false.1 (A2 i).1).2.2 hx
    by_cases c3 : j = i + l.length - 1
    · have a := (A2 j).2
      rw [show j + 1 = i + l.length by omega, show j + 2 = i + 1 + l.length by omega, vt_add, vt_add] at a
      exact (onB_false.1 a).2.2 hx
    · exact M i j hi (by omega) (by omega) (vt l j) ⟨onB_iff.2 (.inr (.inr hx)), onB_a _ _⟩
  refine ⟨n3, ?_, ?_, ?_⟩
  · refine List.pairwise_iff_getElem.2 fun i j hi hj hij e => inj i j hij hj ?_
    rw [vt_lt hi, vt_lt hj]
    unfold ptv
    rw [List.getElem?_eq_getElem hi, List.getElem?_eq_getElem hj, e]
  · intro v hv e he
    obtain ⟨i, hi, rfl⟩ := mem_edg he
    obtain ⟨j, hj, rfl⟩ := mem_vt hv
    by_cases c : i ≤ j
    · exact vo i j hi c (by omega)
    · rw [← vt_add l j]
      exact vo i (j + l.length) hi (by omega) (by omega)
  · refine List.pairwise_iff_getElem.2 fun i j hi hj hij x => ?_
    rw [edg_len] at hi hj
    have a := edg_at hi
    have b := edg_at hj
    rw [List.getElem?_eq_getElem (by rw [edg_len]; omega)] at a b
    rw [Option.some.inj a, Option.some.inj b]
    rintro ⟨hx, hy⟩
    by_cases c1 : j = i + 1
    · subst c1
      rcases fold_on hx hy with z | z
      · rw [(A2 i).1] at z; cases z
      · rw [(A2 i).2] at z; cases z
    by_cases c2 : j = i + l.length - 1
    · have e1 : vt l (j + 1) = vt l i := by rw [show j + 1 = i + l.length by omega, vt_add]
      have e2 : vt l (j + 2) = vt l (i + 1) := by rw [show j + 2 = i + 1 + l.length by omega, vt_add]
      have A := A2 j
      rw [e1, e2] at A
      simp only [e1] at hy
      rcases fold_on hy hx with z | z
      · rw [A.1] at z; cases z
      · rw [A.2] at z; cases z
    · exact M i j hi (by omega) (by omega) x ⟨onB_iff.2 (.inr (.inr hx)), onB_iff.2 (.inr (.inr hy))⟩
theorem prof_iff {l : List P2} : profP l ↔ Simp l := ⟨prof_simp, fun h => h.prof⟩
def mayP (l : List P2) : Prop := 3 ≤ l.length ∧ (∀ i, i < l.length → ∀ k, k < i → cmpP (vt l i) (vt l k) ≠ 0) ∧ ∀ i, i < l.length → ∀ k, k < l.length → k ≠ i →
  (if (i + 1) % l.length = k then onB (vt l i) (vt l (i + 1)) (vt l (k + 1)) = false ∧ onB (vt l k) (vt l (k + 1)) (vt l i) = false
   else ((k + 1) % l.length ≠ i → meetB (vt l i) (vt l (i + 1)) (vt l k) (vt l (k + 1)) = false))
instance {l : List P2} : Decidable (mayP l) := by unfold mayP; infer_instance
end Go.Eng
end
section
set_option linter.unusedVariables false
set_option linter.unusedSimpArgs false
set_option linter.unusedSectionVars false
namespace Go.Eng
structure RQ where
  (s : Bool) (n d : List UInt8)
namespace RQ
def cells (q : RQ) : List Value := [.bool q.s, .string ⟨⟨q.n⟩⟩, .string ⟨⟨q.d⟩⟩]
def v (q : RQ) : Rat := rv q.s q.n q.d
def ok (k : Nat) (q : RQ) : Prop := q.n.length ≤ k ∧ q.d.length ≤ k
instance {k : Nat} {q : RQ} : Decidable (q.ok k) := by unfold ok; infer_instance
def of (x : Rat) : RQ := ⟨decide (x.num < 0), bl x.num.natAbs, if x.den = 1 then [] else bl x.den⟩
theorem of_v (x : Rat) : (of x).v = x := rv_can x
theorem of_ok {x : Rat} {k : Nat} (h : RB x k) : (of x).ok k := ⟨h.num (Nat.le_refl _), h.den (Nat.le_refl _)⟩
theorem ok.rb {q : RQ} {k : Nat} (h : q.ok k) : RB q.v (k + 1) := RB.raw h.1 h.2
theorem ok.le {q : RQ} {i k : Nat} (h : q.ok i) (hk : i ≤ k) : q.ok k := ⟨Nat.le_trans h.1 hk, Nat.le_trans h.2 hk⟩
end RQ
def dec1 : List Value → Option RQ
  | [.bool s, .string ⟨⟨n⟩⟩, .string ⟨⟨d⟩⟩] => some ⟨s, n, d⟩
  | _ => none
theorem dec1_eq {cs : List Value} {q : RQ} (e : dec1 cs = some q) : cs = [.bool q.s, .string ⟨⟨q.n⟩⟩, .string ⟨⟨q.d⟩⟩] := by
  unfold dec1 at e
  split at e
  · cases e; rfl
  · cases e
def dec2 : List Value → Option (RQ × RQ)
  | [.bool s, .string ⟨⟨n⟩⟩, .string ⟨⟨d⟩⟩, .bool t, .string ⟨⟨m⟩⟩, .string ⟨⟨e⟩⟩] => some (⟨s, n, d⟩, ⟨t, m, e⟩)
  | _ => none
theorem dec2_eq {cs : List Value} {q : RQ × RQ} (e : dec2 cs = some q) : cs = [.bool q.1.s, .string ⟨⟨q.1.n⟩⟩, .string ⟨⟨q.1.d⟩⟩, .bool q.2.s, .string ⟨⟨q.2.n⟩⟩, .string ⟨⟨q.2.d⟩⟩] := by
  unfold dec2 at e
  split at e
  · cases e; rfl
  · cases e
end Go.Eng
end
section
set_option linter.unusedVariables false
set_option linter.unusedSimpArgs false
set_option linter.unusedSectionVars false
namespace Go.Eng
def RQ.zero : RQ := ⟨false, [], []⟩
theorem RB.zero : RB 0 1 := by
  refine ⟨?_, bl_length_le.2 (by decide)⟩
  rw [show (0 : Rat).num.natAbs = 0 from rfl, bl_zero]; exact Nat.zero_le _
theorem RB.one : RB 1 1 := ⟨bl_length_le.2 (by decide), bl_length_le.2 (by decide)⟩
end Go.Eng
end
section
set_option linter.unusedVariables false
set_option linter.unusedSimpArgs false
set_option linter.unusedSectionVars false
namespace Go.Eng
def sm : Nat → (Nat → Rat) → Rat
  | 0, _ => 0
  | k + 1, f => sm k f + f k
theorem sm_congr {f g : Nat → Rat} : ∀ {k}, (∀ j, j < k → f j = g j) → sm k f = sm k g
  | 0, _ => rfl
  | k + 1, h => by rw [sm, sm, sm_congr (k := k) fun j hj => h j (by omega), h k (by omega)]
theorem sm_zero {f : Nat → Rat} {k : Nat} (h : ∀ j, j < k → f j = 0) : sm k f = 0 := by
  induction k with
  | zero => rfl
  | succ k ih => rw [sm, ih fun j hj => h j (by omega), h k (by omega), Rat.add_zero]
theorem sm_one {f : Nat → Rat} {p : Nat} (h : ∀ j, j ≠ p → f j = 0) : ∀ {k}, p < k → sm k f = f p
  | 0, hk => by omega
  | k + 1, hk => by
    by_cases e : p = k
    · subst e
      rw [sm, sm_zero fun j hj => h j (by omega), Rat.zero_add]
    · rw [sm, sm_one h (k := k) (by omega), h k (fun x => e x.symm), Rat.add_zero]
def lin (N : Nat) (r x : Nat → Rat) : Rat := sm N fun j => r j * x j
abbrev Mat := Nat → Nat → Rat
structure LS where
  M : Mat
  hs : List Nat
def hd (hs : List Nat) (p : Nat) : Nat := (hs[p]?).getD 0
end Go.Eng
end
section
set_option linter.unusedVariables false
set_option linter.unusedSimpArgs false
set_option linter.unusedSectionVars false
namespace Go.Eng
structure SysS (n : Nat) (Z : (Nat → Rat) → Prop) (r : Nat) (R : Mat) (h : Nat → Nat) (cl : Prop) : Prop where
  lt : ∀ p, p < r → h p < n
  inj : ∀ p q, p < r → q < r → h p = h q → p = q
  one : ∀ p, p < r → R p (h p) = 1
  col : ∀ p q, p < r → q < r → q ≠ p → R q (h p) = 0
  lead : ∀ p, p < r → ∀ j, j < h p → R p j = 0
  z : ∀ X, Z X ↔ (∀ p, p < r → lin (n + 1) (R p) X = 0) ∧ (cl → X n = 0)
def DetP (n : Nat) (Z : (Nat → Rat) → Prop) (k : Nat) : Prop := ∀ X, Z X → X n = 0 → X k = 0
def ConP (n : Nat) (Z : (Nat → Rat) → Prop) : Prop := ∃ X, Z X ∧ X n = -1
section
variable {n r : Nat} {Z : (Nat → Rat) → Prop} {R : Mat} {h : Nat → Nat} {cl : Prop}
theorem lin_only {N : Nat} {a x : Nat → Rat} {k n : Nat} (hk : k < n) (hN : N = n + 1) (h1 : ∀ j, j < n → j ≠ k → a j = 0) : lin N a x = a k * x k + a n * x n := by
  subst hN
  unfold lin
  rw [sm]
  congr 1
  have e : sm n (fun j => a j * x j) = sm n (fun j => if j = k then a k * x k else 0) := sm_congr fun j hj => by
    by_cases c : j = k
    · rw [if_pos c, c]
    · rw [if_neg c, h1 j hj c, Rat.zero_mul]
  rw [e, sm_one (p := k) (fun j hj => if_neg hj) hk, if_pos rfl]
theorem SysS.val (S : SysS n Z r R h cl) {p : Nat} (hp : p < r) (hj : ∀ j, j < n → j ≠ h p → R p j = 0) {X : Nat → Rat} (hX : Z X) (h1 : X n = -1) : X (h p) = R p n := by
  have := ((S.z X).1 hX).1 p hp
  rw [lin_only (S.lt p hp) rfl hj, S.one p hp, h1, Rat.one_mul] at this
  grind
end
def clashM (n m : Nat) (s : LS) : Prop := ∃ i, s.hs.length ≤ i ∧ i < m ∧ s.M i n ≠ 0
end Go.Eng
end
section
set_option linter.unusedVariables false
set_option linter.unusedSimpArgs false
set_option linter.unusedSectionVars false
namespace Go.Eng
end Go.Eng
end
section
set_option linter.unusedVariables false
set_option linter.unusedSimpArgs false
set_option linter.unusedSectionVars false
namespace Go.Eng
structure OutP (n : Nat) (Z : (Nat → Rat) → Prop) (clash opn : Int) (e : Int) (l : List Rat) : Prop where
  c : ¬ ConP n Z → e = clash ∧ l = []
  o : ConP n Z → (¬ ∀ k, k < n → DetP n Z k) → e = opn ∧ l = []
  s : ConP n Z → (∀ k, k < n → DetP n Z k) → e = 0 ∧ l.length = n ∧ ∀ X, Z X → X n = -1 → ∀ k, k < n → l[k]? = some (X k)
theorem OutP.same {n : Nat} {Z : (Nat → Rat) → Prop} {clash opn e e' : Int} {l l' : List Rat} (H : OutP n Z clash opn e l) (H' : OutP n Z clash opn e' l') : e = e' ∧ l = l' := by
  by_cases c : ConP n Z
  · by_cases d : ∀ k, k < n → DetP n Z k
    · obtain ⟨a1, a2, a3⟩ := H.s c d
      obtain ⟨b1, b2, b3⟩ := H'.s c d
      refine ⟨a1.trans b1.symm, List.ext_getElem? fun k => ?_⟩
      obtain ⟨X, hX, h1⟩ := c
      by_cases hk : k < n
      · rw [a3 X hX h1 k hk, b3 X hX h1 k hk]
      · rw [List.getElem?_eq_none (by omega), List.getElem?_eq_none (by omega)]
    · obtain ⟨a1, a2⟩ := H.o c d
      obtain ⟨b1, b2⟩ := H'.o c d
      exact ⟨a1.trans b1.symm, a2.trans b2.symm⟩
  · obtain ⟨a1, a2⟩ := H.c c
    obtain ⟨b1, b2⟩ := H'.c c
    exact ⟨a1.trans b1.symm, a2.trans b2.symm⟩
instance {n m : Nat} {s : LS} : Decidable (clashM n m s) :=
  decidable_of_iff (∃ i, i < m ∧ s.hs.length ≤ i ∧ s.M i n ≠ 0) ⟨fun ⟨i, a, b, c⟩ => ⟨i, b, a, c⟩, fun ⟨i, a, b, c⟩ => ⟨i, b, a, c⟩⟩
def detK (n : Nat) (s : LS) (k : Nat) : Prop := ∃ p, p < s.hs.length ∧ hd s.hs p = k ∧ ∀ j, j < n → j ≠ k → s.M p j = 0
instance {n : Nat} {s : LS} {k : Nat} : Decidable (detK n s k) := by unfold detK; infer_instance
end Go.Eng
end
section
set_option linter.unusedVariables false
set_option linter.unusedSimpArgs false
set_option linter.unusedSectionVars false
namespace Go.Eng
def lay (sz : Nat) (h : Heap) : Value → Option (List Value)
  | .slice none 0 0 => some []
  | .slice (some ⟨_, _, some _⟩) 0 0 => some []
  | .slice (some ⟨k, off, none⟩) len cap => match hget h k with
    | some blk => if len ≤ cap ∧ off + len * sz ≤ blk.cells.length then some ((blk.cells.drop off).take (len * sz)) else none
    | none => none
  | _ => none
theorem lay_mono {sz : Nat} {h h' : Heap} {v : Value} {cs : List Value} (hl : hle h h') (e : lay sz h v = some cs) : lay sz h' v = some cs := by
  unfold lay at e ⊢
  split at e
  · exact e
  · exact e
  · split at e
    · rename_i blk hb
      simp only [hl _ _ hb]; exact e
    · cases e
  · cases e
theorem lay_len {sz : Nat} {h : Heap} {v : Value} {cs : List Value} (e : lay sz h v = some cs) : ∃ a l c, v = .slice a l c ∧ cs.length = l * sz := by
  unfold lay at e
  split at e
  · cases e; exact ⟨none, 0, 0, rfl, by simp⟩
  · cases e; exact ⟨_, 0, 0, rfl, by simp⟩
  · rename_i k off len cap
    split at e
    · split at e
      · rename_i hc
        cases e
        exact ⟨_, len, cap, rfl, by rw [List.length_take, List.length_drop]; omega⟩
      · cases e
    · cases e
  · cases e
theorem lay_pos {sz : Nat} {h : Heap} {a : Option Addr} {l c : Nat} {cs : List Value} (e : lay sz h (.slice a l c) = some cs) (hl : 0 < l) :
    ∃ k off blk, a = some ⟨k, off, none⟩ ∧ hget h k = some blk ∧ l ≤ c ∧ off + l * sz ≤ blk.cells.length ∧ cs = (blk.cells.drop off).take (l * sz) := by
  unfold lay at e
  split at e
  · rename_i e1; cases e1; omega
  · rename_i e1; cases e1; omega
  · rename_i k off len cap e1
    cases e1
    split at e
    · rename_i blk hb
      split at e
      · rename_i hc
        cases e
        exact ⟨k, off, blk, rfl, hb, hc.1, hc.2, rfl⟩
      · cases e
    · cases e
  · cases e
def many {α : Type} (sz : Nat) (dec : List Value → Option α) : Nat → List Value → Option (List α)
  | 0, _ => some []
  | n + 1, cs => match dec (cs.take sz), many sz dec n (cs.drop sz) with
    | some a, some r => some (a :: r)
    | _, _ => none
theorem many_get {α : Type} {sz : Nat} {dec : List Value → Option α} : ∀ {n : Nat} {cs : List Value} {xs : List α}, many sz dec n cs = some xs → xs.length = n ∧ ∀ (i : Nat) (x : α), xs[i]? = some x → dec ((cs.drop (i * sz)).take sz) = some x
  | 0, cs, xs, e => by simp [many] at e; subst e; simp
  | n + 1, cs, xs, e => by
    unfold many at e
    split at e
    · rename_i a r h1 h2
      cases e
      obtain ⟨g1, g2⟩ := many_get h2
      refine ⟨by simp [g1], fun i x hx => ?_⟩
      cases i with
      | zero => simp at hx; subst hx; simpa using h1
      | succ i =>
        have := g2 i x (by simpa using hx)
        rw [List.drop_drop] at this
        rw [Nat.succ_mul, Nat.add_comm (i * sz) sz]; exact this
    · cases e
theorem many_some {α : Type} {sz : Nat} {dec : List Value → Option α} : ∀ {n : Nat} {cs : List Value} {xs : List α}, xs.length = n → (∀ (i : Nat) (x : α), xs[i]? = some x → dec ((cs.drop (i * sz)).take sz) = some x) → many sz dec n cs = some xs
  | 0, cs, xs, e, _ => by
    have := List.length_eq_zero_iff.1 e; subst this; rfl
  | n + 1, cs, [], e, _ => by simp at e
  | n + 1, cs, x :: xs, e, h => by
    unfold many
    have h0 := h 0 x rfl
    simp only [Nat.zero_mul, List.drop_zero] at h0
    have hr := many_some (n := n) (cs := cs.drop sz) (xs := xs) (by simpa using e) (fun i y hy => by
      have := h (i + 1) y (by simpa using hy)
      rw [Nat.succ_mul, Nat.add_comm (i * sz) sz, ← List.drop_drop] at this
      exact this)
    rw [h0, hr]
theorem many_mono {α : Type} {sz : Nat} {dec dec' : List Value → Option α} (hd : ∀ cs a, dec cs = some a → dec' cs = some a) {n : Nat} {cs : List Value} {xs : List α} (e : many sz dec n cs = some xs) : many sz dec' n cs = some xs := by
  obtain ⟨h1, h2⟩ := many_get e
  exact many_some h1 (fun i x hx => hd _ _ (h2 i x hx))
def slen : Value → Nat
  | .slice _ l _ => l
  | _ => 0
def listAt {α : Type} (sz : Nat) (dec : List Value → Option α) (h : Heap) (v : Value) : Option (List α) := (lay sz h v).bind (many sz dec (slen v))
theorem listAt_mono {α : Type} {sz : Nat} {dec dec' : List Value → Option α} {h h' : Heap} {v : Value} {xs : List α} (hl : hle h h') (hd : ∀ cs a, dec cs = some a → dec' cs = some a) (e : listAt sz dec h v = some xs) : listAt sz dec' h' v = some xs := by
  unfold listAt at e ⊢
  rw [Option.bind_eq_some_iff] at e ⊢
  obtain ⟨cs, e1, e2⟩ := e
  exact ⟨cs, lay_mono hl e1, many_mono hd e2⟩
theorem listAt_sl {α : Type} {sz : Nat} {dec : List Value → Option α} {h : Heap} {v : Value} {xs : List α} (e : listAt sz dec h v = some xs) : ∃ a c, v = .slice a xs.length c := by
  unfold listAt at e
  rw [Option.bind_eq_some_iff] at e
  obtain ⟨cs, e1, e2⟩ := e
  obtain ⟨a, l, c, rfl, _⟩ := lay_len e1
  have := (many_get e2).1
  exact ⟨a, c, by rw [this]; rfl⟩
theorem listAt_get {α : Type} {sz : Nat} {dec : List Value → Option α} {h : Heap} {a : Option Addr} {c : Nat} {xs : List α} {l : Nat} (e : listAt sz dec h (.slice a l c) = some xs) (hp : 0 < l) :
    ∃ k off blk, a = some ⟨k, off, none⟩ ∧ hget h k = some blk ∧ l ≤ c ∧ off + l * sz ≤ blk.cells.length ∧ ∀ i x, xs[i]? = some x → off + i * sz + sz ≤ blk.cells.length ∧ dec ((blk.cells.drop (off + i * sz)).take sz) = some x := by
  unfold listAt at e
  rw [Option.bind_eq_some_iff] at e
  obtain ⟨cs, e1, e2⟩ := e
  obtain ⟨h1, h2⟩ := many_get e2
  simp only [slen] at h1
  obtain ⟨k, off, blk, rfl, hb, hc, hle, rfl⟩ := lay_pos e1 hp
  refine ⟨k, off, blk, rfl, hb, hc, hle, fun i x hx => ?_⟩
  have hi : i < l := by rw [← h1]; exact (List.getElem?_eq_some_iff.1 hx).1
  have hm : i * sz + sz ≤ l * sz := by rw [← Nat.succ_mul]; exact Nat.mul_le_mul_right _ hi
  have := h2 i x hx
  rw [List.drop_take, List.take_take, Nat.min_eq_left (by omega), List.drop_drop] at this
  exact ⟨by omega, this⟩
structure NewL where
  m : Nat
  val : (Nat → Nat) → Value
  elem : Nat → Nat
  sz : Nat → Nat
  cells : (Nat → Nat) → Nat → List Value
structure NewL.Par (r : NewL) (h : Heap) : Prop where
  val : ∀ (β : Emb) (σ σ' : Nat → Nat), (∀ i, i < r.m → β (σ i) = some ⟨σ' i, 0, []⟩) → (∀ k, hget h k ≠ none → β k = some ⟨k, 0, []⟩) → VR β (r.val σ) (r.val σ')
  cells : ∀ (β : Emb) (σ σ' : Nat → Nat), (∀ i, i < r.m → β (σ i) = some ⟨σ' i, 0, []⟩) → (∀ k, hget h k ≠ none → β k = some ⟨k, 0, []⟩) → ∀ i, i < r.m → VRs β (r.cells σ i) (r.cells σ' i)
def newH (r : NewL) (σ : Nat → Nat) : Nat → Heap
  | 0 => []
  | i + 1 => (σ i, some ⟨r.elem i, r.sz i, false, r.cells σ i⟩) :: newH r σ i
theorem newH_old {r : NewL} {σ : Nat → Nat} {h : Heap} {k : Nat} : ∀ m, (∀ i, i < m → σ i ≠ k) → hget (newH r σ m ++ h) k = hget h k
  | 0, _ => rfl
  | m + 1, hk => by
    simp only [newH, List.cons_append, hget]
    rw [if_neg (hk m (by omega))]
    exact newH_old m (fun i hi => hk i (by omega))
theorem newH_get {r : NewL} {σ : Nat → Nat} {h : Heap} : ∀ m, (∀ i j, i < m → j < m → σ i = σ j → i = j) → ∀ i, i < m → hget (newH r σ m ++ h) (σ i) = some ⟨r.elem i, r.sz i, false, r.cells σ i⟩
  | 0, _, i, hi => by omega
  | m + 1, inj, i, hi => by
    simp only [newH, List.cons_append, hget]
    by_cases e : σ m = σ i
    · have := inj m i (by omega) hi e
      subst this; simp
    · rw [if_neg e]
      have : i ≠ m := fun h => e (by rw [h])
      exact newH_get m (fun a b ha hb => inj a b (by omega) (by omega)) i (by omega)
def nwL (F : List Value → Heap → Option NewL) : Spec := fun args h n => (F args h).map fun r => (r.val (n + ·), newH r (n + ·) r.m, r.m)
def FinL (res : List IRes) (r : NewL) (h : Heap) (N : Nat) (e : IExit) (s : St) : Prop :=
  isEnd e ∧ ∃ (σ : Nat → Nat) (vs : List Value), (∀ i, i < r.m → N ≤ σ i) ∧ (∀ i j, i < r.m → j < r.m → σ i = σ j → i = j) ∧ resL s res = some vs ∧ one vs = r.val σ ∧
    (∀ i, i < r.m → ∃ x, hget s.hp (σ i) = some ⟨r.elem i, r.sz i, x, r.cells σ i⟩) ∧ ∀ k, k < N → hget s.hp k = hget h k
theorem iotaL {n m N : Nat} {σ : Nat → Nat} (k : Nat) : iotaE ((List.range m).map fun i => (n + i, σ i)) N k = if n ≤ k ∧ k < n + m then some ⟨σ (k - n), 0, []⟩ else if k < N then some ⟨k, 0, []⟩ else none := by
  unfold iotaE
  by_cases c : n ≤ k ∧ k < n + m
  · have hf : ((List.range m).map fun i => (n + i, σ i)).find? (fun p => p.1 == k) = some (k, σ (k - n)) := by
      rw [List.find?_map]
      have : (List.range m).find? ((fun p : Nat × Nat => p.1 == k) ∘ fun i => (n + i, σ i)) = some (k - n) := by
        rw [List.find?_range_eq_some]
        refine ⟨by simp; omega, by simp; omega, fun j hj => by simp; omega⟩
      rw [this]; simp; omega
    rw [hf, if_pos c]
  · have hf : ((List.range m).map fun i => (n + i, σ i)).find? (fun p => p.1 == k) = none := by
      rw [List.find?_eq_none]
      intro p hp
      simp only [List.mem_map, List.mem_range] at hp
      obtain ⟨i, hi, rfl⟩ := hp
      simp; omega
    rw [hf, if_neg c]
theorem newL_run {P : Program} {E : Env} (hE : EnvOK P E) (hm : P.follows .mixedOrders = true) {f : Nat} {nt : Nat} {res : List IRes} {c : ICode} (ht : trFun P f = some ⟨nt, res, c⟩) {F : List Value → Heap → Option NewL}
    (mono : ∀ args h h' r, hle h h' → F args h = some r → F args h' = some r)
    (hrun : ∀ args h N r, F args h = some r → (∀ k b, hget h k = some b → k < N) → r.Par h ∧ args.length ≤ nt ∧ wpI E c (FinL res r h N) ⟨initT args, h, N + 0⟩) : SpecOK P f (nwL F) := by
  refine spec_ok hE hm ht ?_ ?_
  · intro args h h' n o hl e
    simp only [nwL, Option.map_eq_some_iff] at e ⊢
    obtain ⟨v, e1, e2⟩ := e
    exact ⟨v, mono args h h' v hl e1, e2⟩
  · intro args h n v δ m N e hn hN hfr
    simp only [nwL, Option.map_eq_some_iff, Prod.mk.injEq] at e
    obtain ⟨r, e1, rfl, rfl, rfl⟩ := e
    obtain ⟨par, h2, h3⟩ := hrun args h N r e1 hN
    refine ⟨h2, wpI_mono _ ?_ h3⟩
    rintro e s ⟨he, σ, vs, hσ, hinj, hvs, hvk, hblk, hh⟩
    have b1 : ∀ i, i < r.m → iotaE ((List.range r.m).map fun i => (n + i, σ i)) N (n + i) = some ⟨σ i, 0, []⟩ := fun i hi => by
      rw [iotaL, if_pos ⟨by omega, by omega⟩, Nat.add_sub_cancel_left]
    have b2 : ∀ k, hget h k ≠ none → iotaE ((List.range r.m).map fun i => (n + i, σ i)) N k = some ⟨k, 0, []⟩ := fun k hk => by
      have hlt : k < N := by
        cases e : hget h k with
        | none => exact absurd e hk
        | some b => exact hN k b e
      rw [iotaL, if_neg (fun c => hk (hfr k c.1 c.2)), if_pos hlt]
    refine ⟨he, vs, hvs, (List.range r.m).map fun i => (n + i, σ i), ?_, ?_, ?_, ?_⟩
    · intro p hp
      simp only [List.mem_map, List.mem_range] at hp
      obtain ⟨i, hi, rfl⟩ := hp
      simp only; omega
    · rw [hvk]; exact par.val _ _ _ b1 b2
    · intro k blk e
      by_cases c : n ≤ k ∧ k < n + r.m
      · obtain ⟨i, rfl⟩ : ∃ i, k = n + i := ⟨k - n, by omega⟩
        have hi : i < r.m := by omega
        rw [newH_get r.m (fun a b _ _ e => by simpa using e) i hi] at e
        cases e
        obtain ⟨x, hx⟩ := hblk i hi
        exact .inr ⟨_, _, b1 i hi, hx, rfl, rfl, (fun h => by cases h), par.cells _ _ _ b1 b2 i hi⟩
      · rw [newH_old r.m (fun i hi e => c (by omega))] at e
        have hlt := hN k blk e
        exact .inl ⟨hlt, e, by rw [hh k hlt]; exact e⟩
    · intro k1 k2 L1 L2 a1 a2 c1 c2 e
      rw [iotaL] at c1 c2
      by_cases d1 : n ≤ k1 ∧ k1 < n + r.m
      · rw [if_pos d1] at c1; cases c1
        by_cases d2 : n ≤ k2 ∧ k2 < n + r.m
        · rw [if_pos d2] at c2; cases c2
          have := hinj (k1 - n) (k2 - n) (by omega) (by omega) e
          omega
        · rw [if_neg d2] at c2
          split at c2
          · cases c2
            have := hσ (k1 - n) (by omega)
            simp only at e; omega
          · cases c2
      · rw [if_neg d1] at c1
        split at c1
        · cases c1
          by_cases d2 : n ≤ k2 ∧ k2 < n + r.m
          · rw [if_pos d2] at c2; cases c2
            have := hσ (k2 - n) (by omega)
            simp only at e; omega
          · rw [if_neg d2] at c2
            split at c2
            · cases c2; exact e
            · cases c2
        · cases c1
end Go.Eng
end
section
set_option linter.unusedVariables false
set_option linter.unusedSimpArgs false
set_option linter.unusedSectionVars false
namespace Go.Eng
instance : DecidableEq RQ := fun a b => decidable_of_iff (a.s = b.s ∧ a.n = b.n ∧ a.d = b.d) ⟨fun ⟨x, y, z⟩ => by cases a; cases b; simp_all, fun e => by subst e; exact ⟨rfl, rfl, rfl⟩⟩
instance {x : Rat} {k : Nat} : Decidable (RB x k) := by unfold RB; infer_instance
def rowC (f : Nat → Rat) : Nat → List Value
  | 0 => []
  | n + 1 => rowC f n ++ rE (f n)
theorem rowC_len (f : Nat → Rat) : ∀ n, (rowC f n).length = n * 3
  | 0 => rfl
  | n + 1 => by rw [rowC, List.length_append, rowC_len f n]; show n * 3 + 3 = _; omega
theorem rowC_at (f : Nat → Rat) : ∀ {n j}, j < n → ((rowC f n).drop (j * 3)).take 3 = rE (f j)
  | 0, j, h => absurd h (Nat.not_lt_zero j)
  | n + 1, j, h => by
    have hl := rowC_len f n
    rw [rowC]
    by_cases e : j = n
    · subst e
      rw [List.drop_append_of_le_length (by omega), List.drop_of_length_le (by omega), List.nil_append]; rfl
    · rw [List.drop_append_of_le_length (by omega), List.take_append_of_le_length (by rw [List.length_drop]; omega)]
      exact rowC_at f (by omega)
theorem setR_app_left : ∀ (xs l r : List Value) (i : Nat), i + xs.length ≤ l.length → setR (l ++ r) i xs = setR l i xs ++ r
  | [], _, _, _, _ => rfl
  | x :: xs, l, r, i, h => by
    simp only [List.length_cons] at h
    simp only [setR]
    rw [List.set_append_left _ _ (by omega)]
    exact setR_app_left xs _ r (i + 1) (by rw [List.length_set]; omega)
theorem setR_app_right : ∀ (xs l r : List Value) (i : Nat), l.length ≤ i → setR (l ++ r) i xs = l ++ setR r (i - l.length) xs
  | [], _, _, _, _ => rfl
  | x :: xs, l, r, i, h => by
    simp only [setR]
    rw [List.set_append_right _ _ h, setR_app_right xs l _ (i + 1) (by omega), Nat.sub_add_comm h]
def decQ (cs : List Value) (j : Nat) : Option RQ := dec1 ((cs.drop (j * 3)).take 3)
def rdQ (cs : List Value) (j : Nat) : Rat := match decQ cs j with | some q => q.v | none => 0
def rowB (n k : Nat) (cs : List Value) : Prop := cs.length = n * 3 ∧ ∀ j, j < n → decQ cs j = some (RQ.of (rdQ cs j)) ∧ RB (rdQ cs j) k
instance {n k : Nat} {cs : List Value} : Decidable (rowB n k cs) := by unfold rowB; infer_instance
theorem split3 : ∀ (n : Nat) (cs ds : List Value), cs.length = n * 3 → ds.length = n * 3 → (∀ j, j < n → (cs.drop (j * 3)).take 3 = (ds.drop (j * 3)).take 3) → cs = ds
  | 0, cs, ds, h1, h2, _ => by rw [List.eq_nil_of_length_eq_zero (l := cs) (by omega), List.eq_nil_of_length_eq_zero (l := ds) (by omega)]
  | n + 1, cs, ds, h1, h2, h => by
    have h0 := h 0 (by omega)
    rw [Nat.zero_mul, List.drop_zero, List.drop_zero] at h0
    have hr := split3 n (cs.drop 3) (ds.drop 3) (by rw [List.length_drop]; omega) (by rw [List.length_drop]; omega) fun j hj => by
      rw [List.drop_drop, List.drop_drop]
      have := h (j + 1) (by omega)
      rw [Nat.succ_mul, Nat.add_comm (j * 3) 3] at this
      exact this
    rw [← List.take_append_drop 3 cs, ← List.take_append_drop 3 ds, h0, hr]
theorem dec1_cells {cs : List Value} {q : RQ} (e : dec1 cs = some q) : cs = q.cells := dec1_eq e
theorem rowB.eq {n k : Nat} {cs : List Value} (h : rowB n k cs) : cs = rowC (rdQ cs) n :=
  split3 n _ _ h.1 (rowC_len _ _) fun j hj => by
    rw [rowC_at _ hj]
    exact dec1_cells (h.2 j hj).1
theorem rowB.rb {n k j : Nat} {cs : List Value} (h : rowB n k cs) (hj : j < n) : RB (rdQ cs j) k := (h.2 j hj).2
structure EqR where
  (coef : List RQ) (rhs : RQ) (line : Int)
def EqR.tl (e : EqR) : List Value := [.bool e.rhs.s, .string ⟨⟨e.rhs.n⟩⟩, .string ⟨⟨e.rhs.d⟩⟩, .int .i64 e.line]
def rq0 : RQ := ⟨false, [], []⟩
def EqR.at (e : EqR) (n j : Nat) : RQ := if j < n then (e.coef[j]?).getD rq0 else e.rhs
end Go.Eng
end
section
set_option linter.unusedVariables false
set_option linter.unusedSimpArgs false
set_option linter.unusedSectionVars false
namespace Go.Eng
abbrev PQ := RQ × RQ
def pcl (p : PQ) : List Value := p.1.cells ++ p.2.cells
def pok (k : Nat) (p : PQ) : Prop := p.1.ok k ∧ p.2.ok k
instance {k : Nat} {p : PQ} : Decidable (pok k p) := by unfold pok; infer_instance
def pv2 (p : PQ) : P2 := (p.1.v, p.2.v)
def pqo (v : P2) : PQ := (RQ.of v.1, RQ.of v.2)
theorem pqo_v (v : P2) : pv2 (pqo v) = v := Prod.ext (RQ.of_v _) (RQ.of_v _)
theorem pcl_len (p : PQ) : (pcl p).length = 6 := rfl
theorem pcl_ok (p : PQ) : (pcl p).all okCell = true := rfl
theorem pcl_base (p : PQ) : (pcl p).all isBase = true := rfl
theorem pcl_tk (p : PQ) : (pcl p).take 6 = pcl p := rfl
theorem pcl_x (p : PQ) : (pcl p).take 3 = p.1.cells := rfl
theorem pcl_y (p : PQ) : ((pcl p).drop 3).take 3 = p.2.cells := rfl
theorem dec2_pcl {cs : List Value} {p : PQ} (e : dec2 cs = some p) : cs = pcl p := dec2_eq e
theorem pcl_dec (p : PQ) : dec2 (pcl p) = some p := rfl
theorem pok.le {i k : Nat} {p : PQ} (h : pok i p) (hk : i ≤ k) : pok k p := ⟨h.1.le hk, h.2.le hk⟩
def pq0 : PQ := (rq0, rq0)
def pqAt (l : List PQ) (i : Nat) : PQ := (l[i]?).getD pq0
theorem pqAt_some {l : List PQ} {i : Nat} (h : i < l.length) : l[i]? = some (pqAt l i) := by unfold pqAt; rw [List.getElem?_eq_getElem h]; rfl
theorem pqAt_mem {l : List PQ} {i : Nat} (h : i < l.length) : pqAt l i ∈ l := List.mem_of_getElem? (pqAt_some h)
def pvs (l : List PQ) : List P2 := l.map pv2
theorem pvs_len (l : List PQ) : (pvs l).length = l.length := List.length_map _
theorem pvs_at {l : List PQ} {i : Nat} (h : i < l.length) : ptv (pvs l) i = pv2 (pqAt l i) := by
  unfold ptv pvs
  rw [List.getElem?_map, pqAt_some h]; rfl
theorem pvs_vt {l : List PQ} {i : Nat} (h : 0 < l.length) : vt (pvs l) i = pv2 (pqAt l (i % l.length)) := by
  unfold vt
  rw [pvs_len, pvs_at (Nat.mod_lt _ h)]
def ptC (l : List PQ) : List Value := l.flatMap pcl
theorem ptC_len : ∀ l : List PQ, (ptC l).length = l.length * 6
  | [] => rfl
  | p :: l => by
    have := ptC_len l
    unfold ptC at this ⊢
    rw [List.flatMap_cons, List.length_append, this, pcl_len, List.length_cons]; omega
theorem ptC_ok (l : List PQ) : (ptC l).all okCell = true := by
  rw [List.all_eq_true]
  intro v hv
  unfold ptC at hv
  rw [List.mem_flatMap] at hv
  obtain ⟨q, _, h⟩ := hv
  exact List.all_eq_true.1 (pcl_ok q) v h
theorem ptC_base (l : List PQ) : (ptC l).all isBase = true := by
  rw [List.all_eq_true]
  intro v hv
  unfold ptC at hv
  rw [List.mem_flatMap] at hv
  obtain ⟨q, _, h⟩ := hv
  exact List.all_eq_true.1 (pcl_base q) v h
theorem ptC_app (l m : List PQ) : ptC (l ++ m) = ptC l ++ ptC m := by unfold ptC; rw [List.flatMap_append]
theorem ptC_one (q : PQ) : ptC [q] = pcl q := by unfold ptC; simp
theorem ptC_snoc (l : List PQ) (q : PQ) : ptC (l ++ [q]) = ptC l ++ pcl q := by rw [ptC_app, ptC_one]
theorem ptC_at : ∀ (l : List PQ) (i : Nat), i < l.length → ((ptC l).drop (i * 6)).take 6 = pcl (pqAt l i)
  | [], i, h => absurd h (Nat.not_lt_zero i)
  | p :: l, 0, _ => by
    unfold ptC
    rw [List.flatMap_cons, Nat.zero_mul, List.drop_zero, List.take_append_of_le_length (by rw [pcl_len]; exact Nat.le_refl _)]; rfl
  | p :: l, i + 1, h => by
    have ih := ptC_at l i (by simpa using h)
    unfold ptC at ih ⊢
    rw [List.flatMap_cons, show (i + 1) * 6 = 6 + i * 6 by omega, ← List.drop_drop, List.drop_append_of_le_length (by rw [pcl_len]; exact Nat.le_refl _), show (pcl p).drop 6 = [] from rfl, List.nil_append]
    exact ih
theorem ptC_drop : ∀ (l : List PQ) (i : Nat), (ptC l).drop (i * 6) = ptC (l.drop i)
  | l, 0 => by rw [Nat.zero_mul, List.drop_zero, List.drop_zero]
  | [], i + 1 => by simp [ptC]
  | p :: l, i + 1 => by
    have ih := ptC_drop l i
    rw [List.drop_succ_cons, ← ih]
    unfold ptC
    rw [List.flatMap_cons, show (i + 1) * 6 = 6 + i * 6 by omega, ← List.drop_drop, List.drop_append_of_le_length (by rw [pcl_len]; exact Nat.le_refl _), show (pcl p).drop 6 = [] from rfl, List.nil_append]
theorem ptC_take : ∀ (l : List PQ) (i : Nat), (ptC l).take (i * 6) = ptC (l.take i)
  | l, 0 => by rw [Nat.zero_mul, List.take_zero, List.take_zero]; rfl
  | [], i + 1 => by simp [ptC]
  | p :: l, i + 1 => by
    have ih := ptC_take l i
    rw [List.take_succ_cons]
    unfold ptC at ih ⊢
    rw [List.flatMap_cons, List.flatMap_cons, show (i + 1) * 6 = 6 + i * 6 by omega, List.take_append, pcl_len, List.take_of_length_le (by rw [pcl_len]; omega), show 6 + i * 6 - 6 = i * 6 by omega, ih]
theorem ptC_set : ∀ (l : List PQ) (i : Nat) (q : PQ), i < l.length → setR (ptC l) (i * 6) (pcl q) = ptC (l.set i q)
  | [], i, q, h => absurd h (Nat.not_lt_zero i)
  | p :: l, 0, q, _ => by
    unfold ptC
    rw [List.flatMap_cons, List.set_cons_zero, List.flatMap_cons, Nat.zero_mul, setR_app_left _ _ _ _ (by rw [pcl_len, pcl_len]; omega)]; rfl
  | p :: l, i + 1, q, h => by
    have ih := ptC_set l i q (by simpa using h)
    unfold ptC at ih ⊢
    rw [List.flatMap_cons, List.set_cons_succ, List.flatMap_cons, setR_app_right _ _ _ _ (by rw [pcl_len]; omega), pcl_len, show (i + 1) * 6 - 6 = i * 6 by omega, ih]
def decPts (h : Heap) (v : Value) : Option (List PQ) := listAt 6 dec2 h v
theorem decPts_mono {h h' : Heap} (hl : hle h h') {v : Value} {l : List PQ} (x : decPts h v = some l) : decPts h' v = some l := listAt_mono hl (fun _ _ e => e) x
theorem decPts_sl {h : Heap} {v : Value} {l : List PQ} (x : decPts h v = some l) : ∃ a c, v = .slice a l.length c := listAt_sl x
theorem pts_at {h : Heap} {a : Option Addr} {n c : Nat} {l : List PQ} {i : Nat} (e : decPts h (.slice a n c) = some l) (hi : i < n) :
    ∃ k off blk, a = some ⟨k, off, none⟩ ∧ hget h k = some blk ∧ off + i * 6 + 6 ≤ blk.cells.length ∧ (blk.cells.drop (off + i * 6)).take 6 = pcl (pqAt l i) := by
  have hl : l.length = n := by
    obtain ⟨a', c', x⟩ := decPts_sl e
    injection x with _ x2 _
    exact x2.symm
  unfold decPts at e
  obtain ⟨k, off, blk, ea, hb, _, _, hat⟩ := listAt_get e (by omega)
  obtain ⟨h1, h2⟩ := hat i _ (pqAt_some (by omega))
  exact ⟨k, off, blk, ea, hb, h1, dec2_pcl h2⟩
theorem pts_list {h : Heap} {k e s : Nat} {x : Bool} {l : List PQ} {n : Nat} (hb : hget h k = some ⟨e, s, x, ptC l⟩) (hn : l.length = n) : decPts h (.slice (some ⟨k, 0, none⟩) n n) = some l := by
  have hl := ptC_len l
  unfold decPts listAt
  have la : lay 6 h (.slice (some ⟨k, 0, none⟩) n n) = some (ptC l) := by
    cases n with
    | zero =>
      show (match hget h k with | some blk => if 0 ≤ 0 ∧ 0 + 0 * 6 ≤ blk.cells.length then some ((blk.cells.drop 0).take (0 * 6)) else none | none => none) = _
      rw [hb, List.eq_nil_of_length_eq_zero hn]
      rfl
    | succ d =>
      unfold lay
      simp only [hb]
      rw [if_pos ⟨by omega, by omega⟩, List.drop_zero, List.take_of_length_le (by omega)]
  rw [la]
  show many 6 dec2 n _ = _
  refine many_some hn fun i p hp => ?_
  have hi : i < l.length := (List.getElem?_eq_some_iff.1 hp).1
  rw [pqAt_some hi] at hp
  cases hp
  rw [ptC_at l i hi]; rfl
theorem many_pts : ∀ {n : Nat} {cs : List Value} {l : List PQ}, many 6 dec2 n cs = some l → cs.take (n * 6) = ptC l
  | 0, cs, l, e => by simp [many] at e; subst e; simp [ptC]
  | n + 1, cs, l, e => by
    unfold many at e
    split at e
    · rename_i a r h1 h2
      cases e
      have ih := many_pts h2
      have e1 := dec2_pcl h1
      have : ptC (a :: r) = pcl a ++ ptC r := by unfold ptC; rw [List.flatMap_cons]
      rw [this, ← ih, ← e1, show (n + 1) * 6 = 6 + n * 6 by omega, List.take_add]
    · cases e
theorem pts_src {h : Heap} {a : Option Addr} {n c : Nat} {l : List PQ} (e : decPts h (.slice a n c) = some l) : srcOf h 6 n a = some (ptC l) := by
  have hl : l.length = n := by
    obtain ⟨a', c', x⟩ := decPts_sl e
    injection x with _ x2 _
    exact x2.symm
  unfold decPts listAt at e
  rw [Option.bind_eq_some_iff] at e
  obtain ⟨cs, e1, e2⟩ := e
  have m := many_pts e2
  obtain ⟨_, l', _, ev, hc⟩ := lay_len e1
  injection ev with _ x _
  have e2 : many 6 dec2 n cs = some l := e2
  rw [List.take_of_length_le (by rw [hc, ← x]; exact Nat.le_refl _)] at m
  rw [← m]
  unfold lay at e1
  split at e1
  · rename_i x; cases x; exact e1
  · rename_i x; cases x
    unfold srcOf
    rw [if_pos rfl]; exact e1
  · rename_i x; cases x
    split at e1
    · rename_i blk hb
      split at e1
      · rename_i hc
        unfold srcOf
        simp only [hb, Option.bind_some]
        rw [if_pos hc.2]; exact e1
      · cases e1
    · cases e1
  · cases e1
theorem ext_pts {N : Nat} {h hp : Heap} {sl : Value} {l : List PQ} (hN : ∀ k b, hget h k = some b → k < N) (hx : decPts h sl = some l) (he : ∀ k, k < N → hget hp k = hget h k) : decPts hp sl = some l :=
  decPts_mono (fun k b e => by rw [he k (hN _ _ e)]; exact e) hx
end Go.Eng
end
section
set_option linter.unusedVariables false
set_option linter.unusedSimpArgs false
set_option linter.unusedSectionVars false
set_option maxRecDepth 20000
namespace Go.Eng
open Go Go.Proofs Go.IntWalk
theorem qsub {p q : RQ} (hp : p.ok 8589934591) (hq : q.ok 8589934591) : spQSub [.agg ⟨p.cells⟩, .agg ⟨q.cells⟩] = some (.agg ⟨(RQ.of (p.v - q.v)).cells⟩) :=
  if_pos ⟨by have := hp.1; omega, by have := hp.2; omega, by have := hq.1; omega, by have := hq.2; omega⟩
theorem qadd {p q : RQ} (hp : p.ok 8589934591) (hq : q.ok 8589934591) : spQAdd [.agg ⟨p.cells⟩, .agg ⟨q.cells⟩] = some (.agg ⟨(RQ.of (p.v + q.v)).cells⟩) :=
  if_pos ⟨by have := hp.1; omega, by have := hp.2; omega, by have := hq.1; omega, by have := hq.2; omega⟩
theorem qmul {p q : RQ} (hp : p.ok 8589934591) (hq : q.ok 8589934591) : spQMul [.agg ⟨p.cells⟩, .agg ⟨q.cells⟩] = some (.agg ⟨(RQ.of (p.v * q.v)).cells⟩) :=
  if_pos ⟨by have := hp.1; omega, by have := hp.2; omega, by have := hq.1; omega, by have := hq.2; omega⟩
theorem qcmp {p q : RQ} (hp : p.ok 8589934591) (hq : q.ok 8589934591) : spQCmp [.agg ⟨p.cells⟩, .agg ⟨q.cells⟩] = some (.int .i64 (sg (p.v - q.v))) :=
  if_pos ⟨by have := hp.1; omega, by have := hp.2; omega, by have := hq.1; omega, by have := hq.2; omega⟩
theorem q_len (q : RQ) : q.cells.length = 3 := rfl
theorem q_ok (q : RQ) : q.cells.all okCell = true := rfl
theorem q_tk (q : RQ) : q.cells.take 3 = q.cells := rfl
theorem q_st (q : RQ) : setR [.bool false, .string ⟨⟨[]⟩⟩, .string ⟨⟨[]⟩⟩] 0 q.cells = q.cells := rfl
theorem q_st' (p q : RQ) : setR p.cells 0 q.cells = q.cells := rfl
theorem pp_st (p : PQ) : setR [.bool false, .string ⟨⟨[]⟩⟩, .string ⟨⟨[]⟩⟩, .bool false, .string ⟨⟨[]⟩⟩, .string ⟨⟨[]⟩⟩] 0 (pcl p) = pcl p := rfl
theorem p_mk (x y : RQ) : setR (setR [.bool false, .string ⟨⟨[]⟩⟩, .string ⟨⟨[]⟩⟩, .bool false, .string ⟨⟨[]⟩⟩, .string ⟨⟨[]⟩⟩] 0 x.cells) 3 y.cells = pcl (x, y) := rfl
theorem ofB {x : Rat} {i : Nat} (h : RB x i) (hi : i ≤ 8589934591) : (RQ.of x).ok 8589934591 := (RQ.of_ok h).le hi
theorem pok1 {p : PQ} {k : Nat} (h : pok k p) (hk : k ≤ 8589934591) : p.1.ok 8589934591 := h.1.le hk
theorem pok2 {p : PQ} {k : Nat} (h : pok k p) (hk : k ≤ 8589934591) : p.2.ok 8589934591 := h.2.le hk
theorem subB {p q : RQ} {k : Nat} (hp : p.ok k) (hq : q.ok k) : RB (p.v - q.v) (2 * k + 3) := hp.rb.sub hq.rb (by omega)
def spTurn : List Value → Option Value
  | [.agg ⟨ca⟩, .agg ⟨cb⟩, .agg ⟨cx⟩] => match dec2 ca, dec2 cb, dec2 cx with
    | some a, some b, some x => if pok 1000000 a ∧ pok 1000000 b ∧ pok 1000000 x then some (.int .i64 (sg (cr (pv2 a) (pv2 b) (pv2 x)))) else none
    | _, _, _ => none
  | _ => none
theorem turn_of {a b x : PQ} (ha : pok 1000000 a) (hb : pok 1000000 b) (hx : pok 1000000 x) : spTurn [.agg ⟨pcl a⟩, .agg ⟨pcl b⟩, .agg ⟨pcl x⟩] = some (.int .i64 (sg (cr (pv2 a) (pv2 b) (pv2 x)))) := by
  unfold spTurn
  simp only [pcl_dec]
  exact if_pos ⟨ha, hb, hx⟩
def c21 : ICode :=
  (.seq (.reg [qq 3 (.box 34 6 (.t 0)), qq 4 (.box 34 6 (.t 1)), qq 5 (.box 34 6 (.t 2)), qq 6 (.mv (ci 0))]) (.seq (.dreg [qu 8 (.ixarr 2 3 (.t 4) (ci 0)), qu 9 (.load true 3 (.t 8)), qu 10 (.ixarr 2 3 (.t 3) (ci 0)), qu 11 (.load true 3 (.t 10)), qu 12 (.call 31 [(.t 9), (.t 11)]), qu 13 (.ixarr 2 3 (.t 5) (ci 1)), qv 14 [4] (.load true 3 (.t 13)), qu 15 (.ixarr 2 3 (.t 3) (ci 1)), qv 16 [4] (.load true 3 (.t 15)), qu 17 (.call 31 [(.t 14), (.t 16)]), qu 18 (.call 32 [(.t 12), (.t 17)]), qu 7 (.alloc 30 3 [(.bool false), e0, e0]), qm (.store 3 (.t 7) (.t 18))]) (.seq (.dreg [qu 19 (.load true 3 (.t 7)), qu 20 (.ixarr 2 3 (.t 4) (ci 1)), qu 21 (.load true 3 (.t 20)), qu 22 (.ixarr 2 3 (.t 3) (ci 1)), qu 23 (.load true 3 (.t 22)), qu 24 (.call 31 [(.t 21), (.t 23)]), qu 25 (.ixarr 2 3 (.t 5) (ci 0)), qv 26 [5] (.load true 3 (.t 25)), qu 27 (.ixarr 2 3 (.t 3) (ci 0)), qv 28 [5] (.load true 3 (.t 27)), qu 29 (.call 31 [(.t 26), (.t 28)]), qu 30 (.call 32 [(.t 24), (.t 29)]), qu 31 (.call 42 [(.t 19), (.t 30)]), qu 6 (.mv (.t 31))]) .ret)))
theorem tr21 : trFun Tryz.prog 21 = some ⟨32, [.t 6], c21⟩ := by kernel_rfl
set_option maxHeartbeats 4000000 in
theorem ok_turn : SpecOK Tryz.prog 21 (flat spTurn) := by
  refine flat_run (env_cons ok_qSub (env_cons ok_qMul (env_cons ok_qCmp (env_nil _)))) mixed tr21 ?_
  intro args v h N hG
  unfold spTurn at hG
  split at hG
  case h_2 => cases hG
  rename_i ca cb cx
  split at hG
  case h_2 => cases hG
  rename_i a b x ha hb hx
  split at hG
  case isFalse => cases hG
  rename_i hs
  obtain ⟨sa, sb, sx⟩ := hs
  cases hG
  have ea := dec2_pcl ha
  have eb := dec2_pcl hb
  have ex := dec2_pcl hx
  subst ea eb ex
  refine ⟨rfl, by simp, ?_⟩
  have s1 := qsub (pok1 sb (by omega)) (pok1 sa (by omega))
  have s2 := qsub (pok2 sx (by omega)) (pok2 sa (by omega))
  have s3 := qsub (pok2 sb (by omega)) (pok2 sa (by omega))
  have s4 := qsub (pok1 sx (by omega)) (pok1 sa (by omega))
  have b1 := subB sb.1 sa.1
  have b2 := subB sx.2 sa.2
  have b3 := subB sb.2 sa.2
  have b4 := subB sx.1 sa.1
  have m1 := qmul (ofB b1 (by omega)) (ofB b2 (by omega))
  have m2 := qmul (ofB b3 (by omega)) (ofB b4 (by omega))
  have c1 := qcmp (ofB (b1.mul b2 (Nat.le_refl _)) (by omega)) (ofB (b3.mul b4 (Nat.le_refl _)) (by omega))
  rw [RQ.of_v, RQ.of_v] at m1 m2 c1
  have ecr : cr (pv2 a) (pv2 b) (pv2 x) = (b.1.v - a.1.v) * (x.2.v - a.2.v) - (b.2.v - a.2.v) * (x.1.v - a.1.v) := rfl
  rw [ecr]
  generalize RQ.of (b.1.v - a.1.v) = Q1 at *
  generalize RQ.of (x.2.v - a.2.v) = Q2 at *
  generalize RQ.of (b.2.v - a.2.v) = Q3 at *
  generalize RQ.of (x.1.v - a.1.v) = Q4 at *
  generalize RQ.of ((b.1.v - a.1.v) * (x.2.v - a.2.v)) = Q5 at *
  generalize RQ.of ((b.2.v - a.2.v) * (x.1.v - a.1.v)) = Q6 at *
  simp only [c21, G0, Nat.reduceAdd]
  simp only [↓R0, R1, simprocAttr, -Int.reduceAbs, pcl_len, pcl_ok, pcl_tk, pcl_x, pcl_y, q_len, q_ok, q_tk, q_st, s1, s2, s3, s4, m1, m2, c1, Fin, isEnd, resL, res1]
  exact ⟨_, rfl, rfl, fun k hk => by simp only [ne_nb hk, if_false]⟩
def spOr : List Value → Heap → Option Value
  | [.slice (some ⟨k, 0, none⟩) 2 _], h => match hget h k with
    | some ⟨_, _, _, [.int .i64 x, .int .i64 y]⟩ => some (.int .i64 (if x ≠ 0 then x else y))
    | _ => none
  | _, _ => none
def c50 : ICode :=
  (.seq (.reg [qq 2 (.mv (ci 0))]) (.seq (.reg [qq 3 (.mv (ci 0))]) (.seq (.seq (.reg [qq 6 (.mv (.t 0)), qq 7 (.lensl (.t 6)), qq 8 (.mv (ci 0))]) (.block 0 (.loop (.seq (.reg [qq 9 (.bin .lss (.t 8) (.t 7))]) (.seq (.cond (.t 9) .skip (.exit 0)) (.seq (.block 1 (.seq (.reg [qq 10 (.ixsl 1 (.t 6) (.t 8)), qq 11 (.load false 1 (.t 10)), qq 5 (.mv (.t 11))]) (.seq (.reg [qq 12 (.mv (.t 5)), qq 13 (.mv (.t 3)), qq 14 (.bin .neq (.t 12) (.t 13))]) (.cond (.t 14) (.seq (.reg [qq 15 (.mv (.t 5)), qq 2 (.mv (.t 15))]) .ret) .skip)))) (.reg [qq 16 (.bin .add (.t 8) (ci 1)), qq 8 (.mv (.t 16))]))))))) (.seq (.reg [qq 17 (.mv (.t 3)), qq 2 (.mv (.t 17))]) .ret))))
theorem tr50 : trFun Tryz.prog 50 = some ⟨18, [.t 2], c50⟩ := by kernel_rfl
set_option maxHeartbeats 4000000 in
theorem ok_or : SpecOK Tryz.prog 50 (rdS spOr) := by
  refine rd_run (env_nil _) mixed tr50 ?_ ?_
  · intro args h h' v hle e
    unfold spOr at e ⊢
    split at e
    · split at e
      · rename_i hb
        simp only [hle _ _ hb]; exact e
      · cases e
    · cases e
  intro args v h N hG hN
  unfold spOr at hG
  split at hG
  case h_2 => cases hG
  rename_i k c
  split at hG
  case h_2 => cases hG
  rename_i e s xx x y hb
  cases hG
  refine ⟨by rfl, by simp, ?_⟩
  have dn : ∀ a b : Int, decide (a ≠ b) = !decide (a = b) := fun a b => by by_cases h : a = b <;> simp [h]
  have ex0 : ([Value.int .i64 x, .int .i64 y] : List Value)[0]? = some (.int .i64 x) := rfl
  have ex1 : ([Value.int .i64 x, .int .i64 y] : List Value)[1]? = some (.int .i64 y) := rfl
  by_cases hx : x = 0
  · have hx' : (x = 0) = True := eq_true hx
    rw [if_neg (fun h => h hx)]
    simp only [c50, G0, Nat.reduceAdd]
    simp only [↓R0, R1, simprocAttr, -Int.reduceAbs]
    refine lp_step ?_
    simp only [↓R0, R1, simprocAttr, -Int.reduceAbs, hb, ex0, dn, hx', Bool.not_true]
    refine lp_step ?_
    by_cases hy : y = 0
    · have hy' : (y = 0) = True := eq_true hy
      simp only [↓R0, R1, simprocAttr, -Int.reduceAbs, hb, ex1, dn, hy', Bool.not_true]
      refine lp_step ?_
      simp only [↓R0, R1, simprocAttr, -Int.reduceAbs, Fin, isEnd, resL, res1]
      exact ⟨_, rfl, by rw [hy]; rfl, fun _ _ => trivial⟩
    · have hy' : (y = 0) = False := eq_false hy
      simp only [↓R0, R1, simprocAttr, -Int.reduceAbs, hb, ex1, dn, hy', Bool.not_false, Fin, isEnd, resL, res1]
      exact ⟨_, rfl, rfl, fun _ _ => trivial⟩
  · have hx' : (x = 0) = False := eq_false hx
    rw [if_pos hx]
    simp only [c50, G0, Nat.reduceAdd]
    simp only [↓R0, R1, simprocAttr, -Int.reduceAbs]
    refine lp_step ?_
    simp only [↓R0, R1, simprocAttr, -Int.reduceAbs, hb, ex0, dn, hx', Bool.not_false, Fin, isEnd, resL, res1]
    exact ⟨_, rfl, rfl, fun _ _ => trivial⟩
def spCmpP : List Value → Option Value
  | [.agg ⟨ca⟩, .agg ⟨cb⟩] => match dec2 ca, dec2 cb with
    | some a, some b => if pok 1000000 a ∧ pok 1000000 b then some (.int .i64 (cmpP (pv2 a) (pv2 b))) else none
    | _, _ => none
  | _ => none
theorem cmpP_of {a b : PQ} (ha : pok 1000000 a) (hb : pok 1000000 b) : spCmpP [.agg ⟨pcl a⟩, .agg ⟨pcl b⟩] = some (.int .i64 (cmpP (pv2 a) (pv2 b))) := by
  unfold spCmpP
  simp only [pcl_dec]
  exact if_pos ⟨ha, hb⟩
def c24 : ICode :=
  (.seq (.reg [qq 2 (.box 34 6 (.t 0)), qq 3 (.box 34 6 (.t 1)), qq 4 (.mv (ci 0))]) (.seq (.dreg [qu 5 (.ixarr 2 3 (.t 2) (ci 0)), qu 6 (.load true 3 (.t 5)), qu 7 (.ixarr 2 3 (.t 3) (ci 0)), qu 8 (.load true 3 (.t 7)), qu 9 (.call 42 [(.t 6), (.t 8)]), qu 10 (.ixarr 2 3 (.t 2) (ci 1)), qv 11 [4] (.load true 3 (.t 10)), qu 12 (.ixarr 2 3 (.t 3) (ci 1)), qv 13 [4] (.load true 3 (.t 12)), qu 14 (.call 42 [(.t 11), (.t 13)]), qu 15 (.bslice 3 1 2 [(.int .i64 0), (.int .i64 0)] [(0, 1, (.t 9)), (1, 1, (.t 14))]), qu 16 (.call 50 [(.t 15)]), qu 4 (.mv (.t 16))]) .ret))
theorem tr24 : trFun Tryz.prog 24 = some ⟨17, [.t 4], c24⟩ := by kernel_rfl
set_option maxHeartbeats 4000000 in
theorem ok_cmpP : SpecOK Tryz.prog 24 (flat spCmpP) := by
  refine flat_run (env_cons ok_qCmp (env_cons ok_or (env_nil _))) mixed tr24 ?_
  intro args v h N hG
  unfold spCmpP at hG
  split at hG
  case h_2 => cases hG
  rename_i ca cb
  split at hG
  case h_2 => cases hG
  rename_i a b ha hb
  split at hG
  case isFalse => cases hG
  rename_i hs
  obtain ⟨sa, sb⟩ := hs
  cases hG
  have ea := dec2_pcl ha
  have eb := dec2_pcl hb
  subst ea eb
  refine ⟨rfl, by simp, ?_⟩
  have s1 := qcmp (pok1 sa (by omega)) (pok1 sb (by omega))
  have s2 := qcmp (pok2 sa (by omega)) (pok2 sb (by omega))
  have ec : cmpP (pv2 a) (pv2 b) = if sg (a.1.v - b.1.v) ≠ 0 then sg (a.1.v - b.1.v) else sg (a.2.v - b.2.v) := rfl
  rw [ec]
  generalize sg (a.1.v - b.1.v) = X at *
  generalize sg (a.2.v - b.2.v) = Y at *
  simp only [c24, G0, Nat.reduceAdd]
  simp only [↓R0, R1, simprocAttr, -Int.reduceAbs, rdS, pcl_len, pcl_ok, pcl_tk, pcl_x, pcl_y, q_len, q_ok, q_tk, s1, s2, spOr, Fin, isEnd, resL, res1]
  exact ⟨_, rfl, rfl, fun k hk => by simp only [ne_nb hk, if_false]⟩
theorem cmpP_bd (a b : P2) : -1 ≤ cmpP a b ∧ cmpP a b ≤ 1 := by
  have key : ∀ q, -1 ≤ sg q ∧ sg q ≤ 1 := fun q => by rcases sg3 q with ⟨_, y⟩ | ⟨_, y⟩ | ⟨_, y⟩ <;> rw [y] <;> omega
  unfold cmpP
  split <;> exact key _
theorem sg_bd (q : Rat) : -1 ≤ sg q ∧ sg q ≤ 1 := by rcases sg3 q with ⟨_, y⟩ | ⟨_, y⟩ | ⟨_, y⟩ <;> rw [y] <;> omega
theorem mul_wrap {x y : Int} (hx : -1 ≤ x ∧ x ≤ 1) (hy : -1 ≤ y ∧ y ≤ 1) : IntKind.i64.wrap (x * y) = x * y := by
  refine i64_in _ ?_
  have : x = -1 ∨ x = 0 ∨ x = 1 := by omega
  have : y = -1 ∨ y = 0 ∨ y = 1 := by omega
  rcases ‹x = -1 ∨ x = 0 ∨ x = 1› with rfl | rfl | rfl <;> rcases ‹y = -1 ∨ y = 0 ∨ y = 1› with rfl | rfl | rfl <;> decide
def spOnP : List Value → Option Value
  | [.agg ⟨ca⟩, .agg ⟨cb⟩, .agg ⟨cx⟩] => match dec2 ca, dec2 cb, dec2 cx with
    | some a, some b, some x => if pok 1000000 a ∧ pok 1000000 b ∧ pok 1000000 x then some (.bool (onB (pv2 a) (pv2 b) (pv2 x))) else none
    | _, _, _ => none
  | _ => none
theorem onP_of {a b x : PQ} (ha : pok 1000000 a) (hb : pok 1000000 b) (hx : pok 1000000 x) : spOnP [.agg ⟨pcl a⟩, .agg ⟨pcl b⟩, .agg ⟨pcl x⟩] = some (.bool (onB (pv2 a) (pv2 b) (pv2 x))) := by
  unfold spOnP
  simp only [pcl_dec]
  exact if_pos ⟨ha, hb, hx⟩
def c41 : ICode :=
  (.seq (.reg [qq 3 (.box 34 6 (.t 0)), qq 4 (.box 34 6 (.t 1)), qq 5 (.box 34 6 (.t 2)), qq 6 (.mv (.c (.bool false)))]) (.seq (.dreg [qu 7 (.load true 6 (.t 3)), qu 8 (.load true 6 (.t 4)), qu 9 (.load true 6 (.t 5)), qu 10 (.call 21 [(.t 7), (.t 8), (.t 9)]), qu 11 (.bin .eql (.t 10) (ci 0)), qu 12 (.mv (.t 11)), ⟨(some 13), (some (12, true)), [], (.load true 6 (.t 3))⟩, ⟨(some 14), (some (12, true)), [], (.load true 6 (.t 5))⟩, ⟨(some 15), (some (12, true)), [], (.call 24 [(.t 13), (.t 14)])⟩, ⟨(some 16), (some (12, true)), [8], (.load true 6 (.t 5))⟩, ⟨(some 17), (some (12, true)), [8], (.load true 6 (.t 4))⟩, ⟨(some 18), (some (12, true)), [], (.call 24 [(.t 16), (.t 17)])⟩, ⟨(some 19), (some (12, true)), [], (.bin .mul (.t 15) (.t 18))⟩, ⟨(some 20), (some (12, true)), [], (.bin .geq (.t 19) (ci 0))⟩, qu 21 (.pick (.t 12) (.t 20) (.c (.bool false))), qu 22 (.mv (.t 21)), ⟨(some 23), (some (22, true)), [], (.load true 6 (.t 3))⟩, ⟨(some 24), (some (22, true)), [], (.load true 6 (.t 4))⟩, ⟨(some 25), (some (22, true)), [], (.call 24 [(.t 23), (.t 24)])⟩, ⟨(some 26), (some (22, true)), [], (.bin .neq (.t 25) (ci 0))⟩, ⟨(some 27), (some (22, true)), [], (.mv (.t 26))⟩, ⟨(some 28), (some (27, false)), [], (.load true 6 (.t 3))⟩, ⟨(some 29), (some (27, false)), [], (.load true 6 (.t 5))⟩, ⟨(some 30), (some (27, false)), [], (.call 24 [(.t 28), (.t 29)])⟩, ⟨(some 31), (some (27, false)), [], (.bin .eql (.t 30) (ci 0))⟩, ⟨(some 32), (some (22, true)), [], (.pick (.t 27) (.c (.bool true)) (.t 31))⟩, qu 33 (.pick (.t 22) (.t 32) (.c (.bool false))), qu 6 (.mv (.t 33))]) .ret))
theorem tr41 : trFun Tryz.prog 41 = some ⟨34, [.t 6], c41⟩ := by kernel_rfl
set_option maxHeartbeats 4000000 in
theorem ok_onP : SpecOK Tryz.prog 41 (flat spOnP) := by
  refine flat_run (env_cons ok_turn (env_cons ok_cmpP (env_nil _))) mixed tr41 ?_
  intro args v h N hG
  unfold spOnP at hG
  split at hG
  case h_2 => cases hG
  rename_i ca cb cx
  split at hG
  case h_2 => cases hG
  rename_i a b x ha hb hx
  split at hG
  case isFalse => cases hG
  rename_i hs
  obtain ⟨sa, sb, sx⟩ := hs
  cases hG
  have ea := dec2_pcl ha
  have eb := dec2_pcl hb
  have ex := dec2_pcl hx
  subst ea eb ex
  refine ⟨rfl, by simp, ?_⟩
  have dn : ∀ a b : Int, decide (a ≠ b) = !decide (a = b) := fun a b => by by_cases h : a = b <;> simp [h]
  have t1 := turn_of sa sb sx
  have t2 := cmpP_of sa sx
  have t3 := cmpP_of sx sb
  have t4 := cmpP_of sa sb
  have wm := mul_wrap (cmpP_bd (pv2 a) (pv2 x)) (cmpP_bd (pv2 x) (pv2 b))
  unfold onB
  generalize sg (cr (pv2 a) (pv2 b) (pv2 x)) = S at *
  generalize cmpP (pv2 a) (pv2 x) = X at *
  generalize cmpP (pv2 x) (pv2 b) = Y at *
  generalize cmpP (pv2 a) (pv2 b) = Z at *
  by_cases h1 : S = 0
  case neg =>
    have h1' : (S = 0) = False := eq_false h1
    simp only [c41, G0, Nat.reduceAdd]
    simp only [↓R0, R1, simprocAttr, -Int.reduceAbs, pcl_len, pcl_ok, pcl_tk, t1, h1', Bool.false_and, Bool.not_false, decide_false, Fin, isEnd, resL, res1]
    exact ⟨_, rfl, rfl, fun k hk => by simp only [ne_nb hk, if_false]⟩
  have h1' : (S = 0) = True := eq_true h1
  by_cases h2 : 0 ≤ X * Y
  case neg =>
    have h2' : (0 ≤ X * Y) = False := eq_false h2
    have h2'' : (X * Y ≥ 0) = False := eq_false h2
    simp only [c41, G0, Nat.reduceAdd]
    simp only [↓R0, R1, simprocAttr, -Int.reduceAbs, pcl_len, pcl_ok, pcl_tk, t1, t2, t3, wm, h1', h2', h2'', Bool.false_and, Bool.true_and, Bool.not_false, Bool.not_true, decide_false, decide_true, Fin, isEnd, resL, res1]
    exact ⟨_, rfl, rfl, fun k hk => by simp only [ne_nb hk, if_false]⟩
  have h2' : (0 ≤ X * Y) = True := eq_true h2
  have h2'' : (X * Y ≥ 0) = True := eq_true h2
  by_cases h3 : Z = 0
  case neg =>
    have h3' : (Z = 0) = False := eq_false h3
    simp only [c41, G0, Nat.reduceAdd]
    simp only [↓R0, R1, simprocAttr, -Int.reduceAbs, pcl_len, pcl_ok, pcl_tk, t1, t2, t3, t4, wm, dn, h1', h2', h2'', h3', Bool.true_or, Bool.false_and, Bool.true_and, Bool.not_false, Bool.not_true, decide_false, decide_true, Fin, isEnd, resL, res1]
    exact ⟨_, rfl, rfl, fun k hk => by simp only [ne_nb hk, if_false]⟩
  have h3' : (Z = 0) = True := eq_true h3
  simp only [c41, G0, Nat.reduceAdd]
  simp only [↓R0, R1, simprocAttr, -Int.reduceAbs, pcl_len, pcl_ok, pcl_tk, t1, t2, t3, t4, wm, dn, h1', h2', h2'', h3', Bool.false_or, Bool.false_and, Bool.true_and, Bool.not_false, Bool.not_true, decide_false, decide_true, Fin, isEnd, resL, res1]
  exact ⟨_, rfl, rfl, fun k hk => by simp only [ne_nb hk, if_false]⟩
def spMeet : List Value → Option Value
  | [.agg ⟨ca⟩, .agg ⟨cb⟩, .agg ⟨cc⟩, .agg ⟨cd⟩] => match dec2 ca, dec2 cb, dec2 cc, dec2 cd with
    | some a, some b, some c, some d => if pok 1000000 a ∧ pok 1000000 b ∧ pok 1000000 c ∧ pok 1000000 d then some (.bool (meetB (pv2 a) (pv2 b) (pv2 c) (pv2 d))) else none
    | _, _, _, _ => none
  | _ => none
theorem meet_of {a b c d : PQ} (ha : pok 1000000 a) (hb : pok 1000000 b) (hc : pok 1000000 c) (hd : pok 1000000 d) : spMeet [.agg ⟨pcl a⟩, .agg ⟨pcl b⟩, .agg ⟨pcl c⟩, .agg ⟨pcl d⟩] = some (.bool (meetB (pv2 a) (pv2 b) (pv2 c) (pv2 d))) := by
  unfold spMeet
  simp only [pcl_dec]
  exact if_pos ⟨ha, hb, hc, hd⟩
def c49 : ICode :=
  (.seq (.reg [qq 4 (.box 34 6 (.t 0)), qq 5 (.box 34 6 (.t 1)), qq 6 (.box 34 6 (.t 2)), qq 7 (.box 34 6 (.t 3)), qq 8 (.mv (.c (.bool false)))]) (.seq (.seq (.reg [qq 9 (.load true 6 (.t 4)), qq 10 (.load true 6 (.t 5)), qq 11 (.load true 6 (.t 6)), qq 12 (.call 41 [(.t 9), (.t 10), (.t 11)]), qq 13 (.mv (.t 12)), ⟨(some 14), (some (13, false)), (.load true 6 (.t 4))⟩, ⟨(some 15), (some (13, false)), (.load true 6 (.t 5))⟩, ⟨(some 16), (some (13, false)), (.load true 6 (.t 7))⟩, ⟨(some 17), (some (13, false)), (.call 41 [(.t 14), (.t 15), (.t 16)])⟩, qq 18 (.pick (.t 13) (.c (.bool true)) (.t 17)), qq 19 (.mv (.t 18)), ⟨(some 20), (some (19, false)), (.load true 6 (.t 6))⟩, ⟨(some 21), (some (19, false)), (.load true 6 (.t 7))⟩, ⟨(some 22), (some (19, false)), (.load true 6 (.t 4))⟩, ⟨(some 23), (some (19, false)), (.call 41 [(.t 20), (.t 21), (.t 22)])⟩, qq 24 (.pick (.t 19) (.c (.bool true)) (.t 23)), qq 25 (.mv (.t 24)), ⟨(some 26), (some (25, false)), (.load true 6 (.t 6))⟩, ⟨(some 27), (some (25, false)), (.load true 6 (.t 7))⟩, ⟨(some 28), (some (25, false)), (.load true 6 (.t 5))⟩, ⟨(some 29), (some (25, false)), (.call 41 [(.t 26), (.t 27), (.t 28)])⟩, qq 30 (.pick (.t 25) (.c (.bool true)) (.t 29))]) (.cond (.t 30) (.seq (.reg [qq 8 (.mv (.c (.bool true)))]) .ret) .skip)) (.seq (.dreg [qu 31 (.load true 6 (.t 4)), qu 32 (.load true 6 (.t 5)), qu 33 (.load true 6 (.t 6)), qu 34 (.call 21 [(.t 31), (.t 32), (.t 33)]), qv 35 [3] (.load true 6 (.t 4)), qv 36 [3] (.load true 6 (.t 5)), qv 37 [3] (.load true 6 (.t 7)), qu 38 (.call 21 [(.t 35), (.t 36), (.t 37)]), qu 39 (.bin .mul (.t 34) (.t 38)), qu 40 (.bin .lss (.t 39) (ci 0)), qu 41 (.mv (.t 40)), ⟨(some 42), (some (41, true)), [], (.load true 6 (.t 6))⟩, ⟨(some 43), (some (41, true)), [], (.load true 6 (.t 7))⟩, ⟨(some 44), (some (41, true)), [], (.load true 6 (.t 4))⟩, ⟨(some 45), (some (41, true)), [], (.call 21 [(.t 42), (.t 43), (.t 44)])⟩, ⟨(some 46), (some (41, true)), [14], (.load true 6 (.t 6))⟩, ⟨(some 47), (some (41, true)), [14], (.load true 6 (.t 7))⟩, ⟨(some 48), (some (41, true)), [14], (.load true 6 (.t 5))⟩, ⟨(some 49), (some (41, true)), [], (.call 21 [(.t 46), (.t 47), (.t 48)])⟩, ⟨(some 50), (some (41, true)), [], (.bin .mul (.t 45) (.t 49))⟩, ⟨(some 51), (some (41, true)), [], (.bin .lss (.t 50) (ci 0))⟩, qu 52 (.pick (.t 41) (.t 51) (.c (.bool false))), qu 8 (.mv (.t 52))]) .ret)))
theorem tr49 : trFun Tryz.prog 49 = some ⟨53, [.t 8], c49⟩ := by kernel_rfl
set_option maxHeartbeats 4000000 in
theorem ok_meet : SpecOK Tryz.prog 49 (flat spMeet) := by
  refine flat_run (env_cons ok_onP (env_cons ok_turn (env_nil _))) mixed tr49 ?_
  intro args v h N hG
  unfold spMeet at hG
  split at hG
  case h_2 => cases hG
  rename_i ca cb cc cd'
  split at hG
  case h_2 => cases hG
  rename_i a b c d ha hb hc hd
  split at hG
  case isFalse => cases hG
  rename_i hs
  obtain ⟨sa, sb, sc, sd⟩ := hs
  cases hG
  have ea := dec2_pcl ha
  have eb := dec2_pcl hb
  have ec := dec2_pcl hc
  have ed := dec2_pcl hd
  subst ea eb ec ed
  refine ⟨rfl, by simp, ?_⟩
  have o1 := onP_of sa sb sc
  have o2 := onP_of sa sb sd
  have o3 := onP_of sc sd sa
  have o4 := onP_of sc sd sb
  have t1 := turn_of sa sb sc
  have t2 := turn_of sa sb sd
  have t3 := turn_of sc sd sa
  have t4 := turn_of sc sd sb
  have w1 := mul_wrap (sg_bd (cr (pv2 a) (pv2 b) (pv2 c))) (sg_bd (cr (pv2 a) (pv2 b) (pv2 d)))
  have w2 := mul_wrap (sg_bd (cr (pv2 c) (pv2 d) (pv2 a))) (sg_bd (cr (pv2 c) (pv2 d) (pv2 b)))
  unfold meetB
  generalize onB (pv2 a) (pv2 b) (pv2 c) = B1 at *
  generalize onB (pv2 a) (pv2 b) (pv2 d) = B2 at *
  generalize onB (pv2 c) (pv2 d) (pv2 a) = B3 at *
  generalize onB (pv2 c) (pv2 d) (pv2 b) = B4 at *
  generalize sg (cr (pv2 a) (pv2 b) (pv2 c)) = X at *
  generalize sg (cr (pv2 a) (pv2 b) (pv2 d)) = Y at *
  generalize sg (cr (pv2 c) (pv2 d) (pv2 a)) = Z at *
  generalize sg (cr (pv2 c) (pv2 d) (pv2 b)) = W at *
  cases B1 with
  | true =>
    simp only [c49, G0, Nat.reduceAdd]
    simp only [↓R0, R1, simprocAttr, -Int.reduceAbs, pcl_len, pcl_ok, pcl_tk, o1, Bool.true_or, Fin, isEnd, resL, res1]
    exact ⟨_, rfl, rfl, fun k hk => by simp only [ne_nb hk, if_false]⟩
  | false =>
  cases B2 with
  | true =>
    simp only [c49, G0, Nat.reduceAdd]
    simp only [↓R0, R1, simprocAttr, -Int.reduceAbs, pcl_len, pcl_ok, pcl_tk, o1, o2, Bool.true_or, Bool.false_or, Fin, isEnd, resL, res1]
    exact ⟨_, rfl, rfl, fun k hk => by simp only [ne_nb hk, if_false]⟩
  | false =>
  cases B3 with
  | true =>
    simp only [c49, G0, Nat.reduceAdd]
    simp only [↓R0, R1, simprocAttr, -Int.reduceAbs, pcl_len, pcl_ok, pcl_tk, o1, o2, o3, Bool.true_or, Bool.false_or, Fin, isEnd, resL, res1]
    exact ⟨_, rfl, rfl, fun k hk => by simp only [ne_nb hk, if_false]⟩
  | false =>
  cases B4 with
  | true =>
    simp only [c49, G0, Nat.reduceAdd]
    simp only [↓R0, R1, simprocAttr, -Int.reduceAbs, pcl_len, pcl_ok, pcl_tk, o1, o2, o3, o4, Bool.true_or, Bool.false_or, Fin, isEnd, resL, res1]
    exact ⟨_, rfl, rfl, fun k hk => by simp only [ne_nb hk, if_false]⟩
  | false =>
  by_cases h1 : X * Y < 0
  case neg =>
    have h1' : (X * Y < 0) = False := eq_false h1
    simp only [c49, G0, Nat.reduceAdd]
    simp only [↓R0, R1, simprocAttr, -Int.reduceAbs, pcl_len, pcl_ok, pcl_tk, o1, o2, o3, o4, t1, t2, w1, h1', decide_false, Bool.false_or, Bool.false_and, Fin, isEnd, resL, res1]
    exact ⟨_, rfl, rfl, fun k hk => by simp only [ne_nb hk, if_false]⟩
  have h1' : (X * Y < 0) = True := eq_true h1
  simp only [c49, G0, Nat.reduceAdd]
  simp only [↓R0, R1, simprocAttr, -Int.reduceAbs, pcl_len, pcl_ok, pcl_tk, o1, o2, o3, o4, t1, t2, t3, t4, w1, w2, h1', decide_true, Bool.false_or, Bool.true_and, Fin, isEnd, resL, res1]
  exact ⟨_, rfl, rfl, fun k hk => by simp only [ne_nb hk, if_false]⟩
end Go.Eng
end
section
set_option linter.unusedVariables false
set_option linter.unusedSimpArgs false
set_option linter.unusedSectionVars false
namespace Go.Eng
def ExtL (N : Nat) (h hp : Heap) : Prop := ∀ k, k < N → hget hp k = hget h k
theorem extL_ge {N M : Nat} (hM : N ≤ M) (j : Nat) (b : Option Blk) (h hp : Heap) : ExtL N h ((M + j, b) :: hp) = ExtL N h hp := by
  unfold ExtL
  refine propext ⟨fun H k hk => ?_, fun H k hk => ?_⟩
  · have := H k hk; simp only [hget, show (M + j = k) = False from eq_false (by omega), if_false] at this; exact this
  · simp only [hget, show (M + j = k) = False from eq_false (by omega), if_false]; exact H k hk
theorem newHL1 (v e s c) (σ : Nat → Nat) : newH ⟨1, v, e, s, c⟩ σ 1 = [(σ 0, some ⟨e 0, s 0, false, c σ 0⟩)] := rfl
end Go.Eng
end
section
set_option linter.unusedVariables false
set_option linter.unusedSimpArgs false
set_option linter.unusedSectionVars false
set_option maxRecDepth 20000
namespace Go.Eng
open Go Go.Proofs Go.IntWalk
def spAt2 : List Value → Heap → Option Value
  | [.int .i64 i, .pointer (some ⟨k1, 0, none⟩), .pointer (some ⟨k2, 0, none⟩)], h => match hget h k1, hget h k2 with
    | some ⟨_, _, _, [sl]⟩, some ⟨_, _, _, [.int .i64 n]⟩ => match decPts h sl with
      | some l => if 0 ≤ i ∧ n = l.length ∧ 0 < l.length then some (.agg ⟨pcl (pqAt l (i.toNat % l.length))⟩) else none
      | none => none
    | _, _ => none
  | _, _ => none
theorem at2_of {h : Heap} {k1 k2 j : Nat} {e s e' s' : Nat} {x x' : Bool} {sl : Value} {l : List PQ} (h1 : hget h k1 = some ⟨e, s, x, [sl]⟩) (h2 : hget h k2 = some ⟨e', s', x', [.int .i64 l.length]⟩) (hx : decPts h sl = some l) (h0 : 0 < l.length) :
    spAt2 [.int .i64 (j : Nat), .pointer (some ⟨k1, 0, none⟩), .pointer (some ⟨k2, 0, none⟩)] h = some (.agg ⟨pcl (pqAt l (j % l.length))⟩) := by
  unfold spAt2
  simp only [h1, h2, hx, Int.toNat_natCast]
  exact if_pos ⟨by omega, trivial, h0⟩
def c48 : ICode :=
  (.seq (.reg [qq 4 (.alloc 34 6 [(.bool false), e0, e0, (.bool false), e0, e0])]) (.seq (.dreg [qu 5 (.load false 1 (.t 1)), qu 6 (.mv (.t 0)), qu 7 (.load false 1 (.t 2)), qu 8 (.bin .rem (.t 6) (.t 7)), qu 9 (.ixsl 6 (.t 5) (.t 8)), qu 10 (.load true 6 (.t 9)), qm (.store 6 (.t 4) (.t 10))]) .ret))
theorem tr48 : trFun Tryz.prog 48 = some ⟨11, [.cell 4 true 6], c48⟩ := by kernel_rfl
set_option maxHeartbeats 4000000 in
theorem ok_at2 : SpecOK Tryz.prog 48 (rdS spAt2) := by
  refine rd_run (env_nil _) mixed tr48 ?_ ?_
  · intro args h h' v hle e
    unfold spAt2 at e ⊢
    split at e
    · split at e
      · rename_i h1 h2
        split at e
        · rename_i l hb
          simp only [hle _ _ h1, hle _ _ h2, decPts_mono hle hb]; exact e
        · cases e
      · cases e
    · cases e
  intro args v h N hG hN
  unfold spAt2 at hG
  split at hG
  case h_2 => cases hG
  rename_i i k1 k2
  split at hG
  case h_2 => cases hG
  rename_i e s x sl e' s' x' n h1 h2
  split at hG
  case h_2 => cases hG
  rename_i l hx
  split at hG
  case isFalse => cases hG
  rename_i hs
  obtain ⟨i0, en, l0⟩ := hs
  subst en
  obtain ⟨i, rfl⟩ := Int.eq_ofNat_of_zero_le i0
  rw [Int.toNat_natCast] at hG
  cases hG
  obtain ⟨a, c, rfl⟩ := decPts_sl hx
  refine ⟨rfl, by simp, ?_⟩
  have hm : i % l.length < l.length := Nat.mod_lt _ l0
  obtain ⟨k, off, blk, rfl, hb, q1, q2⟩ := pts_at hx hm
  have n1 := hN _ _ h1
  have n2 := hN _ _ h2
  have n3 := hN _ _ hb
  have ne1 : ∀ j, (N + j = k1) = False := fun j => eq_false (by omega)
  have ne2 : ∀ j, (N + j = k2) = False := fun j => eq_false (by omega)
  have ne3 : ∀ j, (N + j = k) = False := fun j => eq_false (by omega)
  have tm : Int.tmod (i : Int) (l.length : Int) = ((i % l.length : Nat) : Int) := rfl
  have z1 : ((l.length : Int) = 0) = False := eq_false (by omega)
  have z2 : (l.length = 0) = False := eq_false (by omega)
  have hm' : (((i % l.length : Nat) : Int) < (l.length : Int)) = True := eq_true (by omega)
  generalize pqAt l (i % l.length) = P at *
  generalize i % l.length = m at *
  simp only [c48, G0, Nat.reduceAdd]
  simp only [↓R0, R1, simprocAttr, -Int.reduceAbs, ne1, ne2, ne3, h1, h2, hb, tm, z1, z2, hm, hm', q1, q2, pcl_len, pcl_ok, pcl_tk, pp_st, Fin, isEnd, resL, res1]
  exact ⟨_, rfl, rfl, fun k hk => by simp only [ne_nb hk, if_false]⟩
def prG (L : List P2) (i : Nat) : Prop := cmpP (vt L i) (vt L (i + 1)) ≠ 0 ∧ onB (vt L i) (vt L (i + 1)) (vt L (i + 2)) = false ∧ onB (vt L (i + 1)) (vt L (i + 2)) (vt L i) = false ∧
  ∀ k, k < i + L.length - 1 → i + 2 ≤ k → meetB (vt L i) (vt L (i + 1)) (vt L k) (vt L (k + 1)) = false
def ptsOK (l : List PQ) : Prop := l.length ≤ 1000 ∧ ∀ p ∈ l, pok 1000000 p
instance {l : List PQ} : Decidable (ptsOK l) := by unfold ptsOK; infer_instance
theorem ptsOK.at {l : List PQ} (h : ptsOK l) {i : Nat} (hi : 0 < l.length) : pok 1000000 (pqAt l (i % l.length)) := h.2 _ (pqAt_mem (Nat.mod_lt _ hi))
def spProf : List Value → Heap → Option Value
  | [sl], h => match decPts h sl with
    | some l => if ptsOK l then some (.bool (decide (profP (pvs l)))) else none
    | none => none
  | _, _ => none
theorem prof_of {h : Heap} {sl : Value} {l : List PQ} (hx : decPts h sl = some l) (hs : ptsOK l) : spProf [sl] h = some (.bool (decide (profP (pvs l)))) := by
  unfold spProf
  simp only [hx]
  exact if_pos hs
def c20 : ICode :=
  (.seq (.reg [qq 1 (.box 22 1 (.t 0)), qq 2 (.mv (.c (.bool false)))]) (.seq (.reg [qq 9 (.load false 1 (.t 1)), qq 10 (.lensl (.t 9)), qq 3 (.alloc 3 1 [(.int .i64 0)]), qn (.store 1 (.t 3) (.t 10))]) (.seq (.seq (.reg [qq 11 (.load false 1 (.t 3)), qq 12 (.bin .lss (.t 11) (ci 3))]) (.cond (.t 12) (.seq (.reg [qq 2 (.mv (.c (.bool false)))]) .ret) .skip)) (.seq (.reg [qq 13 (.mkfn 48 [(.t 1), (.t 3)]), qq 4 (.mv (.t 13))]) (.seq (.seq (.reg [qq 14 (.load false 1 (.t 1)), qq 15 (.lensl (.t 14)), qq 16 (.mv (ci 0))]) (.block 0 (.loop (.seq (.reg [qq 17 (.bin .lss (.t 16) (.t 15))]) (.seq (.cond (.t 17) .skip (.exit 0)) (.seq (.block 1 (.seq (.reg [qq 18 (.mv (.t 16)), qq 5 (.mv (.t 18))]) (.seq (.reg [qq 19 (.mv (.t 4)), qq 20 (.mv (.t 5)), qq 21 (.callv (.t 19) [(.t 20)]), qq 22 (.mv (.t 4)), qq 23 (.mv (.t 5)), qq 24 (.bin .add (.t 23) (ci 1)), qq 25 (.callv (.t 22) [(.t 24)]), qq 6 (.alloc 34 6 [(.bool false), e0, e0, (.bool false), e0, e0]), qq 7 (.alloc 34 6 [(.bool false), e0, e0, (.bool false), e0, e0]), qn (.store 6 (.t 6) (.t 21)), qn (.store 6 (.t 7) (.t 25))]) (.seq (.seq (.dreg [qu 26 (.load true 6 (.t 6)), qu 27 (.load true 6 (.t 7)), qu 28 (.call 24 [(.t 26), (.t 27)]), qu 29 (.bin .eql (.t 28) (ci 0)), qu 30 (.mv (.t 29)), ⟨(some 31), (some (30, false)), [], (.load true 6 (.t 6))⟩, ⟨(some 32), (some (30, false)), [], (.load true 6 (.t 7))⟩, ⟨(some 33), (some (30, false)), [], (.mv (.t 4))⟩, ⟨(some 34), (some (30, false)), [], (.mv (.t 5))⟩, ⟨(some 35), (some (30, false)), [], (.bin .add (.t 34) (ci 2))⟩, ⟨(some 36), (some (30, false)), [], (.callv (.t 33) [(.t 35)])⟩, ⟨(some 37), (some (30, false)), [], (.call 41 [(.t 31), (.t 32), (.t 36)])⟩, qu 38 (.pick (.t 30) (.c (.bool true)) (.t 37)), qu 39 (.mv (.t 38)), ⟨(some 40), (some (39, false)), [], (.load true 6 (.t 7))⟩, ⟨(some 41), (some (39, false)), [], (.mv (.t 4))⟩, ⟨(some 42), (some (39, false)), [], (.mv (.t 5))⟩, ⟨(some 43), (some (39, false)), [], (.bin .add (.t 42) (ci 2))⟩, ⟨(some 44), (some (39, false)), [], (.callv (.t 41) [(.t 43)])⟩, ⟨(some 45), (some (39, false)), [18], (.load true 6 (.t 6))⟩, ⟨(some 46), (some (39, false)), [], (.call 41 [(.t 40), (.t 44), (.t 45)])⟩, qu 47 (.pick (.t 39) (.c (.bool true)) (.t 46))]) (.cond (.t 47) (.seq (.reg [qq 2 (.mv (.c (.bool false)))]) .ret) .skip)) (.seq (.reg [qq 48 (.mv (.t 5)), qq 49 (.bin .add (.t 48) (ci 2)), qq 8 (.mv (.t 49))]) (.block 2 (.loop (.seq (.seq (.reg [qq 50 (.mv (.t 8)), qq 51 (.mv (.t 5)), qq 52 (.load false 1 (.t 3)), qq 53 (.bin .add (.t 51) (.t 52)), qq 54 (.bin .sub (.t 53) (ci 1)), qq 55 (.bin .lss (.t 50) (.t 54))]) (.cond (.t 55) .skip (.exit 2))) (.seq (.block 3 (.seq (.dreg [qu 58 (.load true 6 (.t 6)), qu 59 (.load true 6 (.t 7)), qu 60 (.mv (.t 4)), qu 61 (.mv (.t 8)), qu 62 (.callv (.t 60) [(.t 61)]), qu 63 (.mv (.t 4)), qu 64 (.mv (.t 8)), qu 65 (.bin .add (.t 64) (ci 1)), qu 66 (.callv (.t 63) [(.t 65)]), qu 67 (.call 49 [(.t 58), (.t 59), (.t 62), (.t 66)])]) (.cond (.t 67) (.seq (.reg [qq 2 (.mv (.c (.bool false)))]) .ret) .skip))) (.reg [qq 56 (.mv (.t 8)), qq 57 (.bin .add (.t 56) (ci 1)), qq 8 (.mv (.t 57))])))))))))) (.reg [qq 68 (.bin .add (.t 16) (ci 1)), qq 16 (.mv (.t 68))]))))))) (.seq (.reg [qq 2 (.mv (.c (.bool true)))]) .ret))))))
theorem tr20 : trFun Tryz.prog 20 = some ⟨69, [.t 2], c20⟩ := by kernel_rfl
set_option maxHeartbeats 16000000 in
theorem ok_prof : SpecOK Tryz.prog 20 (rdS spProf) := by
  refine rd_run (env_cons ok_at2 (env_cons ok_cmpP (env_cons ok_onP (env_cons ok_meet (env_nil _))))) mixed tr20 ?_ ?_
  · intro args h h' v hle e
    unfold spProf at e ⊢
    split at e
    · split at e
      · rename_i l hb
        simp only [decPts_mono hle hb]; exact e
      · cases e
    · cases e
  intro args v h N hG hN
  unfold spProf at hG
  split at hG
  case h_2 => cases hG
  rename_i sl
  split at hG
  case h_2 => cases hG
  rename_i l hx
  split at hG
  case isFalse => cases hG
  rename_i hs
  cases hG
  obtain ⟨a, cc, rfl⟩ := decPts_sl hx
  refine ⟨rfl, by simp, ?_⟩
  have l1000 := hs.1
  have nbN : ∀ q, q < N → ∀ j, (N + j = q) = False := fun q hq j => eq_false (by omega)
  have hL : (pvs l).length = l.length := pvs_len l
  by_cases n3 : l.length < 3
  · have n3' : ((l.length : Int) < 3) = True := eq_true (by omega)
    have ev : decide (profP (pvs l)) = false := decide_eq_false fun h => by have := h.1; omega
    rw [ev]
    simp only [c20, G0, Nat.reduceAdd]
    simp only [↓R0, R1, simprocAttr, -Int.reduceAbs, n3', Fin, isEnd, resL, res1]
    exact ⟨_, rfl, rfl, fun k hk => by simp only [ne_nb hk, if_false]⟩
  have n3' : ((l.length : Int) < 3) = False := eq_false (by omega)
  have l0 : 0 < l.length := by omega
  have g10 : (N + 1 = N + 0) = False := eq_false (by omega)
  simp only [c20, G0, Nat.reduceAdd]
  simp only [↓R0, R1, simprocAttr, -Int.reduceAbs, n3']
  refine lp_parts (fun c tm hp nx => ∃ (i M : Nat), c + i = l.length ∧ tmget tm 1 = .pointer (some ⟨N + 0, 0, none⟩) ∧ tmget tm 3 = .pointer (some ⟨N + 1, 0, none⟩) ∧ tmget tm 4 = .func (.func 48) #[] ⟨[.pointer (some ⟨N + 0, 0, none⟩), .pointer (some ⟨N + 1, 0, none⟩)]⟩ ∧ tmget tm 14 = .slice a l.length cc ∧ tmget tm 15 = .int .i64 l.length ∧ tmget tm 16 = .int .i64 (i : Nat) ∧
      hget hp (N + 0) = some ⟨22, 1, true, [.slice a l.length cc]⟩ ∧ hget hp (N + 1) = some ⟨3, 1, true, [.int .i64 l.length]⟩ ∧ (∀ j, j < i → prG (pvs l) j) ∧ ExtL N h hp ∧ N + 2 ≤ M ∧ nx = M + 0) ?_ l.length
    ⟨0, N + 2, by omega, ?_, ?_, ?_, ?_, ?_, ?_, ?_, ?_, fun j hj => absurd hj (Nat.not_lt_zero j), ?_, Nat.le_refl _, rfl⟩
  rotate_left
  all_goals first | (simp only [↓R0, R1, simprocAttr, -Int.reduceAbs]; done) | (simp only [↓R0, R1, simprocAttr, -Int.reduceAbs]; rfl) | skip
  · intro q hq
    have nb := nbN q hq
    simp only [↓R0, R1, simprocAttr, -Int.reduceAbs, nb]
  rintro c tm hp nx ⟨i, M, hc, t1, t3, t4, t14, t15, t16, b0, b1, hall, hh, hM, hnx⟩
  rw [hnx]
  clear hnx nx
  have nbq : ∀ q, q < N → ∀ d, (M + d = q) = False := fun q hq d => eq_false (by omega)
  by_cases c1 : i < l.length
  case neg =>
    have e : i = l.length := by omega
    subst e
    have c1' : ((l.length : Int) < (l.length : Int)) = False := eq_false (by omega)
    have ev : decide (profP (pvs l)) = true := decide_eq_true ⟨by omega, fun j hj => hall j (by omega)⟩
    rw [ev]
    simp only [↓R0, R1, simprocAttr, -Int.reduceAbs, t1, t3, t4, t14, t15, t16, c1', Fin, isEnd, resL, res1]
    exact ⟨_, rfl, rfl, hh⟩
  have c1' : ((i : Int) < (l.length : Int)) = True := eq_true (by omega)
  have w1 : IntKind.i64.wrap ((i : Int) + 1) = ((i + 1 : Nat) : Int) := by rw [i64_in _ (by omega)]; omega
  have w2 : IntKind.i64.wrap ((i : Int) + 2) = ((i + 2 : Nat) : Int) := by rw [i64_in _ (by omega)]; omega
  have at' : ∀ (j : Nat) {hp' : Heap}, hget hp' (N + 0) = some ⟨22, 1, true, [.slice a l.length cc]⟩ → hget hp' (N + 1) = some ⟨3, 1, true, [.int .i64 l.length]⟩ → ExtL N h hp' →
      spAt2 [.int .i64 (j : Nat), .pointer (some ⟨N + 0, 0, none⟩), .pointer (some ⟨N + 1, 0, none⟩)] hp' = some (.agg ⟨pcl (pqAt l (j % l.length))⟩) := fun j hp' h1 h2 he => at2_of h1 h2 (ext_pts hN hx he) l0
  have ax0 := fun {hp'} => at' i (hp' := hp')
  have ax1 := fun {hp'} => at' (i + 1) (hp' := hp')
  have ax2 := fun {hp'} => at' (i + 2) (hp' := hp')
  have sA := hs.at (i := i) l0
  have sB := hs.at (i := i + 1) l0
  have sC := hs.at (i := i + 2) l0
  have vA := pvs_vt (i := i) l0
  have vB := pvs_vt (i := i + 1) l0
  have vC := pvs_vt (i := i + 2) l0
  have o1 := cmpP_of sA sB
  have o2 := onP_of sA sB sC
  have o3 := onP_of sB sC sA
  rw [← vA, ← vB] at o1
  rw [← vA, ← vB, ← vC] at o2 o3
  have m0 : ∀ d, (M + d = N + 0) = False := fun d => eq_false (by omega)
  have m1 : ∀ d, (M + d = N + 1) = False := fun d => eq_false (by omega)
  have m2 : ∀ d, (M + d = N) = False := fun d => eq_false (by omega)
  have xs := fun j b hp' => extL_ge (show N ≤ M by omega) j b h hp'
  have xh : ExtL N h hp = True := eq_true hh
  generalize hA : pqAt l (i % l.length) = A at *
  generalize hB : pqAt l ((i + 1) % l.length) = B at *
  generalize hC : pqAt l ((i + 2) % l.length) = C at *
  by_cases z1 : cmpP (vt (pvs l) i) (vt (pvs l) (i + 1)) = 0
  · have z1' := eq_true z1
    have ev : decide (profP (pvs l)) = false := decide_eq_false fun h => (h.2 i (by omega)).1 z1
    rw [ev]
    simp only [↓R0, R1, simprocAttr, -Int.reduceAbs, rdS, callF, t1, t3, t4, t14, t15, t16, c1', b0, b1, w1, w2, ax0, ax1, pcl_len, pcl_ok, pcl_tk, pp_st, o1, z1', m0, m1, m2, xs, xh, Fin, isEnd, resL, res1]
    refine ⟨_, rfl, rfl, fun q hq => ?_⟩
    have nb := nbq q hq
    simp only [↓R0, R1, simprocAttr, -Int.reduceAbs, nb]
    exact hh q hq
  have z1' := eq_false z1
  cases z2 : onB (vt (pvs l) i) (vt (pvs l) (i + 1)) (vt (pvs l) (i + 2)) with
  | true =>
    have ev : decide (profP (pvs l)) = false := decide_eq_false fun h => by have := (h.2 i (by omega)).2.1; rw [z2] at this; cases this
    rw [ev]
    rw [z2] at o2
    simp only [↓R0, R1, simprocAttr, -Int.reduceAbs, rdS, callF, t1, t3, t4, t14, t15, t16, c1', b0, b1, w1, w2, ax0, ax1, ax2, pcl_len, pcl_ok, pcl_tk, pp_st, o1, z1', o2, m0, m1, m2, xs, xh, Fin, isEnd, resL, res1]
    refine ⟨_, rfl, rfl, fun q hq => ?_⟩
    have nb := nbq q hq
    simp only [↓R0, R1, simprocAttr, -Int.reduceAbs, nb]
    exact hh q hq
  | false =>
  rw [z2] at o2
  cases z3 : onB (vt (pvs l) (i + 1)) (vt (pvs l) (i + 2)) (vt (pvs l) i) with
  | true =>
    have ev : decide (profP (pvs l)) = false := decide_eq_false fun h => by have := (h.2 i (by omega)).2.2.1; rw [z3] at this; cases this
    rw [ev]
    rw [z3] at o3
    simp only [↓R0, R1, simprocAttr, -Int.reduceAbs, rdS, callF, t1, t3, t4, t14, t15, t16, c1', b0, b1, w1, w2, ax0, ax1, ax2, pcl_len, pcl_ok, pcl_tk, pp_st, o1, z1', o2, o3, m0, m1, m2, xs, xh, Fin, isEnd, resL, res1]
    refine ⟨_, rfl, rfl, fun q hq => ?_⟩
    have nb := nbq q hq
    simp only [↓R0, R1, simprocAttr, -Int.reduceAbs, nb]
    exact hh q hq
  | false =>
  rw [z3] at o3
  simp only [↓R0, R1, simprocAttr, -Int.reduceAbs, rdS, callF, t1, t3, t4, t14, t15, t16, c1', b0, b1, w1, w2, ax0, ax1, ax2, pcl_len, pcl_ok, pcl_tk, pp_st, o1, z1', o2, o3, m0, m1, m2, xs, xh]
  refine lp_parts (fun d tm hp2 nx => ∃ (k M2 : Nat), d + k = i + l.length ∧ i + 2 ≤ k ∧ tmget tm 1 = .pointer (some ⟨N + 0, 0, none⟩) ∧ tmget tm 3 = .pointer (some ⟨N + 1, 0, none⟩) ∧ tmget tm 4 = .func (.func 48) #[] ⟨[.pointer (some ⟨N + 0, 0, none⟩), .pointer (some ⟨N + 1, 0, none⟩)]⟩ ∧ tmget tm 14 = .slice a l.length cc ∧ tmget tm 15 = .int .i64 l.length ∧ tmget tm 16 = .int .i64 (i : Nat) ∧
      tmget tm 5 = .int .i64 (i : Nat) ∧ tmget tm 6 = .pointer (some ⟨M + 0, 0, none⟩) ∧ tmget tm 7 = .pointer (some ⟨M + 1, 0, none⟩) ∧ tmget tm 8 = .int .i64 (k : Nat) ∧
      hget hp2 (N + 0) = some ⟨22, 1, true, [.slice a l.length cc]⟩ ∧ hget hp2 (N + 1) = some ⟨3, 1, true, [.int .i64 l.length]⟩ ∧ hget hp2 (M + 0) = some ⟨34, 6, true, pcl A⟩ ∧ hget hp2 (M + 1) = some ⟨34, 6, true, pcl B⟩ ∧
      (∀ j, j < k → i + 2 ≤ j → j < i + l.length - 1 → meetB (vt (pvs l) i) (vt (pvs l) (i + 1)) (vt (pvs l) j) (vt (pvs l) (j + 1)) = false) ∧ ExtL N h hp2 ∧ M + 2 ≤ M2 ∧ nx = M2 + 0) ?_ (l.length - 2)
    ⟨i + 2, M + 2, by omega, Nat.le_refl _, ?_, ?_, ?_, ?_, ?_, ?_, ?_, ?_, ?_, ?_, ?_, ?_, ?_, ?_, fun j h1 h2 => absurd h1 (by omega), ?_, Nat.le_refl _, rfl⟩
  rotate_left
  all_goals first | (simp only [↓R0, R1, simprocAttr, -Int.reduceAbs, t1, t3, t4, t14, t15, t16, m0, m1, m2, b0, b1]; done) | (simp only [↓R0, R1, simprocAttr, -Int.reduceAbs, t1, t3, t4, t14, t15, t16, m0, m1, m2, b0, b1]; rfl) | skip
  · intro q hq
    have nb := nbq q hq
    simp only [↓R0, R1, simprocAttr, -Int.reduceAbs, nb]
    exact hh q hq
  clear t1 t3 t4 t14 t15 t16 b0 b1 xs xh m0 m1 m2
  rintro d tm hp2 nx ⟨k, M2, hd, hk2, t1, t3, t4, t14, t15, t16, t5, t6, t7, t8, b0, b1, bA, bB, hm, hh2, hM2, hnx⟩
  rw [hnx]
  clear hnx nx
  have nbq2 : ∀ q, q < N → ∀ d, (M2 + d = q) = False := fun q hq d => eq_false (by omega)
  have wi : IntKind.i64.wrap ((i : Int) + (l.length : Int)) = ((i + l.length : Nat) : Int) := by rw [i64_in _ (by omega)]; omega
  have wj : IntKind.i64.wrap (((i + l.length : Nat) : Int) - 1) = ((i + l.length - 1 : Nat) : Int) := by rw [i64_in _ (by omega)]; omega
  by_cases d1 : k < i + l.length - 1
  case neg =>
    have d1' : ((k : Int) < ((i + l.length - 1 : Nat) : Int)) = False := eq_false (by omega)
    have d1'' : (k < i + l.length - 1) = False := eq_false d1
    simp only [↓R0, R1, simprocAttr, -Int.reduceAbs, t1, t3, t4, t14, t15, t16, t5, t6, t7, t8, b0, b1, wi, wj, d1', d1'', w1]
    refine ⟨c - 1, by omega, i + 1, M2, by omega, rfl, fun j hj => ?_, hh2, by omega, rfl⟩
    by_cases e : j = i
    · rw [e]
      refine ⟨z1, z2, z3, fun k' h1 h2 => hm k' (by omega) h2 (by omega)⟩
    · exact hall j (by omega)
  have d1' : ((k : Int) < ((i + l.length - 1 : Nat) : Int)) = True := eq_true (by omega)
  have d1'' : (k < i + l.length - 1) = True := eq_true d1
  have wk : IntKind.i64.wrap ((k : Int) + 1) = ((k + 1 : Nat) : Int) := by rw [i64_in _ (by omega)]; omega
  have ay0 := fun {hp'} => at' k (hp' := hp')
  have ay1 := fun {hp'} => at' (k + 1) (hp' := hp')
  have sD := hs.at (i := k) l0
  have sE := hs.at (i := k + 1) l0
  have vD := pvs_vt (i := k) l0
  have vE := pvs_vt (i := k + 1) l0
  have o4 := meet_of sA sB sD sE
  rw [← vA, ← vB, ← vD, ← vE] at o4
  have xh : ExtL N h hp2 = True := eq_true hh2
  generalize hD : pqAt l (k % l.length) = D at *
  generalize hE : pqAt l ((k + 1) % l.length) = E at *
  cases z4 : meetB (vt (pvs l) i) (vt (pvs l) (i + 1)) (vt (pvs l) k) (vt (pvs l) (k + 1)) with
  | true =>
    have ev : decide (profP (pvs l)) = false := decide_eq_false fun h => by have := (h.2 i (by omega)).2.2.2 k (by omega) hk2; rw [z4] at this; cases this
    rw [ev]
    rw [z4] at o4
    simp only [↓R0, R1, simprocAttr, -Int.reduceAbs, rdS, callF, t1, t3, t4, t14, t15, t16, t5, t6, t7, t8, b0, b1, bA, bB, wi, wj, d1', d1'', wk, ay0, ay1, pcl_len, pcl_ok, pcl_tk, o4, xh, Fin, isEnd, resL, res1]
    exact ⟨_, rfl, rfl, hh2⟩
  | false =>
    rw [z4] at o4
    simp only [↓R0, R1, simprocAttr, -Int.reduceAbs, rdS, callF, t1, t3, t4, t14, t15, t16, t5, t6, t7, t8, b0, b1, bA, bB, wi, wj, d1', d1'', wk, ay0, ay1, pcl_len, pcl_ok, pcl_tk, o4, xh]
    refine ⟨d - 1, by omega, k + 1, M2, by omega, by omega, rfl, fun j h1 h2 h3 => ?_, by omega, rfl⟩
    by_cases e : j = k
    · rw [e]; exact z4
    · exact hm j (by omega) h2 h3
end Go.Eng
end
section
set_option linter.unusedVariables false
set_option linter.unusedSimpArgs false
set_option linter.unusedSectionVars false
set_option maxRecDepth 20000
namespace Go.Eng
open Go Go.Proofs Go.IntWalk
theorem take_snoc {α : Type} {l : List α} {i : Nat} {x : α} (h : l[i]? = some x) : l.take (i + 1) = l.take i ++ [x] := by
  rw [List.take_add_one, h]; rfl
theorem of0 : (RQ.of 0).cells = [.bool false, .string ⟨⟨[]⟩⟩, .string ⟨⟨[]⟩⟩] := by
  show [Value.bool (decide ((0 : Rat).num < 0)), .string ⟨⟨bl (0 : Rat).num.natAbs⟩⟩, .string ⟨⟨if (0 : Rat).den = 1 then [] else bl (0 : Rat).den⟩⟩] = _
  rw [show (0 : Rat).num.natAbs = 0 from rfl, bl_zero]; rfl
theorem RB0 : RB 0 1 := ⟨by rw [show (0 : Rat).num.natAbs = 0 from rfl, bl_zero]; exact Nat.zero_le _, bl_length_le.2 (by decide)⟩
theorem rv_zero {s : Bool} {n d : List UInt8} (h : nl n = 0) : rv s n d = 0 := by
  unfold rv sv
  rw [h]
  cases s <;> exact Rat.zero_divInt _
theorem qdiv {p q : RQ} (hp : p.ok 8589934591) (hq : q.ok 8589934591) (h : q.v ≠ 0) : spQDiv [.agg ⟨p.cells⟩, .agg ⟨q.cells⟩] = some (.tuple ⟨[.agg ⟨(RQ.of (p.v / q.v)).cells⟩, .bool true]⟩) := by
  have e : spQDiv [.agg ⟨p.cells⟩, .agg ⟨q.cells⟩] = _ := if_pos ⟨by have := hp.1; omega, by have := hp.2; omega, by have := hq.1; omega, by have := hq.2; omega⟩
  rw [e, if_neg (fun z => h (rv_zero z))]; rfl
theorem RBs {z : Int} (h : -1000 ≤ z ∧ z ≤ 1000) : RB (z : Rat) 2 := ⟨by rw [Rat.num_intCast]; exact bl_length_le.2 (by omega), by rw [Rat.den_intCast]; exact Nat.le_trans (bl_length_le (k := 1).2 (by decide)) (by omega)⟩
theorem qfrom {z : Int} (h : -1000 ≤ z ∧ z ≤ 1000) : spQFrom [.int .i64 z] = some (.agg ⟨(RQ.of (z : Rat)).cells⟩) := if_pos ⟨by omega, by omega⟩
def arT (L : List P2) (i : Nat) : Rat := sumE crs ((edg L).take i)
theorem arT_s {L : List P2} {i : Nat} (h : i < L.length) : arT L (i + 1) = arT L i + crs (vt L i, vt L (i + 1)) := by
  unfold arT
  rw [take_snoc (edg_at h), sumE_app]
  show _ + (crs _ + 0) = _
  rw [Rat.add_zero]
theorem arT_all (L : List P2) : arT L L.length = ar2 L := by
  unfold arT ar2
  rw [← edg_len L, List.take_length]
theorem crs_RB {a b : PQ} {k : Nat} (ha : pok k a) (hb : pok k b) : RB (crs (pv2 a, pv2 b)) (4 * k + 5) :=
  (ha.1.rb.mul hb.2.rb (k := 2 * k + 2) (by omega)).sub (hb.1.rb.mul ha.2.rb (k := 2 * k + 2) (by omega)) (by omega)
theorem arT_RB {l : List PQ} {k : Nat} (h : ∀ p ∈ l, pok k p) (l0 : 0 < l.length) : ∀ i, i ≤ l.length → RB (arT (pvs l) i) (1 + i * (4 * k + 6))
  | 0, _ => by
    rw [Nat.zero_mul]
    exact RB0
  | i + 1, hi => by
    rw [arT_s (by rw [pvs_len]; omega)]
    have ih := arT_RB h l0 i (by omega)
    rw [pvs_vt l0, pvs_vt l0]
    refine ih.add (crs_RB (h _ (pqAt_mem (Nat.mod_lt _ l0))) (h _ (pqAt_mem (Nat.mod_lt _ l0)))) ?_
    have := Nat.succ_mul i (4 * k + 6)
    generalize (i + 1) * (4 * k + 6) = Y at *
    generalize i * (4 * k + 6) = X at *
    omega
def spArea2 : List Value → Heap → Option Value
  | [sl], h => match decPts h sl with
    | some l => if ptsOK l then some (.agg ⟨(RQ.of (ar2 (pvs l) / 2)).cells⟩) else none
    | none => none
  | _, _ => none
theorem area2_of {h : Heap} {sl : Value} {l : List PQ} (hx : decPts h sl = some l) (hs : ptsOK l) : spArea2 [sl] h = some (.agg ⟨(RQ.of (ar2 (pvs l) / 2)).cells⟩) := by
  unfold spArea2
  simp only [hx]
  exact if_pos hs
def c11 : ICode :=
  (.seq (.reg [qq 2 (.alloc 30 3 [(.bool false), e0, e0])]) (.seq (.reg [qq 3 (.alloc 30 3 [(.bool false), e0, e0])]) (.seq (.seq (.reg [qq 9 (.mv (.t 0)), qq 10 (.lensl (.t 9)), qq 11 (.mv (ci 0))]) (.block 0 (.loop (.seq (.reg [qq 12 (.bin .lss (.t 11) (.t 10))]) (.seq (.cond (.t 12) .skip (.exit 0)) (.seq (.block 1 (.seq (.reg [qq 13 (.mv (.t 11)), qq 14 (.ixsl 6 (.t 9) (.t 11)), qq 15 (.load true 6 (.t 14)), qq 5 (.alloc 34 6 [(.bool false), e0, e0, (.bool false), e0, e0]), qq 4 (.mv (.t 13)), qn (.store 6 (.t 5) (.t 15))]) (.seq (.reg [qq 16 (.mv (.t 0)), qq 17 (.mv (.t 4)), qq 18 (.bin .add (.t 17) (ci 1)), qq 19 (.mv (.t 0)), qq 20 (.lensl (.t 19)), qq 21 (.bin .rem (.t 18) (.t 20)), qq 22 (.ixsl 6 (.t 16) (.t 21)), qq 23 (.load true 6 (.t 22)), qq 6 (.alloc 34 6 [(.bool false), e0, e0, (.bool false), e0, e0]), qn (.store 6 (.t 6) (.t 23))]) (.dreg [qu 24 (.load true 3 (.t 3)), qu 25 (.ixarr 2 3 (.t 5) (ci 0)), qu 26 (.load true 3 (.t 25)), qu 27 (.ixarr 2 3 (.t 6) (ci 1)), qu 28 (.load true 3 (.t 27)), qu 29 (.call 32 [(.t 26), (.t 28)]), qu 30 (.ixarr 2 3 (.t 6) (ci 0)), qv 31 [5] (.load true 3 (.t 30)), qu 32 (.ixarr 2 3 (.t 5) (ci 1)), qv 33 [5] (.load true 3 (.t 32)), qu 34 (.call 32 [(.t 31), (.t 33)]), qu 35 (.call 31 [(.t 29), (.t 34)]), qu 36 (.call 30 [(.t 24), (.t 35)]), qm (.store 3 (.t 3) (.t 36))])))) (.reg [qq 37 (.bin .add (.t 11) (ci 1)), qq 11 (.mv (.t 37))]))))))) (.seq (.dreg [qu 39 (.load true 3 (.t 3)), qu 40 (.call 19 [(ci 2)]), qu 41 (.call 33 [(.t 39), (.t 40)]), qu 38 (.mv (.t 41)), qu 42 (.ext (.t 38) 0), qu 43 (.ext (.t 38) 1), qu 7 (.alloc 30 3 [(.bool false), e0, e0]), qm (.store 3 (.t 7) (.t 42)), qu 8 (.mv (.t 43))]) (.seq (.reg [qq 44 (.load true 3 (.t 7)), qn (.store 3 (.t 2) (.t 44))]) .ret)))))
theorem tr11 : trFun Tryz.prog 11 = some ⟨45, [.cell 2 true 3], c11⟩ := by kernel_rfl
set_option maxHeartbeats 8000000 in
theorem ok_area2 : SpecOK Tryz.prog 11 (rdS spArea2) := by
  refine rd_run (env_cons ok_qMul (env_cons ok_qSub (env_cons ok_qAdd (env_cons ok_qFrom (env_cons ok_qDiv (env_nil _)))))) mixed tr11 ?_ ?_
  · intro args h h' v hle e
    unfold spArea2 at e ⊢
    split at e
    · split at e
      · rename_i l hb
        simp only [decPts_mono hle hb]; exact e
      · cases e
    · cases e
  intro args v h N hG hN
  unfold spArea2 at hG
  split at hG
  case h_2 => cases hG
  rename_i sl
  split at hG
  case h_2 => cases hG
  rename_i l hx
  split at hG
  case isFalse => cases hG
  rename_i hs
  cases hG
  obtain ⟨a, cc, rfl⟩ := decPts_sl hx
  refine ⟨rfl, by simp, ?_⟩
  have l1000 := hs.1
  have hL : (pvs l).length = l.length := pvs_len l
  have nbN : ∀ q, q < N → ∀ j, (N + j = q) = False := fun q hq j => eq_false (by omega)
  have g01 : (N + 1 = N + 0) = False := eq_false (by omega)
  have gN : (N + 1 = N) = False := eq_false (by omega)
  have gN' : (N = N + 1) = False := eq_false (by omega)
  have f2 : spQFrom [.int .i64 2] = some (.agg ⟨(RQ.of 2).cells⟩) := qfrom (z := 2) (by omega)
  simp only [c11, G0, Nat.reduceAdd]
  simp only [↓R0, R1, simprocAttr, -Int.reduceAbs]
  refine lp_parts (fun c tm hp nx => ∃ (i M : Nat), c + i = l.length ∧ tmget tm 0 = .slice a l.length cc ∧ tmget tm 2 = .pointer (some ⟨N + 0, 0, none⟩) ∧ tmget tm 3 = .pointer (some ⟨N + 1, 0, none⟩) ∧ tmget tm 9 = .slice a l.length cc ∧ tmget tm 10 = .int .i64 l.length ∧ tmget tm 11 = .int .i64 (i : Nat) ∧
      hget hp (N + 0) = some ⟨30, 3, true, [.bool false, .string ⟨⟨[]⟩⟩, .string ⟨⟨[]⟩⟩]⟩ ∧ hget hp (N + 1) = some ⟨30, 3, true, (RQ.of (arT (pvs l) i)).cells⟩ ∧ ExtL N h hp ∧ N + 2 ≤ M ∧ nx = M + 0) ?_ l.length
    ⟨0, N + 2, by omega, ?_, ?_, ?_, ?_, ?_, ?_, ?_, ?_, ?_, Nat.le_refl _, rfl⟩
  rotate_left
  all_goals first | (simp only [↓R0, R1, simprocAttr, -Int.reduceAbs]; done) | (simp only [↓R0, R1, simprocAttr, -Int.reduceAbs]; rfl) | (simp only [↓R0, R1, simprocAttr, -Int.reduceAbs]; exact congrArg some (congrArg (Blk.mk 30 3 true) of0.symm)) | skip
  · intro q hq
    have nb := nbN q hq
    simp only [↓R0, R1, simprocAttr, -Int.reduceAbs, nb]
  rintro c tm hp nx ⟨i, M, hc, t0, t2, t3, t9, t10, t11, b0, b1, hh, hM, hnx⟩
  rw [hnx]
  clear hnx nx
  have nbq : ∀ q, q < N → ∀ d, (M + d = q) = False := fun q hq d => eq_false (by omega)
  have m0 : ∀ d, (M + d = N + 0) = False := fun d => eq_false (by omega)
  have m1 : ∀ d, (M + d = N + 1) = False := fun d => eq_false (by omega)
  have m2 : ∀ d, (M + d = N) = False := fun d => eq_false (by omega)
  have m3 : ∀ d, (N + 1 = M + d) = False := fun d => eq_false (by omega)
  have m4 : ∀ d, (N + 0 = M + d) = False := fun d => eq_false (by omega)
  by_cases c1 : i < l.length
  case neg =>
    have e : i = l.length := by omega
    subst e
    have c1' : ((l.length : Int) < (l.length : Int)) = False := eq_false (by omega)
    have eA : arT (pvs l) l.length = ar2 (pvs l) := by rw [← hL, arT_all]
    rw [eA] at b1
    have rA : RB (ar2 (pvs l)) 4000007000 := by
      by_cases l0 : 0 < l.length
      · have := arT_RB hs.2 l0 l.length (Nat.le_refl _)
        rw [eA] at this
        refine this.le ?_
        have : l.length * (4 * 1000000 + 6) ≤ 1000 * (4 * 1000000 + 6) := Nat.mul_le_mul_right _ l1000
        omega
      · have : ar2 (pvs l) = 0 := by rw [List.eq_nil_of_length_eq_zero (l := l) (by omega)]; rfl
        rw [this]
        exact RB0.le (by omega)
    have two : (RQ.of (2 : Rat)).v ≠ 0 := by rw [RQ.of_v]; decide
    have dv := qdiv (p := RQ.of (ar2 (pvs l))) (q := RQ.of 2) (ofB rA (by omega)) (ofB (RBs (z := 2) (by omega)) (by omega)) two
    rw [RQ.of_v, RQ.of_v] at dv
    generalize RQ.of (ar2 (pvs l)) = Q1 at *
    generalize RQ.of (ar2 (pvs l) / 2) = Q2 at *
    generalize RQ.of 2 = Q3 at *
    simp only [↓R0, R1, simprocAttr, -Int.reduceAbs, t0, t2, t3, t9, t10, t11, c1', b0, b1, f2, dv, q_len, q_ok, q_tk, q_st, m0, m1, m2, m3, m4, g01, gN, gN', Fin, isEnd, resL, res1]
    refine ⟨_, rfl, rfl, fun q hq => ?_⟩
    have nb := nbq q hq
    have nb0 := nbN q hq
    have nN : (N = q) = False := eq_false (by omega)
    simp only [↓R0, R1, simprocAttr, -Int.reduceAbs, nb, nb0, nN]
    exact hh q hq
  have c1' : ((i : Int) < (l.length : Int)) = True := eq_true (by omega)
  have w1 : IntKind.i64.wrap ((i : Int) + 1) = ((i + 1 : Nat) : Int) := by rw [i64_in _ (by omega)]; omega
  have l0 : 0 < l.length := by omega
  have hm : (i + 1) % l.length < l.length := Nat.mod_lt _ l0
  have tm1 : Int.tmod ((i + 1 : Nat) : Int) (l.length : Int) = (((i + 1) % l.length : Nat) : Int) := rfl
  have z1 : ((l.length : Int) = 0) = False := eq_false (by omega)
  have z2 : (l.length = 0) = False := eq_false (by omega)
  have hm' : ((((i + 1) % l.length : Nat) : Int) < (l.length : Int)) = True := eq_true (by omega)
  obtain ⟨k, off, blk, rfl, hb, q1, q2⟩ := pts_at hx c1
  obtain ⟨k', off', blk', e', hb', q3, q4⟩ := pts_at hx hm
  cases e'
  rw [hb] at hb'
  cases hb'
  have hk := hN _ _ hb
  have hbb : hget hp k = some blk := by rw [hh k hk]; exact hb
  have nk := nbq k hk
  have sA := hs.2 _ (pqAt_mem c1)
  have sB := hs.2 _ (pqAt_mem hm)
  have vA := pvs_vt (i := i) l0
  have vB := pvs_vt (i := i + 1) l0
  rw [Nat.mod_eq_of_lt c1] at vA
  have rA := (arT_RB hs.2 l0 i (by omega)).le (show _ ≤ 4000007000 by
    have : i * (4 * 1000000 + 6) ≤ 1000 * (4 * 1000000 + 6) := Nat.mul_le_mul_right _ (by omega)
    omega)
  have mm1 := qmul (pok1 sA (by omega)) (pok2 sB (by omega))
  have mm2 := qmul (pok1 sB (by omega)) (pok2 sA (by omega))
  have r1 := sA.1.rb.mul sB.2.rb (Nat.le_refl _)
  have r2 := sB.1.rb.mul sA.2.rb (Nat.le_refl _)
  have ss := qsub (ofB r1 (by omega)) (ofB r2 (by omega))
  rw [RQ.of_v, RQ.of_v] at ss
  have aa := qadd (ofB rA (by omega)) (ofB (r1.sub r2 (Nat.le_refl _)) (by omega))
  rw [RQ.of_v, RQ.of_v] at aa
  have eS := arT_s (L := pvs l) (i := i) (by omega)
  rw [vA, vB] at eS
  have eC : crs (pv2 (pqAt l i), pv2 (pqAt l ((i + 1) % l.length))) = (pqAt l i).1.v * (pqAt l ((i + 1) % l.length)).2.v - (pqAt l ((i + 1) % l.length)).1.v * (pqAt l i).2.v := rfl
  rw [eC] at eS
  rw [← eS] at aa
  generalize (pqAt l i).1.v * (pqAt l ((i + 1) % l.length)).2.v = X1 at *
  generalize (pqAt l ((i + 1) % l.length)).1.v * (pqAt l i).2.v = X2 at *
  generalize pqAt l i = A at *
  generalize pqAt l ((i + 1) % l.length) = B at *
  generalize (i + 1) % l.length = m at *
  simp only [↓R0, R1, simprocAttr, -Int.reduceAbs, t0, t2, t3, t9, t10, t11, c1, c1', b0, b1, hbb, nk, q1, q2, q3, q4, hm, hm', tm1, z1, z2, w1, pcl_len, pcl_ok, pcl_tk, pcl_x, pcl_y, pp_st, q_len, q_ok, q_tk, q_st, q_st', mm1, mm2, ss, aa, m0, m1, m2, m3, m4, g01, gN, gN']
  refine ⟨c - 1, by omega, i + 1, M + 2, by omega, rfl, rfl, fun q hq => ?_, by omega, rfl⟩
  have nb := nbq q hq
  have nb0 := nbN q hq
  simp only [↓R0, R1, simprocAttr, -Int.reduceAbs, nb, nb0]
  exact hh q hq
def clsP (L : List P2) (x : P2) : Int := if onL L x = true then 0 else if xs x L % 2 = 1 then 1 else -1
def xsT (x : P2) (L : List P2) (i : Nat) : Nat := ((edg L).take i).countP (xg x)
theorem xsT_s {x : P2} {L : List P2} {i : Nat} (h : i < L.length) : xsT x L (i + 1) = xsT x L i + if xg x (vt L i, vt L (i + 1)) = true then 1 else 0 := by
  unfold xsT
  rw [take_snoc (edg_at h), List.countP_append, List.countP_cons, List.countP_nil, Nat.zero_add]
theorem xsT_all (x : P2) (L : List P2) : xsT x L L.length = xs x L := by
  unfold xsT xs
  rw [← edg_len L, List.take_length]
theorem onL_no {L : List P2} {x : P2} (h : ∀ i, i < L.length → onB (vt L i) (vt L (i + 1)) x = false) : onL L x = false := by
  unfold onL
  rw [List.any_eq_false]
  intro e he
  obtain ⟨i, hi, rfl⟩ := mem_edg he
  rw [h i hi]; simp
theorem onL_yes {L : List P2} {x : P2} {i : Nat} (hi : i < L.length) (h : onB (vt L i) (vt L (i + 1)) x = true) : onL L x = true := by
  unfold onL
  rw [List.any_eq_true]
  exact ⟨_, edg_mem hi, h⟩
def spCls2 : List Value → Heap → Option Value
  | [sl, .agg ⟨cx⟩], h => match decPts h sl, dec2 cx with
    | some l, some x => if ptsOK l ∧ pok 1000000 x then some (.int .i64 (clsP (pvs l) (pv2 x))) else none
    | _, _ => none
  | _, _ => none
theorem cls2_of {h : Heap} {sl : Value} {l : List PQ} {x : PQ} (hx : decPts h sl = some l) (hs : ptsOK l) (sx : pok 1000000 x) : spCls2 [sl, .agg ⟨pcl x⟩] h = some (.int .i64 (clsP (pvs l) (pv2 x))) := by
  unfold spCls2
  simp only [hx, pcl_dec]
  exact if_pos ⟨hs, sx⟩
theorem odd_flip (n : Nat) : (!decide (n % 2 = 1)) = decide ((n + 1) % 2 = 1) := by
  rcases Nat.mod_two_eq_zero_or_one n with h | h
  · rw [show (n + 1) % 2 = 1 by omega, h]; rfl
  · rw [show (n + 1) % 2 = 0 by omega, h]; rfl
def c14 : ICode :=
  (.seq (.reg [qq 3 (.box 34 6 (.t 1)), qq 4 (.mv (ci 0))]) (.seq (.reg [qq 5 (.mv (.c (.bool false)))]) (.seq (.seq (.reg [qq 12 (.mv (.t 0)), qq 13 (.lensl (.t 12)), qq 14 (.mv (ci 0))]) (.block 0 (.loop (.seq (.reg [qq 15 (.bin .lss (.t 14) (.t 13))]) (.seq (.cond (.t 15) .skip (.exit 0)) (.seq (.block 1 (.seq (.reg [qq 16 (.mv (.t 14)), qq 17 (.ixsl 6 (.t 12) (.t 14)), qq 18 (.load true 6 (.t 17)), qq 7 (.alloc 34 6 [(.bool false), e0, e0, (.bool false), e0, e0]), qq 6 (.mv (.t 16)), qn (.store 6 (.t 7) (.t 18))]) (.seq (.reg [qq 19 (.mv (.t 0)), qq 20 (.mv (.t 6)), qq 21 (.bin .add (.t 20) (ci 1)), qq 22 (.mv (.t 0)), qq 23 (.lensl (.t 22)), qq 24 (.bin .rem (.t 21) (.t 23)), qq 25 (.ixsl 6 (.t 19) (.t 24)), qq 26 (.load true 6 (.t 25)), qq 8 (.alloc 34 6 [(.bool false), e0, e0, (.bool false), e0, e0]), qn (.store 6 (.t 8) (.t 26))]) (.seq (.seq (.reg [qq 27 (.load true 6 (.t 7)), qq 28 (.load true 6 (.t 8)), qq 29 (.load true 6 (.t 3)), qq 30 (.call 41 [(.t 27), (.t 28), (.t 29)])]) (.cond (.t 30) (.seq (.reg [qq 4 (.mv (ci 0))]) .ret) .skip)) (.seq (.dreg [qu 31 (.ixarr 2 3 (.t 8) (ci 1)), qu 32 (.load true 3 (.t 31)), qu 33 (.ixarr 2 3 (.t 3) (ci 1)), qu 34 (.load true 3 (.t 33)), qu 35 (.call 42 [(.t 32), (.t 34)]), qu 36 (.bin .gtr (.t 35) (ci 0)), qu 37 (.ixarr 2 3 (.t 7) (ci 1)), qv 38 [4] (.load true 3 (.t 37)), qu 39 (.ixarr 2 3 (.t 3) (ci 1)), qv 40 [4] (.load true 3 (.t 39)), qu 41 (.call 42 [(.t 38), (.t 40)]), qu 42 (.bin .gtr (.t 41) (ci 0)), qu 9 (.mv (.t 36)), qu 10 (.mv (.t 42))]) (.seq (.seq (.reg [qq 43 (.mv (.t 9)), qq 44 (.mv (.t 10)), qq 45 (.eqb false (.t 43) (.t 44))]) (.cond (.t 45) (.exit 1) .skip)) (.seq (.reg [qq 46 (.load true 6 (.t 7)), qq 47 (.load true 6 (.t 8)), qq 48 (.load true 6 (.t 3)), qq 49 (.call 21 [(.t 46), (.t 47), (.t 48)]), qq 11 (.mv (.t 49))]) (.seq (.reg [qq 50 (.mv (.t 11)), qq 51 (.bin .gtr (.t 50) (ci 0)), qq 52 (.mv (.t 51)), ⟨(some 53), (some (52, true)), (.mv (.t 9))⟩, qq 54 (.pick (.t 52) (.t 53) (.c (.bool false))), qq 55 (.mv (.t 54)), ⟨(some 56), (some (55, false)), (.mv (.t 11))⟩, ⟨(some 57), (some (55, false)), (.bin .lss (.t 56) (ci 0))⟩, ⟨(some 58), (some (55, false)), (.mv (.t 57))⟩, ⟨(some 59), (some (58, true)), (.mv (.t 10))⟩, ⟨(some 60), (some (55, false)), (.pick (.t 58) (.t 59) (.c (.bool false)))⟩, qq 61 (.pick (.t 55) (.c (.bool true)) (.t 60))]) (.cond (.t 61) (.reg [qq 62 (.mv (.t 5)), qq 63 (.un .not (.t 62)), qq 5 (.mv (.t 63))]) .skip))))))))) (.reg [qq 64 (.bin .add (.t 14) (ci 1)), qq 14 (.mv (.t 64))]))))))) (.seq (.seq (.reg [qq 65 (.mv (.t 5))]) (.cond (.t 65) (.seq (.reg [qq 4 (.mv (ci 1))]) .ret) .skip)) (.seq (.reg [qq 4 (.mv (ci (-1)))]) .ret)))))
theorem tr14 : trFun Tryz.prog 14 = some ⟨66, [.t 4], c14⟩ := by kernel_rfl
set_option maxHeartbeats 8000000 in
theorem ok_cls2 : SpecOK Tryz.prog 14 (rdS spCls2) := by
  refine rd_run (env_cons ok_onP (env_cons ok_qCmp (env_cons ok_turn (env_nil _)))) mixed tr14 ?_ ?_
  · intro args h h' v hle e
    unfold spCls2 at e ⊢
    split at e
    · split at e
      · rename_i l hb hc
        simp only [decPts_mono hle hb, hc]; exact e
      · cases e
    · cases e
  intro args v h N hG hN
  unfold spCls2 at hG
  split at hG
  case h_2 => cases hG
  rename_i sl cx
  split at hG
  case h_2 => cases hG
  rename_i l x hx hcx
  split at hG
  case isFalse => cases hG
  rename_i hs
  obtain ⟨hs, sx⟩ := hs
  cases hG
  have ex := dec2_pcl hcx
  subst ex
  clear hcx
  obtain ⟨a, cc, rfl⟩ := decPts_sl hx
  refine ⟨rfl, by simp, ?_⟩
  have l1000 := hs.1
  have hL : (pvs l).length = l.length := pvs_len l
  have nbN : ∀ q, q < N → ∀ j, (N + j = q) = False := fun q hq j => eq_false (by omega)
  simp only [c14, G0, Nat.reduceAdd]
  simp only [↓R0, R1, simprocAttr, -Int.reduceAbs, pcl_len, pcl_ok]
  refine lp_parts (fun c tm hp nx => ∃ (i M : Nat), c + i = l.length ∧ tmget tm 0 = .slice a l.length cc ∧ tmget tm 3 = .pointer (some ⟨N + 0, 0, none⟩) ∧ tmget tm 5 = .bool (decide (xsT (pv2 x) (pvs l) i % 2 = 1)) ∧ tmget tm 12 = .slice a l.length cc ∧ tmget tm 13 = .int .i64 l.length ∧ tmget tm 14 = .int .i64 (i : Nat) ∧
      hget hp (N + 0) = some ⟨34, 6, true, pcl x⟩ ∧ (∀ j, j < i → onB (vt (pvs l) j) (vt (pvs l) (j + 1)) (pv2 x) = false) ∧ ExtL N h hp ∧ N + 1 ≤ M ∧ nx = M + 0) ?_ l.length
    ⟨0, N + 1, by omega, ?_, ?_, ?_, ?_, ?_, ?_, ?_, fun j hj => absurd hj (Nat.not_lt_zero j), ?_, Nat.le_refl _, rfl⟩
  rotate_left
  all_goals first | (simp only [↓R0, R1, simprocAttr, -Int.reduceAbs]; done) | (simp only [↓R0, R1, simprocAttr, -Int.reduceAbs]; rfl) | skip
  · intro q hq
    have nb := nbN q hq
    simp only [↓R0, R1, simprocAttr, -Int.reduceAbs, nb]
  rintro c tm hp nx ⟨i, M, hc, t0, t3, t5, t12, t13, t14, b0, hno, hh, hM, hnx⟩
  rw [hnx]
  clear hnx nx
  have nbq : ∀ q, q < N → ∀ d, (M + d = q) = False := fun q hq d => eq_false (by omega)
  have m0 : ∀ d, (M + d = N + 0) = False := fun d => eq_false (by omega)
  have m2 : ∀ d, (M + d = N) = False := fun d => eq_false (by omega)
  by_cases c1 : i < l.length
  case neg =>
    have e : i = l.length := by omega
    subst e
    have c1' : ((l.length : Int) < (l.length : Int)) = False := eq_false (by omega)
    have eA : xsT (pv2 x) (pvs l) l.length = xs (pv2 x) (pvs l) := by rw [← hL, xsT_all]
    rw [eA] at t5
    have no := onL_no (L := pvs l) (x := pv2 x) (fun j hj => hno j (by omega))
    unfold clsP
    rw [no, if_neg (by simp)]
    by_cases o : xs (pv2 x) (pvs l) % 2 = 1
    · rw [if_pos o]
      rw [decide_eq_true o] at t5
      simp only [↓R0, R1, simprocAttr, -Int.reduceAbs, t0, t3, t5, t12, t13, t14, c1', Fin, isEnd, resL, res1]
      exact ⟨_, rfl, rfl, hh⟩
    · rw [if_neg o]
      rw [decide_eq_false o] at t5
      simp only [↓R0, R1, simprocAttr, -Int.reduceAbs, t0, t3, t5, t12, t13, t14, c1', Fin, isEnd, resL, res1]
      exact ⟨_, rfl, rfl, hh⟩
  have c1' : ((i : Int) < (l.length : Int)) = True := eq_true (by omega)
  have w1 : IntKind.i64.wrap ((i : Int) + 1) = ((i + 1 : Nat) : Int) := by rw [i64_in _ (by omega)]; omega
  have l0 : 0 < l.length := by omega
  have hm : (i + 1) % l.length < l.length := Nat.mod_lt _ l0
  have tm1 : Int.tmod ((i + 1 : Nat) : Int) (l.length : Int) = (((i + 1) % l.length : Nat) : Int) := rfl
  have z1 : ((l.length : Int) = 0) = False := eq_false (by omega)
  have z2 : (l.length = 0) = False := eq_false (by omega)
  have hm' : ((((i + 1) % l.length : Nat) : Int) < (l.length : Int)) = True := eq_true (by omega)
  obtain ⟨k, off, blk, rfl, hb, q1, q2⟩ := pts_at hx c1
  obtain ⟨k', off', blk', e', hb', q3, q4⟩ := pts_at hx hm
  cases e'
  rw [hb] at hb'
  cases hb'
  have hk := hN _ _ hb
  have hbb : hget hp k = some blk := by rw [hh k hk]; exact hb
  have nk := nbq k hk
  have sA := hs.2 _ (pqAt_mem c1)
  have sB := hs.2 _ (pqAt_mem hm)
  have vA := pvs_vt (i := i) l0
  have vB := pvs_vt (i := i + 1) l0
  rw [Nat.mod_eq_of_lt c1] at vA
  have o1 := onP_of sA sB sx
  have u1 := qcmp (pok2 sB (by omega)) (pok2 sx (by omega))
  have u2 := qcmp (pok2 sA (by omega)) (pok2 sx (by omega))
  have t1 := turn_of sA sB sx
  have eT := xsT_s (x := pv2 x) (L := pvs l) (i := i) (by omega)
  have yB : (vt (pvs l) (i + 1)).2 = (pqAt l ((i + 1) % l.length)).2.v := by rw [vB]; rfl
  have yA : (vt (pvs l) i).2 = (pqAt l i).2.v := by rw [vA]; rfl
  have yX : (pv2 x).2 = x.2.v := rfl
  rw [← vA, ← vB] at o1 t1
  cases z3 : onB (vt (pvs l) i) (vt (pvs l) (i + 1)) (pv2 x) with
  | true =>
    rw [z3] at o1
    have ev : clsP (pvs l) (pv2 x) = 0 := if_pos (onL_yes (by omega) z3)
    rw [ev]
    generalize pqAt l i = A at *
    generalize pqAt l ((i + 1) % l.length) = B at *
    generalize (i + 1) % l.length = m at *
    simp only [↓R0, R1, simprocAttr, -Int.reduceAbs, t0, t3, t5, t12, t13, t14, c1, c1', b0, hbb, nk, q1, q2, q3, q4, hm, hm', tm1, z1, z2, w1, pcl_len, pcl_ok, pcl_tk, pp_st, o1, m0, m2, Fin, isEnd, resL, res1]
    refine ⟨_, rfl, rfl, fun q hq => ?_⟩
    have nb := nbq q hq
    simp only [↓R0, R1, simprocAttr, -Int.reduceAbs, nb]
    exact hh q hq
  | false =>
  rw [z3] at o1
  have hno' : ∀ j, j < i + 1 → onB (vt (pvs l) j) (vt (pvs l) (j + 1)) (pv2 x) = false := fun j hj => by
    by_cases e : j = i
    · rw [e]; exact z3
    · exact hno j (by omega)
  have oF := odd_flip (xsT (pv2 x) (pvs l) i)
  have gB : (sg ((pqAt l ((i + 1) % l.length)).2.v - x.2.v) > 0) = (x.2.v < (pqAt l ((i + 1) % l.length)).2.v) := propext (sg_gt.trans ⟨fun h => by grind, fun h => by grind⟩)
  have gA : (sg ((pqAt l i).2.v - x.2.v) > 0) = (x.2.v < (pqAt l i).2.v) := propext (sg_gt.trans ⟨fun h => by grind, fun h => by grind⟩)
  have gT : ∀ q : Rat, (sg q > 0) = (0 < q) := fun q => propext sg_gt
  have gT' : ∀ q : Rat, (sg q < 0) = (q < 0) := fun q => propext sg_lt
  have xgE : xg (pv2 x) (vt (pvs l) i, vt (pvs l) (i + 1)) = if decide (x.2.v < (pqAt l ((i + 1) % l.length)).2.v) = decide (x.2.v < (pqAt l i).2.v) then false else if x.2.v < (pqAt l ((i + 1) % l.length)).2.v then decide (0 < cr (vt (pvs l) i) (vt (pvs l) (i + 1)) (pv2 x)) else decide (cr (vt (pvs l) i) (vt (pvs l) (i + 1)) (pv2 x) < 0) := by
    unfold xg
    simp only [yA, yB, yX]
  rw [xgE] at eT
  clear xgE yA yB yX vA vB hno
  generalize cr (vt (pvs l) i) (vt (pvs l) (i + 1)) (pv2 x) = CR at *
  generalize pqAt l i = A at *
  generalize pqAt l ((i + 1) % l.length) = B at *
  generalize (i + 1) % l.length = m at *
  generalize hT1 : xsT (pv2 x) (pvs l) (i + 1) = T1 at *
  generalize xsT (pv2 x) (pvs l) i = T0 at *
  by_cases h1 : x.2.v < B.2.v
  · have h1' := eq_true h1
    by_cases h2 : x.2.v < A.2.v
    · have h2' := eq_true h2
      have eT : T1 = T0 := by rw [eT]; simp [h1', h2']
      simp only [↓R0, R1, simprocAttr, -Int.reduceAbs, t0, t3, t5, t12, t13, t14, c1, c1', b0, hbb, nk, q1, q2, q3, q4, hm, hm', tm1, z1, z2, w1, pcl_len, pcl_ok, pcl_tk, pcl_x, pcl_y, pp_st, q_len, q_ok, q_tk, o1, u1, u2, t1, gA, gB, gT, gT', oF, h1', h2', m0, m2, Bool.not_true, Bool.not_false]
      refine ⟨c - 1, by omega, i + 1, M + 2, by omega, ?_, rfl, hno', fun q hq => ?_, by omega, rfl⟩
      · rw [hT1, eT]
      · have nb := nbq q hq
        simp only [↓R0, R1, simprocAttr, -Int.reduceAbs, nb]
        exact hh q hq
    · have h2' := eq_false h2
      by_cases h3 : 0 < CR
      · have h3' := eq_true h3
        have eT : T1 = T0 + 1 := by rw [eT]; simp [h1', h2', h3']
        simp only [↓R0, R1, simprocAttr, -Int.reduceAbs, t0, t3, t5, t12, t13, t14, c1, c1', b0, hbb, nk, q1, q2, q3, q4, hm, hm', tm1, z1, z2, w1, pcl_len, pcl_ok, pcl_tk, pcl_x, pcl_y, pp_st, q_len, q_ok, q_tk, o1, u1, u2, t1, gA, gB, gT, gT', oF, h1', h2', h3', m0, m2, Bool.not_true, Bool.not_false]
        refine ⟨c - 1, by omega, i + 1, M + 2, by omega, ?_, rfl, hno', fun q hq => ?_, by omega, rfl⟩
        · rw [hT1, eT]
        · have nb := nbq q hq
          simp only [↓R0, R1, simprocAttr, -Int.reduceAbs, nb]
          exact hh q hq
      · have h3' := eq_false h3
        have eT : T1 = T0 := by rw [eT]; simp [h1', h2', h3']
        by_cases h4 : CR < 0
        · have h4' := eq_true h4
          simp only [↓R0, R1, simprocAttr, -Int.reduceAbs, t0, t3, t5, t12, t13, t14, c1, c1', b0, hbb, nk, q1, q2, q3, q4, hm, hm', tm1, z1, z2, w1, pcl_len, pcl_ok, pcl_tk, pcl_x, pcl_y, pp_st, q_len, q_ok, q_tk, o1, u1, u2, t1, gA, gB, gT, gT', oF, h1', h2', h3', h4', m0, m2, Bool.not_true, Bool.not_false]
          refine ⟨c - 1, by omega, i + 1, M + 2, by omega, ?_, rfl, hno', fun q hq => ?_, by omega, rfl⟩
          · rw [hT1, eT]
          · have nb := nbq q hq
            simp only [↓R0, R1, simprocAttr, -Int.reduceAbs, nb]
            exact hh q hq
        · have h4' := eq_false h4
          simp only [↓R0, R1, simprocAttr, -Int.reduceAbs, t0, t3, t5, t12, t13, t14, c1, c1', b0, hbb, nk, q1, q2, q3, q4, hm, hm', tm1, z1, z2, w1, pcl_len, pcl_ok, pcl_tk, pcl_x, pcl_y, pp_st, q_len, q_ok, q_tk, o1, u1, u2, t1, gA, gB, gT, gT', oF, h1', h2', h3', h4', m0, m2, Bool.not_true, Bool.not_false]
          refine ⟨c - 1, by omega, i + 1, M + 2, by omega, ?_, rfl, hno', fun q hq => ?_, by omega, rfl⟩
          · rw [hT1, eT]
          · have nb := nbq q hq
            simp only [↓R0, R1, simprocAttr, -Int.reduceAbs, nb]
            exact hh q hq
  · have h1' := eq_false h1
    by_cases h2 : x.2.v < A.2.v
    · have h2' := eq_true h2
      by_cases h4 : CR < 0
      · have h4' := eq_true h4
        have h3' : (0 < CR) = False := eq_false (by grind)
        have eT : T1 = T0 + 1 := by rw [eT]; simp [h1', h2', h4', h3']
        simp only [↓R0, R1, simprocAttr, -Int.reduceAbs, t0, t3, t5, t12, t13, t14, c1, c1', b0, hbb, nk, q1, q2, q3, q4, hm, hm', tm1, z1, z2, w1, pcl_len, pcl_ok, pcl_tk, pcl_x, pcl_y, pp_st, q_len, q_ok, q_tk, o1, u1, u2, t1, gA, gB, gT, gT', oF, h1', h2', h3', h4', m0, m2, Bool.not_true, Bool.not_false]
        refine ⟨c - 1, by omega, i + 1, M + 2, by omega, ?_, rfl, hno', fun q hq => ?_, by omega, rfl⟩
        · rw [hT1, eT]
        · have nb := nbq q hq
          simp only [↓R0, R1, simprocAttr, -Int.reduceAbs, nb]
          exact hh q hq
      · have h4' := eq_false h4
        have eT : T1 = T0 := by rw [eT]; simp [h1', h2', h4']
        by_cases h3 : 0 < CR
        · have h3' := eq_true h3
          simp only [↓R0, R1, simprocAttr, -Int.reduceAbs, t0, t3, t5, t12, t13, t14, c1, c1', b0, hbb, nk, q1, q2, q3, q4, hm, hm', tm1, z1, z2, w1, pcl_len, pcl_ok, pcl_tk, pcl_x, pcl_y, pp_st, q_len, q_ok, q_tk, o1, u1, u2, t1, gA, gB, gT, gT', oF, h1', h2', h3', h4', m0, m2, Bool.not_true, Bool.not_false]
          refine ⟨c - 1, by omega, i + 1, M + 2, by omega, ?_, rfl, hno', fun q hq => ?_, by omega, rfl⟩
          · rw [hT1, eT]
          · have nb := nbq q hq
            simp only [↓R0, R1, simprocAttr, -Int.reduceAbs, nb]
            exact hh q hq
        · have h3' := eq_false h3
          simp only [↓R0, R1, simprocAttr, -Int.reduceAbs, t0, t3, t5, t12, t13, t14, c1, c1', b0, hbb, nk, q1, q2, q3, q4, hm, hm', tm1, z1, z2, w1, pcl_len, pcl_ok, pcl_tk, pcl_x, pcl_y, pp_st, q_len, q_ok, q_tk, o1, u1, u2, t1, gA, gB, gT, gT', oF, h1', h2', h3', h4', m0, m2, Bool.not_true, Bool.not_false]
          refine ⟨c - 1, by omega, i + 1, M + 2, by omega, ?_, rfl, hno', fun q hq => ?_, by omega, rfl⟩
          · rw [hT1, eT]
          · have nb := nbq q hq
            simp only [↓R0, R1, simprocAttr, -Int.reduceAbs, nb]
            exact hh q hq
    · have h2' := eq_false h2
      have eT : T1 = T0 := by rw [eT]; simp [h1', h2']
      simp only [↓R0, R1, simprocAttr, -Int.reduceAbs, t0, t3, t5, t12, t13, t14, c1, c1', b0, hbb, nk, q1, q2, q3, q4, hm, hm', tm1, z1, z2, w1, pcl_len, pcl_ok, pcl_tk, pcl_x, pcl_y, pp_st, q_len, q_ok, q_tk, o1, u1, u2, t1, gA, gB, gT, gT', oF, h1', h2', m0, m2, Bool.not_true, Bool.not_false]
      refine ⟨c - 1, by omega, i + 1, M + 2, by omega, ?_, rfl, hno', fun q hq => ?_, by omega, rfl⟩
      · rw [hT1, eT]
      · have nb := nbq q hq
        simp only [↓R0, R1, simprocAttr, -Int.reduceAbs, nb]
        exact hh q hq
end Go.Eng
end
section
set_option linter.unusedVariables false
set_option linter.unusedSimpArgs false
set_option linter.unusedSectionVars false
set_option maxRecDepth 20000
namespace Go.Eng
open Go Go.Proofs Go.IntWalk
def rvI (l : List PQ) (i : Nat) : List PQ := (List.range l.length).map fun q => if q < i ∨ l.length - 1 - i < q then pqAt l (l.length - 1 - q) else pqAt l q
theorem rvI_len (l : List PQ) (i : Nat) : (rvI l i).length = l.length := by unfold rvI; rw [List.length_map, List.length_range]
theorem rvI_at {l : List PQ} {i q : Nat} (h : q < l.length) : (rvI l i)[q]? = some (if q < i ∨ l.length - 1 - i < q then pqAt l (l.length - 1 - q) else pqAt l q) := by
  unfold rvI
  rw [List.getElem?_map, List.getElem?_range h]; rfl
theorem rvI_pq {l : List PQ} {i q : Nat} (h : q < l.length) : pqAt (rvI l i) q = if q < i ∨ l.length - 1 - i < q then pqAt l (l.length - 1 - q) else pqAt l q := by
  unfold pqAt
  rw [show (rvI l i)[q]? = _ from rvI_at h]; rfl
theorem rvI_0 (l : List PQ) : rvI l 0 = l := List.ext_getElem? fun q => by
  by_cases h : q < l.length
  · rw [rvI_at h, if_neg (by omega), pqAt_some h]
  · rw [List.getElem?_eq_none (by rw [rvI_len]; omega), List.getElem?_eq_none (by omega)]
theorem rvI_end {l : List PQ} {i : Nat} (h : l.length ≤ 2 * i + 1) : rvI l i = l.reverse := List.ext_getElem? fun q => by
  by_cases hq : q < l.length
  · rw [rvI_at hq, List.getElem?_reverse hq, pqAt_some (i := l.length - 1 - q) (by omega)]
    by_cases c : q < i ∨ l.length - 1 - i < q
    · rw [if_pos c]
    · rw [if_neg c]
      have : q = l.length - 1 - q := by omega
      rw [← this]
  · rw [List.getElem?_eq_none (by rw [rvI_len]; omega), List.getElem?_eq_none (by rw [List.length_reverse]; omega)]
theorem rvI_step {l : List PQ} {i : Nat} (h : 2 * i + 1 < l.length) : ((rvI l i).set i (pqAt l (l.length - 1 - i))).set (l.length - 1 - i) (pqAt l i) = rvI l (i + 1) := List.ext_getElem? fun q => by
  by_cases hq : q < l.length
  · rw [rvI_at hq, List.getElem?_set, List.getElem?_set]
    simp only [List.length_set, rvI_len]
    by_cases c1 : l.length - 1 - i = q
    · rw [if_pos c1, if_pos (by omega), if_pos (by omega), ← c1, show l.length - 1 - (l.length - 1 - i) = i by omega]
    · rw [if_neg c1]
      by_cases c2 : i = q
      · rw [if_pos c2, if_pos (by omega), if_pos (by omega), c2]
      · rw [if_neg c2, rvI_at hq]
        by_cases c3 : q < i ∨ l.length - 1 - i < q
        · rw [if_pos c3, if_pos (by omega)]
        · rw [if_neg c3, if_neg (by omega)]
  · rw [List.getElem?_eq_none (by simp [rvI_len]; omega), List.getElem?_eq_none (by rw [rvI_len]; omega)]
open Classical in
noncomputable def spRev2 : List Value → Heap → Option (Value × Nat × Blk)
  | [.slice (some ⟨k, 0, none⟩) n c], h => match decPts h (.slice (some ⟨k, 0, none⟩) n c), hget h k with
    | some l, some blk => if blk.cells = ptC l ∧ blk.sz = 6 ∧ l.length ≤ 1000 then some (.tuple ⟨[]⟩, k, { blk with cells := ptC l.reverse }) else none
    | _, _ => none
  | _, _ => none
theorem rev2_of {h : Heap} {k n c e : Nat} {x : Bool} {l : List PQ} (hx : decPts h (.slice (some ⟨k, 0, none⟩) n c) = some l) (hb : hget h k = some ⟨e, 6, x, ptC l⟩) (hl : l.length ≤ 1000) :
    spRev2 [.slice (some ⟨k, 0, none⟩) n c] h = some (.tuple ⟨[]⟩, k, ⟨e, 6, x, ptC l.reverse⟩) := by
  unfold spRev2
  simp only [hx, hb]
  exact if_pos ⟨trivial, trivial, hl⟩
def c23 : ICode :=
  (.seq (.reg [qq 4 (.mv (.t 0)), qq 5 (.lensl (.t 4)), qq 6 (.bin .sub (.t 5) (ci 1)), qq 2 (.mv (ci 0)), qq 3 (.mv (.t 6))]) (.block 0 (.loop (.seq (.seq (.reg [qq 7 (.mv (.t 2)), qq 8 (.mv (.t 3)), qq 9 (.bin .lss (.t 7) (.t 8))]) (.cond (.t 9) .skip (.exit 0))) (.seq (.block 1 (.dreg [qu 14 (.mv (.t 0)), qu 15 (.mv (.t 2)), qu 16 (.mv (.t 0)), qu 17 (.mv (.t 3)), qu 18 (.mv (.t 0)), qu 19 (.mv (.t 3)), qu 20 (.ixsl 6 (.t 18) (.t 19)), qu 21 (.load true 6 (.t 20)), qu 22 (.mv (.t 0)), qu 23 (.mv (.t 2)), qu 24 (.ixsl 6 (.t 22) (.t 23)), qu 25 (.load true 6 (.t 24)), qu 26 (.ixsl 6 (.t 14) (.t 15)), qm (.store 6 (.t 26) (.t 21)), qu 27 (.ixsl 6 (.t 16) (.t 17)), qm (.store 6 (.t 27) (.t 25))])) (.reg [qq 10 (.mv (.t 2)), qq 11 (.bin .add (.t 10) (ci 1)), qq 12 (.mv (.t 3)), qq 13 (.bin .sub (.t 12) (ci 1)), qq 2 (.mv (.t 11)), qq 3 (.mv (.t 13))]))))))
theorem tr23 : trFun Tryz.prog 23 = some ⟨28, [], c23⟩ := by kernel_rfl
set_option maxHeartbeats 8000000 in
theorem ok_rev2 : SpecOK Tryz.prog 23 (upS spRev2) := by
  refine up_run (env_nil _) mixed tr23 ?_ ?_
  · intro args h h' v hle e
    unfold spRev2 at e ⊢
    split at e
    · split at e
      · rename_i l blk h1 h2
        simp only [decPts_mono hle h1, hle _ _ h2]; exact e
      · cases e
    · cases e
  intro args v k' b h N hG hN
  unfold spRev2 at hG
  split at hG
  case h_2 => cases hG
  rename_i k n c
  split at hG
  case h_2 => cases hG
  rename_i l blk hx hb
  split at hG
  case isFalse => cases hG
  rename_i hs
  obtain ⟨hc, hz, l1000⟩ := hs
  have hn : n = l.length := by
    obtain ⟨a', c', x⟩ := decPts_sl hx
    injection x with _ x2 _
  subst hn
  cases hG
  obtain ⟨e, s, x, cs⟩ := blk
  simp only at hc hz
  subst hc hz
  refine ⟨hN _ _ hb, ptC_base _, rfl, by simp, ?_⟩
  have kN := hN _ _ hb
  have wl : IntKind.i64.wrap ((l.length : Int) - 1) = (l.length : Int) - 1 - ((0 : Nat) : Int) := by rw [i64_in _ (by omega)]; omega
  simp only [c23, G0, Nat.reduceAdd]
  simp only [↓R0, R1, simprocAttr, -Int.reduceAbs, wl]
  refine lp_parts (fun d tm hp nx => ∃ (i : Nat), d + i = l.length ∧ 2 * i ≤ l.length + 1 ∧ tmget tm 0 = .slice (some ⟨k', 0, none⟩) l.length c ∧ tmget tm 2 = .int .i64 (i : Nat) ∧ tmget tm 3 = .int .i64 ((l.length : Int) - 1 - i) ∧
      hget hp k' = some ⟨e, 6, x, ptC (rvI l i)⟩ ∧ (∀ q, q < N → q ≠ k' → hget hp q = hget h q) ∧ nx = N + 0) ?_ l.length
    ⟨0, by omega, by omega, ?_, ?_, ?_, ?_, fun q _ _ => rfl, rfl⟩
  rotate_left
  all_goals first | (simp only [↓R0, R1, simprocAttr, -Int.reduceAbs]; done) | (simp only [↓R0, R1, simprocAttr, -Int.reduceAbs]; rfl) | (rw [rvI_0]; exact hb) | skip
  rintro d tm hp nx ⟨i, hd, h2i, t0, t2, t3, bk, hh, hnx⟩
  rw [hnx]
  clear hnx nx
  by_cases c1 : 2 * i + 1 < l.length
  case neg =>
    have c1' : ((i : Int) < (l.length : Int) - 1 - (i : Int)) = False := eq_false (by omega)
    rw [rvI_end (by omega)] at bk
    simp only [↓R0, R1, simprocAttr, -Int.reduceAbs, t0, t2, t3, c1', FinU, isEnd, resL, res1]
    exact ⟨_, rfl, rfl, bk, hh⟩
  have c1' : ((i : Int) < (l.length : Int) - 1 - (i : Int)) = True := eq_true (by omega)
  obtain ⟨j, hj⟩ : ∃ j, j = l.length - 1 - i := ⟨_, rfl⟩
  have ej : (l.length : Int) - 1 - (i : Int) = (j : Int) := by omega
  rw [ej] at t3 c1'
  have il : (i < l.length) = True := eq_true (by omega)
  have jl : (j < l.length) = True := eq_true (by omega)
  have il' : ((i : Int) < (l.length : Int)) = True := eq_true (by omega)
  have jl' : ((j : Int) < (l.length : Int)) = True := eq_true (by omega)
  have w1 : IntKind.i64.wrap ((i : Int) + 1) = ((i + 1 : Nat) : Int) := by rw [i64_in _ (by omega)]; omega
  have w2 : IntKind.i64.wrap ((j : Int) - 1) = (l.length : Int) - 1 - ((i + 1 : Nat) : Int) := by rw [i64_in _ (by omega)]; omega
  have pl := ptC_len (rvI l i)
  rw [rvI_len] at pl
  have a1 := ptC_at (rvI l i) i (by rw [rvI_len]; omega)
  have a2 := ptC_at (rvI l i) j (by rw [rvI_len]; omega)
  rw [rvI_pq (by omega), if_neg (by omega)] at a1 a2
  have s1 := ptC_set (rvI l i) i (pqAt l j) (by rw [rvI_len]; omega)
  have s2 := ptC_set ((rvI l i).set i (pqAt l j)) j (pqAt l i) (by rw [List.length_set, rvI_len]; omega)
  have st := rvI_step (l := l) (i := i) c1
  rw [← hj] at st
  rw [st] at s2
  have b1 : (i * 6 + 6 ≤ l.length * 6) = True := eq_true (by omega)
  have b2 : (j * 6 + 6 ≤ l.length * 6) = True := eq_true (by omega)
  have pl2 : (ptC ((rvI l i).set i (pqAt l j))).length = l.length * 6 := by rw [ptC_len, List.length_set, rvI_len]
  generalize ptC (rvI l i) = P0 at *
  generalize ptC ((rvI l i).set i (pqAt l j)) = P1 at *
  simp only [↓R0, R1, simprocAttr, -Int.reduceAbs, t0, t2, t3, c1', il, jl, il', jl', bk, pl, pl2, a1, a2, s1, s2, b1, b2, pcl_len, pcl_ok, w1, w2]
  refine ⟨d - 1, by omega, i + 1, by omega, by omega, rfl, rfl, rfl, fun q h1 h2 => ?_⟩
  have nk : (k' = q) = False := eq_false (fun e => h2 e.symm)
  simp only [↓R0, R1, simprocAttr, -Int.reduceAbs, nk]
  exact hh q h1 h2
def zs6 (n : Nat) : List Value := (List.replicate n [.bool false, .string ⟨⟨[]⟩⟩, .string ⟨⟨[]⟩⟩, .bool false, .string ⟨⟨[]⟩⟩, .string ⟨⟨[]⟩⟩]).flatten
theorem zs6_len (n : Nat) : (zs6 n).length = n * 6 := by unfold zs6; simp
theorem zs6_add (n m : Nat) : zs6 (n + m) = zs6 n ++ zs6 m := by unfold zs6; rw [← List.flatten_append, List.replicate_append_replicate]
theorem zs6_base (n : Nat) : (zs6 n).all isBase = true := by
  induction n with
  | zero => rfl
  | succ n ih => rw [zs6_add, List.all_append, ih]; rfl
theorem zs6_ok (n : Nat) : (zs6 n).all okCell = true := by
  induction n with
  | zero => rfl
  | succ n ih => rw [zs6_add, List.all_append, ih]; rfl
theorem setR_full : ∀ (xs l : List Value), xs.length = l.length → setR l 0 xs = xs := by
  intro xs
  induction xs with
  | nil => intro l h; simp only [setR]; exact List.eq_nil_of_length_eq_zero (by simpa using h.symm)
  | cons x xs ih =>
    intro l h
    cases l with
    | nil => simp at h
    | cons y l =>
      have : setR (y :: l) 0 (x :: xs) = x :: setR l 0 xs := by
        have g : ∀ (xs l : List Value) (i : Nat) (z : Value), setR (z :: l) (i + 1) xs = z :: setR l i xs := by
          intro xs
          induction xs with
          | nil => intro l i z; rfl
          | cons a xs ih => intro l i z; simp only [setR, List.set_cons_succ]; exact ih _ _ _
        simp only [setR, List.set_cons_zero]
        exact g xs l 0 x
      rw [this, ih l (by simpa using h)]
def spGrow2 : List Value → Heap → Option NewL
  | [.slice none 0 0, .int .i64 n], _ => if 0 < n ∧ n ≤ 2000 then some ⟨1, fun σ => .slice (some ⟨σ 0, 0, none⟩) 0 n.toNat, fun _ => 34, fun _ => 6, fun _ _ => zs6 n.toNat⟩ else none
  | _, _ => none
def c51 : ICode :=
  (.seq (.reg [qq 4 (.mv (.c (.slice none 0 0)))]) (.seq (.seq (.reg [qq 5 (.mv (.t 1)), qq 6 (.bin .lss (.t 5) (ci 0))]) (.cond (.t 6) .fail .skip)) (.seq (.seq (.reg [qq 8 (.mv (.t 1)), qq 9 (.mv (.t 0)), qq 10 (.capz (.t 9)), qq 11 (.mv (.t 0)), qq 12 (.lensl (.t 11)), qq 13 (.bin .sub (.t 10) (.t 12)), qq 14 (.bin .sub (.t 8) (.t 13)), qq 1 (.mv (.t 14))]) (.seq (.reg [qq 15 (.mv (.t 1)), qq 16 (.bin .gtr (.t 15) (ci 0))]) (.cond (.t 16) (.reg [qq 17 (.mv (.t 0)), qq 18 (.mv (.t 0)), qq 19 (.capz (.t 18)), qq 20 (.slsl 6 (.t 17) none (some (.t 19))), qq 21 (.mv (.t 1)), qq 22 (.appz 34 6 80 [(.bool false), e0, e0, (.bool false), e0, e0] (.t 20) (.t 21)), qq 23 (.mv (.t 0)), qq 24 (.lensl (.t 23)), qq 25 (.slsl 6 (.t 22) none (some (.t 24))), qq 0 (.mv (.t 25))]) .skip))) (.seq (.reg [qq 26 (.mv (.t 0)), qq 4 (.mv (.t 26))]) .ret))))
theorem tr51 : trFun Tryz.prog 51 = some ⟨27, [.t 4], c51⟩ := by kernel_rfl
set_option maxHeartbeats 8000000 in
theorem ok_grow2 : SpecOK Tryz.prog 51 (nwL spGrow2) := by
  refine newL_run (env_nil _) mixed tr51 ?_ ?_
  · intro args h h' r hle e
    unfold spGrow2 at e ⊢
    split at e
    · exact e
    · cases e
  intro args h N r hG hN
  unfold spGrow2 at hG
  split at hG
  case h_2 => cases hG
  rename_i n
  split at hG
  case isFalse => cases hG
  rename_i hs
  obtain ⟨n0, n2⟩ := hs
  obtain ⟨n, rfl⟩ := Int.eq_ofNat_of_zero_le (show 0 ≤ n by omega)
  rw [Int.toNat_natCast] at hG
  cases hG
  refine ⟨⟨fun β σ σ' b1 _ => VR.sl (σ 0) 0 _ _ ⟨σ' 0, 0, []⟩ (b1 0 Nat.one_pos), fun β σ σ' _ _ i hi => VRs.of_base (zs6_base n)⟩, by simp, ?_⟩
  have nn : ((n : Int) < 0) = False := eq_false (by omega)
  have n0' : ((n : Int) > 0) = True := eq_true (by omega)
  have nz : ¬ n = 0 := by omega
  have nz' : (n = 0) = False := eq_false nz
  have w1 : IntKind.i64.wrap (n : Int) = (n : Int) := i64_in _ (by omega)
  have w2 : IntKind.i64.wrap ((n : Int) - 0) = (n : Int) := by rw [i64_in _ (by omega)]; omega
  have g0 : (0 ≤ (n : Int)) = True := eq_true (by omega)
  have g1 : (80 * (n : Int) ≤ 281474976710656) = True := eq_true (by omega)
  have g2 : ((n : Int) ≤ 9223372036854775807) = True := eq_true (by omega)
  have g3 : (n * 80 ≤ 140737488355328) = True := eq_true (by omega)
  have zl := zs6_len n
  have zo := zs6_ok n
  have ez : (List.replicate n [.bool false, .string ⟨⟨[]⟩⟩, .string ⟨⟨[]⟩⟩, .bool false, .string ⟨⟨[]⟩⟩, .string ⟨⟨[]⟩⟩]).flatten = zs6 n := rfl
  have mk : mkSl (N + 0) 0 6 n 0 0 = .slice (some ⟨N + 0, 0, none⟩) 0 n := by unfold mkSl; rw [if_neg (by omega)]; simp
  have tk : (zs6 n).take (n * 6) = zs6 n := List.take_of_length_le (by omega)
  generalize zs6 n = ZZ at *
  simp only [c51, G0, Nat.reduceAdd]
  simp only [↓R0, R1, simprocAttr, -Int.reduceAbs, nn, n0', w1, w2, nz, nz', g0, g1, g2, g3, ez, zl, zo, tk, mk, Int.toNat_natCast, FinL, isEnd, resL, res1]
  refine ⟨fun _ => N + 0, _, fun i hi => (by omega : N ≤ N + 0), fun i j (hi : i < 1) (hj : j < 1) _ => by omega, rfl, rfl, fun i hi => ⟨false, ?_⟩, fun q hq => ?_⟩
  · first | (simp only [↓R0, R1, simprocAttr, -Int.reduceAbs]; done) | (simp only [↓R0, R1, simprocAttr, -Int.reduceAbs]; rfl)
  · have nb : ∀ d, (N + d = q) = False := fun d => eq_false (by omega)
    simp only [↓R0, R1, simprocAttr, -Int.reduceAbs, nb]
def spCat2 : List Value → Heap → Option NewL
  | [.slice (some ⟨k, 0, none⟩) 2 _], h => match hget h k with
    | some ⟨_, _, _, [s1, s2]⟩ => match decPts h s1, decPts h s2 with
      | some l1, some l2 => if l1.length + l2.length ≤ 1000 ∧ 0 < l1.length + l2.length then some ⟨1, fun σ => .slice (some ⟨σ 0, 0, none⟩) (l1.length + l2.length) (l1.length + l2.length), fun _ => 34, fun _ => 6, fun _ _ => ptC (l1 ++ l2)⟩ else none
      | _, _ => none
    | _ => none
  | _, _ => none
def c25 : ICode :=
  (.seq (.reg [qq 2 (.mv (.c (.slice none 0 0)))]) (.seq (.reg [qq 3 (.mv (ci 0))]) (.seq (.seq (.reg [qq 9 (.mv (.t 0)), qq 10 (.lensl (.t 9)), qq 11 (.mv (ci 0))]) (.block 0 (.loop (.seq (.reg [qq 12 (.bin .lss (.t 11) (.t 10))]) (.seq (.cond (.t 12) .skip (.exit 0)) (.seq (.block 1 (.seq (.reg [qq 13 (.ixsl 1 (.t 9) (.t 11)), qq 14 (.load false 1 (.t 13)), qq 5 (.mv (.t 14))]) (.seq (.reg [qq 15 (.mv (.t 3)), qq 16 (.mv (.t 5)), qq 17 (.lensl (.t 16)), qq 18 (.bin .add (.t 15) (.t 17)), qq 3 (.mv (.t 18))]) (.seq (.reg [qq 19 (.mv (.t 3)), qq 20 (.bin .lss (.t 19) (ci 0))]) (.cond (.t 20) .fail .skip))))) (.reg [qq 22 (.bin .add (.t 11) (ci 1)), qq 11 (.mv (.t 22))]))))))) (.seq (.reg [qq 23 (.mv (.t 3)), qq 24 (.call 51 [(.c (.slice none 0 0)), (.t 23)]), qq 6 (.mv (.t 24))]) (.seq (.seq (.reg [qq 25 (.mv (.t 0)), qq 26 (.lensl (.t 25)), qq 27 (.mv (ci 0))]) (.block 2 (.loop (.seq (.reg [qq 28 (.bin .lss (.t 27) (.t 26))]) (.seq (.cond (.t 28) .skip (.exit 2)) (.seq (.block 3 (.seq (.reg [qq 29 (.ixsl 1 (.t 25) (.t 27)), qq 30 (.load false 1 (.t 29)), qq 8 (.mv (.t 30))]) (.reg [qq 31 (.mv (.t 6)), qq 32 (.mv (.t 8)), qq 33 (.app 34 6 80 (.t 31) (.t 32)), qq 6 (.mv (.t 33))]))) (.reg [qq 34 (.bin .add (.t 27) (ci 1)), qq 27 (.mv (.t 34))]))))))) (.seq (.reg [qq 35 (.mv (.t 6)), qq 2 (.mv (.t 35))]) .ret))))))
theorem tr25 : trFun Tryz.prog 25 = some ⟨36, [.t 2], c25⟩ := by kernel_rfl
set_option maxHeartbeats 8000000 in
theorem ok_cat2 : SpecOK Tryz.prog 25 (nwL spCat2) := by
  refine newL_run (env_cons ok_grow2 (env_nil _)) mixed tr25 ?_ ?_
  · intro args h h' r hle e
    unfold spCat2 at e ⊢
    split at e
    · split at e
      · rename_i hb
        simp only [hle _ _ hb]
        split at e
        · rename_i h1 h2
          simp only [decPts_mono hle h1, decPts_mono hle h2]; exact e
        · cases e
      · cases e
    · cases e
  intro args h N r hG hN
  unfold spCat2 at hG
  split at hG
  case h_2 => cases hG
  rename_i k c
  split at hG
  case h_2 => cases hG
  rename_i e s x s1 s2 hb
  split at hG
  case h_2 => cases hG
  rename_i l1 l2 hx1 hx2
  split at hG
  case isFalse => cases hG
  rename_i hs
  obtain ⟨hs, hp0⟩ := hs
  cases hG
  refine ⟨⟨fun β σ σ' b1 _ => VR.sl (σ 0) 0 _ _ ⟨σ' 0, 0, []⟩ (b1 0 Nat.one_pos), fun β σ σ' _ _ i hi => VRs.of_base (ptC_base _)⟩, by simp, ?_⟩
  obtain ⟨a1, c1, rfl⟩ := decPts_sl hx1
  obtain ⟨a2, c2, rfl⟩ := decPts_sl hx2
  have kN := hN _ _ hb
  have nk : ∀ d, (N + d = k) = False := fun d => eq_false (by omega)
  have nk0 : (N = k) = False := eq_false (by omega)
  have nk2 : (N + 0 + 0 = k) = False := eq_false (by omega)
  have e0 : ([Value.slice a1 l1.length c1, .slice a2 l2.length c2] : List Value)[0]? = some (.slice a1 l1.length c1) := rfl
  have e1 : ([Value.slice a1 l1.length c1, .slice a2 l2.length c2] : List Value)[1]? = some (.slice a2 l2.length c2) := rfl
  have w1 : IntKind.i64.wrap (0 + (l1.length : Int)) = (l1.length : Int) := by rw [i64_in _ (by omega)]; omega
  have w1' : IntKind.i64.wrap (l1.length : Int) = (l1.length : Int) := by rw [i64_in _ (by omega)]
  have w2 : IntKind.i64.wrap ((l1.length : Int) + (l2.length : Int)) = ((l1.length + l2.length : Nat) : Int) := by rw [i64_in _ (by omega)]; omega
  have p1 : ((l1.length : Int) < 0) = False := eq_false (by omega)
  have p2 : (((l1.length + l2.length : Nat) : Int) < 0) = False := eq_false (by omega)
  have gr : spGrow2 [.slice none 0 0, .int .i64 ((l1.length + l2.length : Nat) : Int)] h = some ⟨1, fun σ => .slice (some ⟨σ 0, 0, none⟩) 0 (l1.length + l2.length), fun _ => 34, fun _ => 6, fun _ _ => zs6 (l1.length + l2.length)⟩ := by
    unfold spGrow2
    simp only [Int.toNat_natCast]
    rw [if_pos ⟨by omega, by omega⟩]
  have nwG : ∀ (args : List Value) (hp : Heap) (k : Nat), nwL spGrow2 args hp k = (spGrow2 args hp).map fun r => (r.val (k + ·), newH r (k + ·) r.m, r.m) := fun _ _ _ => rfl
  have xN : ∀ b, ∀ q, q < N → hget ((N + 0, b) :: h) q = hget h q := fun b q hq => by
    simp only [hget, show (N + 0 = q) = False from eq_false (by omega), if_false]
  have src1 : ∀ b, srcOf ((N + 0, b) :: h) 6 l1.length a1 = some (ptC l1) := fun b => pts_src (ext_pts hN hx1 (xN b))
  have xN2 : ∀ b b', ∀ q, q < N → hget ((N + 0, b) :: (N + 0, b') :: h) q = hget h q := fun b b' q hq => by
    simp only [hget, show (N + 0 = q) = False from eq_false (by omega), if_false]
  have src2 : ∀ b b', srcOf ((N + 0, b) :: (N + 0, b') :: h) 6 l2.length a2 = some (ptC l2) := fun b b' => pts_src (ext_pts hN hx2 (xN2 b b'))
  have src2' : ∀ b, srcOf ((N + 0, b) :: h) 6 l2.length a2 = some (ptC l2) := fun b => pts_src (ext_pts hN hx2 (xN b))
  have n00 : N + 0 + 0 = N + 0 := rfl
  have zl := zs6_len (l1.length + l2.length)
  have z1 := ptC_len l1
  have z2 := ptC_len l2
  have o1 := ptC_ok l1
  have o2 := ptC_ok l2
  have st1 : setR (zs6 (l1.length + l2.length)) 0 (ptC l1) = ptC l1 ++ zs6 l2.length := by
    rw [zs6_add, setR_app_left _ _ _ _ (by rw [zs6_len, z1]; omega), setR_full _ _ (by rw [zs6_len, z1])]
  have st2 : setR (ptC l1 ++ zs6 l2.length) (l1.length * 6) (ptC l2) = ptC (l1 ++ l2) := by
    rw [setR_app_right _ _ _ _ (by omega), z1, Nat.sub_self, setR_full _ _ (by rw [zs6_len, z2]), ptC_app]
  have sl2 : (ptC l1 ++ zs6 l2.length).length = (l1.length + l2.length) * 6 := by rw [List.length_append, z1, zs6_len]; omega
  have q1 : (l1.length ≤ l1.length + l2.length) = True := eq_true (by omega)
  have q2 : (l1.length * 6 ≤ (l1.length + l2.length) * 6) = True := eq_true (by omega)
  have q3 : (l1.length * 80 ≤ 140737488355328) = True := eq_true (by omega)
  have q4 : ((l1.length + l2.length) * 80 ≤ 140737488355328) = True := eq_true (by omega)
  have z00 : ∀ l : List PQ, l.length = 0 → ptC l = [] := fun l h => by rw [List.eq_nil_of_length_eq_zero h]; rfl
  generalize hZ : zs6 (l1.length + l2.length) = ZA at *
  generalize hZ2 : ptC l1 ++ zs6 l2.length = ZB at *
  by_cases y1 : l1.length = 0
  · have y2 : ¬ l2.length = 0 := by omega
    have y1' := eq_true y1
    have y2' := eq_false y2
    have e12 : ptC (l1 ++ l2) = ptC l2 := by rw [List.eq_nil_of_length_eq_zero y1]; rfl
    have st3 : setR ZA 0 (ptC l2) = ptC l2 := setR_full _ _ (by rw [z2, ← hZ, zs6_len, y1]; omega)
    rw [e12]
    have wz : IntKind.i64.wrap (0 + (l2.length : Int)) = (l2.length : Int) := by rw [i64_in _ (by omega)]; omega
    have pz : ((l2.length : Int) < 0) = False := eq_false (by omega)
    simp only [y1, Nat.zero_add] at *
    simp only [c25, G0, Nat.reduceAdd]
    simp only [↓R0, R1, simprocAttr, -Int.reduceAbs]
    refine lp_step ?_
    simp only [↓R0, R1, simprocAttr, -Int.reduceAbs, hb, e0, w1, w1', p1]
    refine lp_step ?_
    simp only [↓R0, R1, simprocAttr, -Int.reduceAbs, hb, e1, w2, p2, wz, pz]
    refine lp_step ?_
    simp only [↓R0, R1, simprocAttr, -Int.reduceAbs, gr, nwG, newHL1, n00]
    refine lp_step ?_
    simp only [↓R0, R1, simprocAttr, -Int.reduceAbs, hb, nk, nk0, nk2, n00, e0, src1, y1']
    refine lp_step ?_
    simp only [↓R0, R1, simprocAttr, -Int.reduceAbs, hb, nk, nk0, nk2, n00, e1, src2', y2', st3, zl, z2, o2, q3, q4]
    refine lp_step ?_
    simp only [↓R0, R1, simprocAttr, -Int.reduceAbs, FinL, isEnd, resL, res1]
    refine ⟨fun _ => N + 0, _, fun i hi => Nat.le_refl N, fun i j (hi : i < 1) (hj : j < 1) _ => by omega, rfl, rfl, fun i hi => ⟨false, ?_⟩, fun q hq => ?_⟩
    · first | (simp only [↓R0, R1, simprocAttr, -Int.reduceAbs]; done) | (simp only [↓R0, R1, simprocAttr, -Int.reduceAbs]; rfl)
    · have nb : ∀ d, (N + d = q) = False := fun d => eq_false (by omega)
      have nb2 : (N + 0 + 0 = q) = False := eq_false (by omega)
      simp only [↓R0, R1, simprocAttr, -Int.reduceAbs, nb, nb2]
  have y1' := eq_false y1
  by_cases y2 : l2.length = 0
  · have y2' := eq_true y2
    have e12 : ptC (l1 ++ l2) = ptC l1 := by rw [List.eq_nil_of_length_eq_zero (l := l2) y2, List.append_nil]
    have st3 : setR ZA 0 (ptC l1) = ptC l1 := setR_full _ _ (by rw [z1, ← hZ, zs6_len, y2]; omega)
    rw [e12]
    have wz : IntKind.i64.wrap ((l1.length : Int) + 0) = (l1.length : Int) := by rw [i64_in _ (by omega)]; omega
    simp only [y2, Nat.add_zero l1.length] at *
    have ql : (l1.length ≤ l1.length) = True := eq_true (Nat.le_refl _)
    simp only [c25, G0, Nat.reduceAdd]
    simp only [↓R0, R1, simprocAttr, -Int.reduceAbs]
    refine lp_step ?_
    simp only [↓R0, R1, simprocAttr, -Int.reduceAbs, hb, e0, w1, w1', p1]
    refine lp_step ?_
    simp only [↓R0, R1, simprocAttr, -Int.reduceAbs, hb, e1, w2, w1', wz, p1, p2]
    refine lp_step ?_
    simp only [↓R0, R1, simprocAttr, -Int.reduceAbs, gr, nwG, newHL1, n00]
    refine lp_step ?_
    simp only [↓R0, R1, simprocAttr, -Int.reduceAbs, hb, nk, nk0, nk2, n00, e0, src1, y1', st3, zl, z1, o1, q1, q2, q3, q4, ql, Nat.zero_add, Nat.zero_mul]
    refine lp_step ?_
    simp only [↓R0, R1, simprocAttr, -Int.reduceAbs, hb, nk, nk0, nk2, n00, e1, src2, y2', ql]
    refine lp_step ?_
    simp only [↓R0, R1, simprocAttr, -Int.reduceAbs, FinL, isEnd, resL, res1]
    refine ⟨fun _ => N + 0, _, fun i hi => Nat.le_refl N, fun i j (hi : i < 1) (hj : j < 1) _ => by omega, rfl, rfl, fun i hi => ⟨false, ?_⟩, fun q hq => ?_⟩
    · first | (simp only [↓R0, R1, simprocAttr, -Int.reduceAbs]; done) | (simp only [↓R0, R1, simprocAttr, -Int.reduceAbs]; rfl)
    · have nb : ∀ d, (N + d = q) = False := fun d => eq_false (by omega)
      have nb2 : (N + 0 + 0 = q) = False := eq_false (by omega)
      simp only [↓R0, R1, simprocAttr, -Int.reduceAbs, nb, nb2]
  have y2' := eq_false y2
  simp only [c25, G0, Nat.reduceAdd]
  simp only [↓R0, R1, simprocAttr, -Int.reduceAbs]
  refine lp_step ?_
  simp only [↓R0, R1, simprocAttr, -Int.reduceAbs, hb, e0, w1, w1', p1]
  refine lp_step ?_
  simp only [↓R0, R1, simprocAttr, -Int.reduceAbs, hb, e1, w2, p2]
  refine lp_step ?_
  simp only [↓R0, R1, simprocAttr, -Int.reduceAbs, gr, nwG, newHL1, n00]
  refine lp_step ?_
  simp only [↓R0, R1, simprocAttr, -Int.reduceAbs, hb, nk, nk0, nk2, n00, e0, src1, y1', st1, zl, z1, o1, q1, q2, q3, q4, Nat.zero_add, Nat.zero_mul]
  refine lp_step ?_
  simp only [↓R0, R1, simprocAttr, -Int.reduceAbs, hb, nk, nk0, nk2, n00, e1, src2, y2', st2, sl2, z2, o2, q1, q2, q3, q4]
  refine lp_step ?_
  simp only [↓R0, R1, simprocAttr, -Int.reduceAbs, FinL, isEnd, resL, res1]
  refine ⟨fun _ => N + 0, _, fun i hi => Nat.le_refl N, fun i j (hi : i < 1) (hj : j < 1) _ => by omega, rfl, rfl, fun i hi => ⟨false, ?_⟩, fun q hq => ?_⟩
  · first | (simp only [↓R0, R1, simprocAttr, -Int.reduceAbs]; done) | (simp only [↓R0, R1, simprocAttr, -Int.reduceAbs]; rfl)
  · have nb : ∀ d, (N + d = q) = False := fun d => eq_false (by omega)
    have nb2 : (N + 0 + 0 = q) = False := eq_false (by omega)
    simp only [↓R0, R1, simprocAttr, -Int.reduceAbs, nb, nb2]
end Go.Eng
end
section
set_option linter.unusedVariables false
set_option linter.unusedSimpArgs false
set_option linter.unusedSectionVars false
set_option maxRecDepth 20000
namespace Go.Eng
open Go Go.Proofs Go.IntWalk
theorem pts_sub {h : Heap} {k e s a n c : Nat} {x : Bool} {l : List PQ} (hb : hget h k = some ⟨e, s, x, ptC l⟩) (hn : a + n ≤ l.length) (hc : n ≤ c) : decPts h (.slice (some ⟨k, a * 6, none⟩) n c) = some ((l.drop a).take n) := by
  have hl := ptC_len l
  unfold decPts listAt
  have hsz : a * 6 + n * 6 ≤ (ptC l).length := by omega
  have la : lay 6 h (.slice (some ⟨k, a * 6, none⟩) n c) = some (ptC ((l.drop a).take n)) := by
    have e1 : lay 6 h (.slice (some ⟨k, a * 6, none⟩) n c) = (match hget h k with
      | some blk => if n ≤ c ∧ a * 6 + n * 6 ≤ blk.cells.length then some ((blk.cells.drop (a * 6)).take (n * 6)) else none
      | none => none) := by
      unfold lay; rfl
    rw [e1, hb]
    simp only
    rw [if_pos ⟨hc, hsz⟩, ptC_drop, ptC_take]
  rw [la]
  have hlen : ((l.drop a).take n).length = n := by rw [List.length_take, List.length_drop]; omega
  show many 6 dec2 n _ = _
  refine many_some hlen fun i p hp => ?_
  have hi : i < ((l.drop a).take n).length := (List.getElem?_eq_some_iff.1 hp).1
  rw [pqAt_some hi] at hp
  cases hp
  rw [ptC_at _ i hi]; rfl
theorem qsign_of {x : Rat} {i : Nat} (h : RB x i) (hi : i ≤ 8589934591) : spQSign [.agg ⟨(RQ.of x).cells⟩] = some (.int .i64 (sg x)) := by
  have e : spQSign [.agg ⟨(RQ.of x).cells⟩] = some (.int .i64 (sv (RQ.of x).s (RQ.of x).n).sign) := if_pos ⟨by have := (ofB h hi).1; omega, by have := (ofB h hi).2; omega⟩
  rw [e]
  show some (Value.int .i64 (sv (decide (x.num < 0)) (bl x.num.natAbs)).sign) = _
  rw [sv_can]; rfl
theorem qnorm_of {p : RQ} {k : Nat} (h : p.ok k) (hk : k ≤ 8589934591) : spQNorm [.agg ⟨p.cells⟩] = some (.agg ⟨(RQ.of p.v).cells⟩) := if_pos ⟨by have := h.1; omega, by have := h.2; omega⟩
theorem half_neg {x : Rat} : sg (x / 2) < 0 ↔ x < 0 := by
  rw [sg_lt, Rat.div_lt_iff (by decide)]
  rw [Rat.zero_mul]
theorem map_pqo (l : List P2) : pvs (l.map pqo) = l := by
  unfold pvs
  rw [List.map_map]
  have : (pv2 ∘ pqo) = id := funext fun v => pqo_v v
  rw [this, List.map_id]
theorem pqo_ok {p : PQ} {k : Nat} (h : pok k p) : pok (k + 1) (pqo (pv2 p)) := ⟨RQ.of_ok h.1.rb, RQ.of_ok h.2.rb⟩
def ptsN (l : List PQ) : Prop := l.length ≤ 1000 ∧ ∀ p ∈ l, pok 1000 p
instance {l : List PQ} : Decidable (ptsN l) := by unfold ptsN; infer_instance
theorem ptsN.ok {l : List PQ} (h : ptsN l) : ptsOK l := ⟨h.1, fun p hp => (h.2 p hp).le (by omega)⟩
def nmOut (L : List P2) : Int × List P2 := if 12 < L.length then (6, []) else if profP L then (0, ncf L) else (17, [])
def nmNL (r : Int × List P2) : NewL :=
  if r.2 = [] then ⟨0, fun _ => .tuple ⟨[.slice none 0 0, .int .i64 r.1]⟩, fun _ => 0, fun _ => 0, fun _ _ => []⟩
  else ⟨1, fun σ => .tuple ⟨[.slice (some ⟨σ 0, 0, none⟩) r.2.length r.2.length, .int .i64 r.1]⟩, fun _ => 34, fun _ => 6, fun _ _ => ptC (r.2.map pqo)⟩
theorem nmNL_par (r : Int × List P2) (h : Heap) : (nmNL r).Par h := by
  unfold nmNL
  split
  · exact ⟨fun β σ σ' _ _ => .tup _ _ (.cons _ _ _ _ (.base _ rfl) (.cons _ _ _ _ (.base _ rfl) .nil)), fun β σ σ' _ _ i hi => absurd hi (Nat.not_lt_zero i)⟩
  · exact ⟨fun β σ σ' b1 _ => .tup _ _ (.cons _ _ _ _ (VR.sl (σ 0) 0 _ _ ⟨σ' 0, 0, []⟩ (b1 0 Nat.one_pos)) (.cons _ _ _ _ (.base _ rfl) .nil)), fun β σ σ' _ _ i hi => VRs.of_base (ptC_base _)⟩
def spNorm2 : List Value → Heap → Option NewL
  | [sl], h => match decPts h sl with
    | some l => if ptsN l then some (nmNL (nmOut (pvs l))) else none
    | none => none
  | _, _ => none
def bfT (L : List P2) (i : Nat) : List P2 := bflt ((cor L).take i)
theorem bfT_s {L : List P2} {i : Nat} (h : i < L.length) : bfT L (i + 1) = bfT L i ++ (if sg (cr (vt L (i + L.length - 1)) (vt L i) (vt L (i + 1))) = 0 then [] else [vt L i]) := by
  unfold bfT
  rw [take_snoc (cor_at h), flt_app]
  congr 1
  unfold bflt bnd
  simp only [List.filter_cons, List.filter_nil]
  by_cases c : cr (vt L (i + L.length - 1)) (vt L i) (vt L (i + 1)) = 0
  · rw [if_pos (sg_zero.2 c)]; simp [c]
  · rw [if_neg (fun e => c (sg_zero.1 e))]; simp [c]
theorem bfT_all (L : List P2) : bfT L L.length = bent L := by
  unfold bfT bent
  rw [← cor_len L, List.take_length]
theorem bfT_mem {L : List P2} {i : Nat} {v : P2} (h : v ∈ bfT L i) : v ∈ L := by
  unfold bfT bflt at h
  obtain ⟨c, hc, rfl⟩ := List.mem_map.1 h
  have : c ∈ cor L := List.mem_of_mem_take (List.mem_filter.1 hc).1
  have := List.mem_map_of_mem (f := fun c : P2 × P2 × P2 => c.2.1) this
  rw [cor_cur] at this
  exact this
theorem bfT_len (L : List P2) (i : Nat) : (bfT L i).length ≤ i := by
  unfold bfT bflt
  rw [List.length_map]
  exact Nat.le_trans (List.length_filter_le _ _) (by rw [List.length_take]; omega)
def GrP (hp : Heap) (N M : Nat) (O : List PQ) (s : Value) : Prop :=
  (O = [] ∧ s = .slice none 0 0) ∨ (O ≠ [] ∧ ∃ kk x, s = .slice (some ⟨kk, 0, none⟩) O.length O.length ∧ hget hp kk = some ⟨34, 6, x, ptC O⟩ ∧ N ≤ kk ∧ kk < M)
theorem mnI_lt {l : List P2} {k n : Nat} (hk : k ≤ n) (h0 : 0 < n) : mnI l k < n := by
  by_cases c : k = 0
  · rw [c]; exact h0
  · have := (mnI_spec l k (by omega)).1; omega
def c8 : ICode :=
  (.seq (.reg [qq 2 (.mv (.c (.slice none 0 0))), qq 3 (.mv (ci 0))]) (.seq (.seq (.reg [qq 11 (.mv (.t 0)), qq 12 (.lensl (.t 11)), qq 13 (.bin .gtr (.t 12) (ci 12))]) (.cond (.t 13) (.seq (.reg [qq 2 (.mv (.c (.slice none 0 0))), qq 3 (.mv (ci 6))]) .ret) .skip)) (.seq (.seq (.reg [qq 14 (.mv (.t 0)), qq 15 (.call 20 [(.t 14)]), qq 16 (.un .not (.t 15))]) (.cond (.t 16) (.seq (.reg [qq 2 (.mv (.c (.slice none 0 0))), qq 3 (.mv (ci 17))]) .ret) .skip)) (.seq (.reg [qq 4 (.mv (.c (.slice none 0 0)))]) (.seq (.reg [qq 17 (.mv (.t 0)), qq 18 (.lensl (.t 17)), qq 5 (.mv (.t 18))]) (.seq (.seq (.reg [qq 19 (.mv (.t 0)), qq 20 (.lensl (.t 19)), qq 21 (.mv (ci 0))]) (.block 0 (.loop (.seq (.reg [qq 22 (.bin .lss (.t 21) (.t 20))]) (.seq (.cond (.t 22) .skip (.exit 0)) (.seq (.block 1 (.seq (.reg [qq 23 (.mv (.t 21)), qq 24 (.ixsl 6 (.t 19) (.t 21)), qq 25 (.load true 6 (.t 24)), qq 7 (.alloc 34 6 [(.bool false), e0, e0, (.bool false), e0, e0]), qq 6 (.mv (.t 23)), qn (.store 6 (.t 7) (.t 25))]) (.seq (.dreg [qu 26 (.mv (.t 0)), qu 27 (.mv (.t 6)), qu 28 (.mv (.t 5)), qu 29 (.bin .add (.t 27) (.t 28)), qu 30 (.bin .sub (.t 29) (ci 1)), qu 31 (.mv (.t 5)), qu 32 (.bin .rem (.t 30) (.t 31)), qu 33 (.ixsl 6 (.t 26) (.t 32)), qu 34 (.load true 6 (.t 33)), qu 35 (.load true 6 (.t 7)), qu 36 (.mv (.t 0)), qu 37 (.mv (.t 6)), qu 38 (.bin .add (.t 37) (ci 1)), qu 39 (.mv (.t 5)), qu 40 (.bin .rem (.t 38) (.t 39)), qu 41 (.ixsl 6 (.t 36) (.t 40)), qu 42 (.load true 6 (.t 41)), qu 43 (.call 21 [(.t 34), (.t 35), (.t 42)]), qu 44 (.bin .neq (.t 43) (ci 0))]) (.cond (.t 44) (.dreg [qu 45 (.mv (.t 4)), qu 46 (.ixarr 2 3 (.t 7) (ci 0)), qu 47 (.load true 3 (.t 46)), qu 48 (.call 22 [(.t 47)]), qu 49 (.ixarr 2 3 (.t 7) (ci 1)), qv 50 [3] (.load true 3 (.t 49)), qu 51 (.call 22 [(.t 50)]), qu 52 (.build [(.bool false), e0, e0, (.bool false), e0, e0] [(0, 3, (.t 48)), (3, 3, (.t 51))]), qu 53 (.bslice 34 6 1 [(.bool false), e0, e0, (.bool false), e0, e0] [(0, 6, (.t 52))]), qu 54 (.app 34 6 80 (.t 45) (.t 53)), qu 4 (.mv (.t 54))]) .skip)))) (.reg [qq 55 (.bin .add (.t 21) (ci 1)), qq 21 (.mv (.t 55))]))))))) (.seq (.seq (.reg [qq 56 (.mv (.t 4)), qq 57 (.call 11 [(.t 56)]), qq 58 (.call 16 [(.t 57)]), qq 59 (.bin .lss (.t 58) (ci 0))]) (.cond (.t 59) (.reg [qq 60 (.mv (.t 4)), qq 61 (.call 23 [(.t 60)])]) .skip)) (.seq (.reg [qq 8 (.mv (ci 0))]) (.seq (.seq (.reg [qq 62 (.mv (.t 4)), qq 63 (.lensl (.t 62)), qq 64 (.mv (ci 0))]) (.block 2 (.loop (.seq (.reg [qq 65 (.bin .lss (.t 64) (.t 63))]) (.seq (.cond (.t 65) .skip (.exit 2)) (.seq (.block 3 (.seq (.reg [qq 66 (.mv (.t 64)), qq 67 (.ixsl 6 (.t 62) (.t 64)), qq 68 (.load true 6 (.t 67)), qq 10 (.alloc 34 6 [(.bool false), e0, e0, (.bool false), e0, e0]), qq 9 (.mv (.t 66)), qn (.store 6 (.t 10) (.t 68))]) (.seq (.dreg [qu 69 (.load true 6 (.t 10)), qu 70 (.mv (.t 4)), qu 71 (.mv (.t 8)), qu 72 (.ixsl 6 (.t 70) (.t 71)), qu 73 (.load true 6 (.t 72)), qu 74 (.call 24 [(.t 69), (.t 73)]), qu 75 (.bin .lss (.t 74) (ci 0))]) (.cond (.t 75) (.reg [qq 76 (.mv (.t 9)), qq 8 (.mv (.t 76))]) .skip)))) (.reg [qq 77 (.bin .add (.t 64) (ci 1)), qq 64 (.mv (.t 77))]))))))) (.seq (.dreg [qu 78 (.mv (.t 4)), qu 79 (.mv (.t 8)), qu 80 (.slsl 6 (.t 78) (some (.t 79)) none), qu 81 (.mv (.t 4)), qu 82 (.mv (.t 8)), qu 83 (.slsl 6 (.t 81) none (some (.t 82))), qu 84 (.bslice 22 1 2 [(.slice none 0 0), (.slice none 0 0)] [(0, 1, (.t 80)), (1, 1, (.t 83))]), qu 85 (.call 25 [(.t 84)]), qu 2 (.mv (.t 85)), qu 3 (.mv (ci 0))]) .ret))))))))))
theorem tr8 : trFun Tryz.prog 8 = some ⟨86, [.t 2, .t 3], c8⟩ := by kernel_rfl
set_option maxHeartbeats 32000000 in
theorem ok_norm2 : SpecOK Tryz.prog 8 (nwL spNorm2) := by
  refine newL_run (env_cons ok_prof (env_cons ok_turn (env_cons ok_qNorm (env_cons ok_area2 (env_cons ok_qSign (env_cons ok_rev2 (env_cons ok_cmpP (env_cons ok_cat2 (env_nil _))))))))) mixed tr8 ?_ ?_
  · intro args h h' r hle e
    unfold spNorm2 at e ⊢
    split at e
    · split at e
      · rename_i l hb
        simp only [decPts_mono hle hb]; exact e
      · cases e
    · cases e
  intro args h N r hG hN
  unfold spNorm2 at hG
  split at hG
  case h_2 => cases hG
  rename_i sl
  split at hG
  case h_2 => cases hG
  rename_i l hx
  split at hG
  case isFalse => cases hG
  rename_i hs
  cases hG
  obtain ⟨a, cc, rfl⟩ := decPts_sl hx
  refine ⟨nmNL_par _ _, by simp, ?_⟩
  have hL : (pvs l).length = l.length := pvs_len l
  have nbN : ∀ q, q < N → ∀ j, (N + j = q) = False := fun q hq j => eq_false (by omega)
  have pr := prof_of hx hs.ok
  by_cases c12 : 12 < l.length
  · have c12' : ((l.length : Int) > 12) = True := eq_true (by omega)
    have ev : nmOut (pvs l) = (6, []) := if_pos (by omega)
    rw [ev]
    simp only [c8, G0, Nat.reduceAdd]
    simp only [↓R0, R1, simprocAttr, -Int.reduceAbs, c12', FinL, isEnd, resL, res1]
    exact ⟨fun i => i, _, fun i hi => absurd hi (Nat.not_lt_zero i), fun i j hi => absurd hi (Nat.not_lt_zero i), rfl, rfl, fun i hi => absurd hi (Nat.not_lt_zero i), fun k _ => trivial⟩
  have c12' : ((l.length : Int) > 12) = False := eq_false (by omega)
  by_cases pf : profP (pvs l)
  case neg =>
    have ev : nmOut (pvs l) = (17, []) := by unfold nmOut; rw [if_neg (by omega), if_neg pf]
    rw [ev]
    rw [decide_eq_false pf] at pr
    simp only [c8, G0, Nat.reduceAdd]
    simp only [↓R0, R1, simprocAttr, -Int.reduceAbs, rdS, c12', pr, Bool.not_false, FinL, isEnd, resL, res1]
    exact ⟨fun i => i, _, fun i hi => absurd hi (Nat.not_lt_zero i), fun i j hi => absurd hi (Nat.not_lt_zero i), rfl, rfl, fun i hi => absurd hi (Nat.not_lt_zero i), fun k _ => trivial⟩
  rw [decide_eq_true pf] at pr
  have ev : nmOut (pvs l) = (0, ncf (pvs l)) := by unfold nmOut; rw [if_neg (by omega), if_pos pf]
  rw [ev]
  clear ev
  have SP := prof_simp pf
  have n3 : 3 ≤ l.length := by have := pf.1; omega
  obtain ⟨SB, _⟩ := Simp.chain _ rfl SP
  have l0 : 0 < l.length := by omega
  simp only [c8, G0, Nat.reduceAdd]
  simp only [↓R0, R1, simprocAttr, -Int.reduceAbs, rdS, c12', pr, Bool.not_true]
  refine lp_parts (fun c tm hp nx => ∃ (i M : Nat), c + i = l.length ∧ tmget tm 0 = .slice a l.length cc ∧ tmget tm 5 = .int .i64 l.length ∧ tmget tm 19 = .slice a l.length cc ∧ tmget tm 20 = .int .i64 l.length ∧ tmget tm 21 = .int .i64 (i : Nat) ∧
      GrP hp N M ((bfT (pvs l) i).map pqo) (tmget tm 4) ∧ ExtL N h hp ∧ N ≤ M ∧ nx = M + 0) ?_ l.length
    ⟨0, N, by omega, ?_, ?_, ?_, ?_, ?_, .inl ⟨rfl, ?_⟩, fun q _ => rfl, Nat.le_refl _, rfl⟩
  rotate_left
  all_goals first | (simp only [↓R0, R1, simprocAttr, -Int.reduceAbs]; done) | (simp only [↓R0, R1, simprocAttr, -Int.reduceAbs]; rfl) | skip
  rintro c tm hp nx ⟨i, M, hc, t0, t5, t19, t20, t21, hO, hh, hM, hnx⟩
  rw [hnx]
  clear hnx nx
  have nbq : ∀ q, q < N → ∀ d, (M + d = q) = False := fun q hq d => eq_false (by omega)
  by_cases c1 : i < l.length
  case pos =>
    have c1' : ((i : Int) < (l.length : Int)) = True := eq_true (by omega)
    have w1 : IntKind.i64.wrap ((i : Int) + 1) = ((i + 1 : Nat) : Int) := by rw [i64_in _ (by omega)]; omega
    have w2 : IntKind.i64.wrap ((i : Int) + (l.length : Int)) = ((i + l.length : Nat) : Int) := by rw [i64_in _ (by omega)]; omega
    have w3 : IntKind.i64.wrap (((i + l.length : Nat) : Int) - 1) = ((i + l.length - 1 : Nat) : Int) := by rw [i64_in _ (by omega)]; omega
    have hm : (i + 1) % l.length < l.length := Nat.mod_lt _ l0
    have hm2 : (i + l.length - 1) % l.length < l.length := Nat.mod_lt _ l0
    have tm1 : Int.tmod ((i + 1 : Nat) : Int) (l.length : Int) = (((i + 1) % l.length : Nat) : Int) := rfl
    have tm2 : Int.tmod ((i + l.length - 1 : Nat) : Int) (l.length : Int) = (((i + l.length - 1) % l.length : Nat) : Int) := rfl
    have z1 : ((l.length : Int) = 0) = False := eq_false (by omega)
    have z2 : (l.length = 0) = False := eq_false (by omega)
    have hm' : ((((i + 1) % l.length : Nat) : Int) < (l.length : Int)) = True := eq_true (by omega)
    have hm2' : ((((i + l.length - 1) % l.length : Nat) : Int) < (l.length : Int)) = True := eq_true (by omega)
    obtain ⟨k, off, blk, rfl, hb, q1, q2⟩ := pts_at hx c1
    obtain ⟨k', off', blk', e', hb', q3, q4⟩ := pts_at hx hm
    cases e'
    rw [hb] at hb'
    cases hb'
    obtain ⟨k', off', blk', e', hb', q5, q6⟩ := pts_at hx hm2
    cases e'
    rw [hb] at hb'
    cases hb'
    have hk := hN _ _ hb
    have hbb : hget hp k = some blk := by rw [hh k hk]; exact hb
    have nk := nbq k hk
    have sA := hs.2 _ (pqAt_mem c1)
    have sB := hs.2 _ (pqAt_mem hm)
    have sP := hs.2 _ (pqAt_mem hm2)
    have vA := pvs_vt (i := i) l0
    have vB := pvs_vt (i := i + 1) l0
    have vP := pvs_vt (i := i + l.length - 1) l0
    rw [Nat.mod_eq_of_lt c1] at vA
    have t1 := turn_of (sP.le (by omega)) (sA.le (by omega)) (sB.le (by omega))
    rw [← vA, ← vB, ← vP] at t1
    have nx1 := qnorm_of sA.1 (by omega)
    have nx2 := qnorm_of sA.2 (by omega)
    have eB := bfT_s (L := pvs l) (i := i) (by omega)
    rw [hL] at eB
    have ePQ : (RQ.of (pqAt l i).1.v, RQ.of (pqAt l i).2.v) = pqo (vt (pvs l) i) := by rw [vA]; rfl
    have pm := p_mk (RQ.of (pqAt l i).1.v) (RQ.of (pqAt l i).2.v)
    rw [ePQ] at pm
    have bl12 := bfT_len (pvs l) i
    have ex := fun q hq => (show ∀ d, (M + d = q) = False from nbq q hq)
    generalize RQ.of (pqAt l i).1.v = QA at *
    generalize RQ.of (pqAt l i).2.v = QB at *
    generalize pqAt l i = A at *
    generalize pqAt l ((i + 1) % l.length) = B at *
    generalize pqAt l ((i + l.length - 1) % l.length) = P at *
    generalize (i + 1) % l.length = m at *
    generalize (i + l.length - 1) % l.length = m2 at *
    by_cases sz : sg (cr (vt (pvs l) (i + l.length - 1)) (vt (pvs l) i) (vt (pvs l) (i + 1))) = 0
    · have sz' := eq_true sz
      rw [if_pos sz, List.append_nil] at eB
      have dn : ∀ a b : Int, decide (a ≠ b) = !decide (a = b) := fun a b => by by_cases h : a = b <;> simp [h]
      simp only [↓R0, R1, simprocAttr, -Int.reduceAbs, t0, t5, t19, t20, t21, c1, c1', hbb, nk, q1, q2, q3, q4, q5, q6, hm, hm', hm2, hm2', tm1, tm2, z1, z2, w1, w2, w3, pcl_len, pcl_ok, pcl_tk, pp_st, t1, dn, sz', Bool.not_true]
      refine ⟨c - 1, by omega, i + 1, M + 1, by omega, rfl, ?_, fun q hq => ?_, by omega, rfl⟩
      · rw [eB]
        rcases hO with ⟨o1, o2⟩ | ⟨o1, kk, x, o2, o3, o4, o5⟩
        · exact .inl ⟨o1, o2⟩
        · refine .inr ⟨o1, kk, x, o2, ?_, o4, by omega⟩
          have : ∀ d, (M + d = kk) = False := fun d => eq_false (by omega)
          simp only [↓R0, R1, simprocAttr, -Int.reduceAbs, this]
          exact o3
      · have nb := nbq q hq
        simp only [↓R0, R1, simprocAttr, -Int.reduceAbs, nb]
        exact hh q hq
    · have sz' := eq_false sz
      rw [if_neg sz] at eB
      have dn : ∀ a b : Int, decide (a ≠ b) = !decide (a = b) := fun a b => by by_cases h : a = b <;> simp [h]
      rcases hO with ⟨o1, t4⟩ | ⟨o1, kk, x, t4, o3, o4, o5⟩
      · simp only [↓R0, R1, simprocAttr, -Int.reduceAbs, t0, t4, t5, t19, t20, t21, c1, c1', hbb, nk, q1, q2, q3, q4, q5, q6, hm, hm', hm2, hm2', tm1, tm2, z1, z2, w1, w2, w3, pcl_len, pcl_ok, pcl_tk, pcl_x, pcl_y, pp_st, q_len, q_ok, q_tk, setR_length, t1, nx1, nx2, pm, dn, sz', Bool.not_false]
        have e1 : (bfT (pvs l) (i + 1)).map pqo = [pqo (vt (pvs l) i)] := by rw [eB, List.map_append, o1]; rfl
        refine ⟨c - 1, by omega, i + 1, M + 3, by omega, rfl, .inr ⟨by rw [e1]; simp, M + 2, false, ?_, ?_, by omega, by omega⟩, fun q hq => ?_, by omega, rfl⟩
        · rw [e1]; rfl
        · rw [e1, ptC_one]
          first | (simp only [↓R0, R1, simprocAttr, -Int.reduceAbs]; done) | (simp only [↓R0, R1, simprocAttr, -Int.reduceAbs]; rfl)
        · have nb := nbq q hq
          simp only [↓R0, R1, simprocAttr, -Int.reduceAbs, nb]
          exact hh q hq
      · have hkq : ∀ d, (M + d = kk) = False := fun d => eq_false (by omega)
        have hkq' : ∀ d, (kk = M + d) = False := fun d => eq_false (by omega)
        have hkk : (kk = k) = False := eq_false (by omega)
        have pl := ptC_len ((bfT (pvs l) i).map pqo)
        have ll : ((bfT (pvs l) i).map pqo).length ≤ 12 := by rw [List.length_map]; omega
        have eS : ptC ((bfT (pvs l) (i + 1)).map pqo) = ptC ((bfT (pvs l) i).map pqo) ++ pcl (pqo (vt (pvs l) i)) := by rw [eB, List.map_append]; exact ptC_snoc _ _
        have eL : ((bfT (pvs l) (i + 1)).map pqo).length = ((bfT (pvs l) i).map pqo).length + 1 := by rw [eB, List.map_append, List.length_append]; rfl
        have eN : (bfT (pvs l) (i + 1)).map pqo ≠ [] := by rw [eB, List.map_append]; simp
        obtain ⟨O1, hO1⟩ : ∃ O, O = (bfT (pvs l) (i + 1)).map pqo := ⟨_, rfl⟩
        rw [← hO1] at eS eL eN
        generalize (bfT (pvs l) i).map pqo = O0 at *
        have npp : (O0.length + 1 ≤ O0.length) = False := eq_false (by omega)
        have ovr : ((O0.length + 1) * 80 ≤ 140737488355328) = True := eq_true (by omega)
        simp only [↓R0, R1, simprocAttr, -Int.reduceAbs, t0, t4, t5, t19, t20, t21, c1, c1', hbb, nk, q1, q2, q3, q4, q5, q6, hm, hm', hm2, hm2', tm1, tm2, z1, z2, w1, w2, w3, pcl_len, pcl_ok, pcl_tk, pcl_x, pcl_y, pp_st, q_len, q_ok, q_tk, setR_length, t1, nx1, nx2, pm, dn, sz', o3, pl, hkq, hkq', hkk, npp, ovr, Bool.not_false]
        refine ⟨c - 1, by omega, i + 1, M + 3, by omega, rfl, .inr ⟨by rw [← hO1]; exact eN, M + 2, false, ?_, ?_, by omega, by omega⟩, fun q hq => ?_, by omega, rfl⟩
        · rw [← hO1, eL]
        · rw [← hO1, eS]
          first | (simp only [↓R0, R1, simprocAttr, -Int.reduceAbs]; done) | (simp only [↓R0, R1, simprocAttr, -Int.reduceAbs]; rfl)
        · have nb := nbq q hq
          have nk2 : (kk = q) = False := eq_false (by omega)
          simp only [↓R0, R1, simprocAttr, -Int.reduceAbs, nb, nk2]
          exact hh q hq
  have e : i = l.length := by omega
  subst e
  have c1' : ((l.length : Int) < (l.length : Int)) = False := eq_false (by omega)
  have eall : bfT (pvs l) l.length = bent (pvs l) := by rw [← hL, bfT_all]
  rw [eall] at hO
  have bm : ∀ v ∈ bent (pvs l), ∃ p ∈ l, v = pv2 p := fun v hv => by
    rw [← eall] at hv
    have := bfT_mem hv
    unfold pvs at this
    obtain ⟨p, hp, rfl⟩ := List.mem_map.1 this
    exact ⟨p, hp, rfl⟩
  have blen : (bent (pvs l)).length ≤ 12 := by rw [← eall]; have := bfT_len (pvs l) l.length; omega
  have b3 := SB.simp.n3
  have nd := SB.simp.nd
  clear eall
  have encf : ncf (pvs l) = rmn (ori (bent (pvs l))) := rfl
  rw [encf]
  clear encf
  generalize bent (pvs l) = B at *
  have okO : ptsOK (B.map pqo) := ⟨by rw [List.length_map]; omega, fun p hp => by
    obtain ⟨v, hv, rfl⟩ := List.mem_map.1 hp
    obtain ⟨p', hp', rfl⟩ := bm v hv
    exact (pqo_ok (hs.2 p' hp')).le (by omega)⟩
  rcases hO with ⟨o1, _⟩ | ⟨_, kk, x, t4, o3, o4, o5⟩
  · have := congrArg List.length o1
    rw [List.length_map] at this
    have this : B.length = 0 := this
    omega
  have hpv := map_pqo B
  have lO : (B.map pqo).length = B.length := List.length_map _
  have dx := pts_list o3 rfl
  have ar := area2_of dx okO
  rw [hpv] at ar
  have rA : RB (ar2 B) 4000007000 := by
    have := arT_RB okO.2 (by omega) (B.map pqo).length (Nat.le_refl _)
    rw [hpv, lO, arT_all] at this
    refine this.le ?_
    have : B.length * (4 * 1000000 + 6) ≤ 1000 * (4 * 1000000 + 6) := Nat.mul_le_mul_right _ (by omega)
    omega
  have two : (2 : Rat) ≠ 0 := by decide
  have rH : RB (ar2 B / 2) 4000007002 := rA.div (RBs (z := 2) (by omega)) (by omega) (by omega)
  have sgA := qsign_of rH (by omega)
  have hfA := half_neg (x := ar2 B)
  rw [lO] at t4 dx ar
  by_cases neg : ar2 B < 0
  · have neg' : (sg (ar2 B / 2) < 0) = True := eq_true (hfA.2 neg)
    have eo : ori B = B.reverse := if_pos neg
    rw [eo]
    have rv := rev2_of (c := B.length) dx o3 (by rw [lO]; omega)
    have erev : (B.map pqo).reverse = B.reverse.map pqo := by rw [List.map_reverse]
    rw [erev] at rv
    have lB : B.reverse.length = B.length := List.length_reverse
    have uR : ∀ (args : List Value) (hp : Heap) (n : Nat), upS spRev2 args hp n = (spRev2 args hp).map fun r => (r.1, [(r.2.1, some r.2.2)], 0) := fun _ _ _ => rfl
    have nd' : B.reverse.Nodup := (List.reverse_perm B).nodup_iff.2 nd
    have okO' : ptsOK (B.reverse.map pqo) := ⟨by rw [List.length_map, lB]; omega, fun p hp => okO.2 p (by rw [← erev] at hp; exact List.mem_reverse.1 hp)⟩
    generalize B.reverse = B' at *
    simp only [↓R0, R1, simprocAttr, -Int.reduceAbs, rdS, t0, t4, t5, t19, t20, t21, c1', o3, ar, sgA, neg', rv, uR]
    refine lp_parts (fun c tm hp2 nx => ∃ (i M2 : Nat) (x2 : Bool), c + i = B.length ∧ tmget tm 4 = .slice (some ⟨kk, 0, none⟩) B.length B.length ∧ tmget tm 8 = .int .i64 (mnI B' i : Nat) ∧ tmget tm 62 = .slice (some ⟨kk, 0, none⟩) B.length B.length ∧ tmget tm 63 = .int .i64 B.length ∧ tmget tm 64 = .int .i64 (i : Nat) ∧
        hget hp2 kk = some ⟨34, 6, x2, ptC (B'.map pqo)⟩ ∧ ExtL N h hp2 ∧ M ≤ M2 ∧ nx = M2 + 0) ?_ B.length
      ⟨0, M, x, by omega, ?_, ?_, ?_, ?_, ?_, ?_, ?_, Nat.le_refl _, rfl⟩
    rotate_left
    all_goals first | (simp only [↓R0, R1, simprocAttr, -Int.reduceAbs]; done) | (simp only [↓R0, R1, simprocAttr, -Int.reduceAbs]; rfl) | (simp only [↓R0, R1, simprocAttr, -Int.reduceAbs, t4]; done) | (simp only [↓R0, R1, simprocAttr, -Int.reduceAbs, o3]; done) | exact hh | skip
    · intro q hq
      have nk2 : (kk = q) = False := eq_false (by omega)
      simp only [↓R0, R1, simprocAttr, -Int.reduceAbs, nk2]
      exact hh q hq
    clear t0 t5 t19 t20 t21 t4
    rintro c tm hp2 nx ⟨i, M2, x2, hc2, t4, t8, t62, t63, t64, bk, hh2, hM2, hnx⟩
    rw [hnx]
    clear hnx nx
    have nbq2 : ∀ q, q < N → ∀ d, (M2 + d = q) = False := fun q hq d => eq_false (by omega)
    have hkq : ∀ d, (M2 + d = kk) = False := fun d => eq_false (by omega)
    have hkq' : ∀ d, (kk = M2 + d) = False := fun d => eq_false (by omega)
    have pl := ptC_len (B'.map pqo)
    rw [List.length_map, lB] at pl
    have fl := mnI_lt (l := B') (k := i) (n := B.length) (by omega) (by omega)
    by_cases d1 : i < B.length
    · have d1' : ((i : Int) < (B.length : Int)) = True := eq_true (by omega)
      have wi : IntKind.i64.wrap ((i : Int) + 1) = ((i + 1 : Nat) : Int) := by rw [i64_in _ (by omega)]; omega
      have fl' : ((mnI B' i : Int) < (B.length : Int)) = True := eq_true (by omega)
      have a1 := ptC_at (B'.map pqo) i (by rw [List.length_map]; omega)
      have a2 := ptC_at (B'.map pqo) (mnI B' i) (by rw [List.length_map]; omega)
      have b1 : (i * 6 + 6 ≤ B.length * 6) = True := eq_true (by omega)
      have b2 : (mnI B' i * 6 + 6 ≤ B.length * 6) = True := eq_true (by omega)
      have o1 := okO'.2 _ (pqAt_mem (l := B'.map pqo) (i := i) (by rw [List.length_map]; omega))
      have o2 := okO'.2 _ (pqAt_mem (l := B'.map pqo) (i := mnI B' i) (by rw [List.length_map]; omega))
      have cp := cmpP_of o1 o2
      have v1 := pvs_at (l := B'.map pqo) (i := i) (by rw [List.length_map]; omega)
      have v2 := pvs_at (l := B'.map pqo) (i := mnI B' i) (by rw [List.length_map]; omega)
      rw [map_pqo] at v1 v2
      rw [← v1, ← v2] at cp
      have em : mnI B' (i + 1) = if cmpP (ptv B' i) (ptv B' (mnI B' i)) < 0 then i else mnI B' i := rfl
      generalize pqAt (B'.map pqo) i = A at *
      generalize pqAt (B'.map pqo) (mnI B' i) = D at *
      generalize hF : mnI B' i = F at *
      by_cases g : cmpP (ptv B' i) (ptv B' F) < 0
      · have g' := eq_true g
        rw [if_pos g] at em
        simp only [↓R0, R1, simprocAttr, -Int.reduceAbs, t4, t8, t62, t63, t64, d1, d1', bk, pl, a1, a2, b1, b2, fl, fl', pcl_len, pcl_ok, pcl_tk, pp_st, hkq, hkq', cp, g', wi]
        refine ⟨c - 1, by omega, i + 1, M2 + 1, x2, by omega, ?_, rfl, ?_, fun q hq => ?_, by omega, rfl⟩
        · rw [em]
        · first | (simp only [↓R0, R1, simprocAttr, -Int.reduceAbs, hkq]; done) | (simp only [↓R0, R1, simprocAttr, -Int.reduceAbs, hkq]; exact bk)
        · have nb := nbq2 q hq
          simp only [↓R0, R1, simprocAttr, -Int.reduceAbs, nb]
          exact hh2 q hq
      · have g' := eq_false g
        rw [if_neg g] at em
        simp only [↓R0, R1, simprocAttr, -Int.reduceAbs, t4, t8, t62, t63, t64, d1, d1', bk, pl, a1, a2, b1, b2, fl, fl', pcl_len, pcl_ok, pcl_tk, pp_st, hkq, hkq', cp, g', wi]
        refine ⟨c - 1, by omega, i + 1, M2 + 1, x2, by omega, ?_, rfl, ?_, fun q hq => ?_, by omega, rfl⟩
        · rw [em]
        · first | (simp only [↓R0, R1, simprocAttr, -Int.reduceAbs, hkq]; done) | (simp only [↓R0, R1, simprocAttr, -Int.reduceAbs, hkq]; exact bk)
        · have nb := nbq2 q hq
          simp only [↓R0, R1, simprocAttr, -Int.reduceAbs, nb]
          exact hh2 q hq
    have ei : i = B.length := by omega
    subst ei
    have d1' : ((B.length : Int) < (B.length : Int)) = False := eq_false (by omega)
    have er : rmn B' = B'.drop (mnI B' B.length) ++ B'.take (mnI B' B.length) := by unfold rmn; rw [lB]
    have fle : ((mnI B' B.length : Int) ≤ (B.length : Int)) = True := eq_true (by omega)
    have fle' : (mnI B' B.length ≤ B.length) = True := eq_true (by omega)
    have lR : (rmn B').length = B.length := by rw [er, List.length_append, List.length_drop, List.length_take]; omega
    have nR : rmn B' ≠ [] := fun e => by rw [e] at lR; simp at lR; omega
    have eRm : (rmn B').map pqo = (B'.map pqo).drop (mnI B' B.length) ++ (B'.map pqo).take (mnI B' B.length) := by rw [er, List.map_append, List.map_drop, List.map_take]
    generalize hF : mnI B' B.length = F at *
    have mk1 : mkSl kk 0 6 B.length F B.length = .slice (some ⟨kk, F * 6, none⟩) (B.length - F) (B.length - F) := by unfold mkSl; rw [if_neg (by omega), Nat.zero_add]
    have mk2 : mkSl kk 0 6 B.length 0 F = .slice (some ⟨kk, 0, none⟩) F B.length := by unfold mkSl; rw [if_neg (by omega)]; simp
    have d1 : ∀ {hp' : Heap}, hget hp' kk = some ⟨34, 6, x2, ptC (B'.map pqo)⟩ → decPts hp' (.slice (some ⟨kk, F * 6, none⟩) (B.length - F) (B.length - F)) = some ((B'.map pqo).drop F) := fun hb => by
      rw [pts_sub hb (by rw [List.length_map]; omega) (Nat.le_refl _), List.take_of_length_le (by rw [List.length_drop, List.length_map]; omega)]
    have d2 : ∀ {hp' : Heap}, hget hp' kk = some ⟨34, 6, x2, ptC (B'.map pqo)⟩ → decPts hp' (.slice (some ⟨kk, 0, none⟩) F B.length) = some ((B'.map pqo).take F) := fun hb => by
      have := pts_sub (a := 0) (n := F) (c := B.length) hb (by rw [List.length_map]; omega) (by omega)
      rw [Nat.zero_mul, List.drop_zero] at this
      exact this
    have ct : ∀ {hp' : Heap}, hget hp' (M2 + 0) = some ⟨22, 1, true, [.slice (some ⟨kk, F * 6, none⟩) (B.length - F) (B.length - F), .slice (some ⟨kk, 0, none⟩) F B.length]⟩ → hget hp' kk = some ⟨34, 6, x2, ptC (B'.map pqo)⟩ →
        spCat2 [.slice (some ⟨M2 + 0, 0, none⟩) 2 2] hp' = some ⟨1, fun σ => .slice (some ⟨σ 0, 0, none⟩) (rmn B').length (rmn B').length, fun _ => 34, fun _ => 6, fun _ _ => ptC ((rmn B').map pqo)⟩ := fun h1 h2 => by
      unfold spCat2
      simp only [h1, d1 h2, d2 h2]
      rw [if_pos ⟨by rw [List.length_drop, List.length_take, List.length_map]; omega, by rw [List.length_drop, List.length_take, List.length_map]; omega⟩, eRm]
      have : ((B'.map pqo).drop F).length + ((B'.map pqo).take F).length = (rmn B').length := by rw [lR, List.length_drop, List.length_take, List.length_map]; omega
      rw [this]
    have nwC : ∀ (args : List Value) (hp : Heap) (k : Nat), nwL spCat2 args hp k = (spCat2 args hp).map fun r => (r.val (k + ·), newH r (k + ·) r.m, r.m) := fun _ _ _ => rfl
    have m10 : M2 + 1 + 0 = M2 + 1 := rfl
    unfold nmNL
    rw [if_neg nR]
    generalize ptC ((rmn B').map pqo) = PR at *
    generalize (rmn B').length = LR at *
    simp only [↓R0, R1, simprocAttr, -Int.reduceAbs, t4, t8, t62, t63, t64, d1', fle, fle', mk1, mk2, ct, nwC, newHL1, m10, bk, hkq, hkq', FinL, isEnd, resL, res1]
    refine ⟨fun _ => M2 + 1, _, fun i hi => (by omega : N ≤ M2 + 1), fun i j (hi : i < 1) (hj : j < 1) _ => by omega, rfl, rfl, fun i hi => ⟨false, ?_⟩, fun q hq => ?_⟩
    · first | (simp only [↓R0, R1, simprocAttr, -Int.reduceAbs]; done) | (simp only [↓R0, R1, simprocAttr, -Int.reduceAbs]; rfl)
    · have nb := nbq2 q hq
      simp only [↓R0, R1, simprocAttr, -Int.reduceAbs, nb]
      exact hh2 q hq
  · have neg' : (sg (ar2 B / 2) < 0) = False := eq_false (fun h => neg (hfA.1 h))
    have eo : ori B = B := if_neg neg
    rw [eo]
    have lB : B.length = B.length := rfl
    have okO' := okO
    obtain ⟨B', hB'⟩ : ∃ B', B' = B := ⟨_, rfl⟩
    rw [← hB'] at okO' ⊢
    have lB : B'.length = B.length := by rw [hB']
    simp only [↓R0, R1, simprocAttr, -Int.reduceAbs, rdS, t0, t4, t5, t19, t20, t21, c1', o3, ar, sgA, neg']
    rw [← hB'] at o3
    refine lp_parts (fun c tm hp2 nx => ∃ (i M2 : Nat) (x2 : Bool), c + i = B.length ∧ tmget tm 4 = .slice (some ⟨kk, 0, none⟩) B.length B.length ∧ tmget tm 8 = .int .i64 (mnI B' i : Nat) ∧ tmget tm 62 = .slice (some ⟨kk, 0, none⟩) B.length B.length ∧ tmget tm 63 = .int .i64 B.length ∧ tmget tm 64 = .int .i64 (i : Nat) ∧
        hget hp2 kk = some ⟨34, 6, x2, ptC (B'.map pqo)⟩ ∧ ExtL N h hp2 ∧ M ≤ M2 ∧ nx = M2 + 0) ?_ B.length
      ⟨0, M, x, by omega, ?_, ?_, ?_, ?_, ?_, ?_, ?_, Nat.le_refl _, rfl⟩
    rotate_left
    all_goals first | (simp only [↓R0, R1, simprocAttr, -Int.reduceAbs]; done) | (simp only [↓R0, R1, simprocAttr, -Int.reduceAbs]; rfl) | (simp only [↓R0, R1, simprocAttr, -Int.reduceAbs, t4]; done) | (simp only [↓R0, R1, simprocAttr, -Int.reduceAbs, o3]; done) | exact hh | skip
    clear t0 t5 t19 t20 t21 t4
    rintro c tm hp2 nx ⟨i, M2, x2, hc2, t4, t8, t62, t63, t64, bk, hh2, hM2, hnx⟩
    rw [hnx]
    clear hnx nx
    have nbq2 : ∀ q, q < N → ∀ d, (M2 + d = q) = False := fun q hq d => eq_false (by omega)
    have hkq : ∀ d, (M2 + d = kk) = False := fun d => eq_false (by omega)
    have hkq' : ∀ d, (kk = M2 + d) = False := fun d => eq_false (by omega)
    have pl := ptC_len (B'.map pqo)
    rw [List.length_map, lB] at pl
    have fl := mnI_lt (l := B') (k := i) (n := B.length) (by omega) (by omega)
    by_cases d1 : i < B.length
    · have d1' : ((i : Int) < (B.length : Int)) = True := eq_true (by omega)
      have wi : IntKind.i64.wrap ((i : Int) + 1) = ((i + 1 : Nat) : Int) := by rw [i64_in _ (by omega)]; omega
      have fl' : ((mnI B' i : Int) < (B.length : Int)) = True := eq_true (by omega)
      have a1 := ptC_at (B'.map pqo) i (by rw [List.length_map]; omega)
      have a2 := ptC_at (B'.map pqo) (mnI B' i) (by rw [List.length_map]; omega)
      have b1 : (i * 6 + 6 ≤ B.length * 6) = True := eq_true (by omega)
      have b2 : (mnI B' i * 6 + 6 ≤ B.length * 6) = True := eq_true (by omega)
      have o1 := okO'.2 _ (pqAt_mem (l := B'.map pqo) (i := i) (by rw [List.length_map]; omega))
      have o2 := okO'.2 _ (pqAt_mem (l := B'.map pqo) (i := mnI B' i) (by rw [List.length_map]; omega))
      have cp := cmpP_of o1 o2
      have v1 := pvs_at (l := B'.map pqo) (i := i) (by rw [List.length_map]; omega)
      have v2 := pvs_at (l := B'.map pqo) (i := mnI B' i) (by rw [List.length_map]; omega)
      rw [map_pqo] at v1 v2
      rw [← v1, ← v2] at cp
      have em : mnI B' (i + 1) = if cmpP (ptv B' i) (ptv B' (mnI B' i)) < 0 then i else mnI B' i := rfl
      generalize pqAt (B'.map pqo) i = A at *
      generalize pqAt (B'.map pqo) (mnI B' i) = D at *
      generalize hF : mnI B' i = F at *
      by_cases g : cmpP (ptv B' i) (ptv B' F) < 0
      · have g' := eq_true g
        rw [if_pos g] at em
        simp only [↓R0, R1, simprocAttr, -Int.reduceAbs, t4, t8, t62, t63, t64, d1, d1', bk, pl, a1, a2, b1, b2, fl, fl', pcl_len, pcl_ok, pcl_tk, pp_st, hkq, hkq', cp, g', wi]
        refine ⟨c - 1, by omega, i + 1, M2 + 1, x2, by omega, ?_, rfl, ?_, fun q hq => ?_, by omega, rfl⟩
        · rw [em]
        · first | (simp only [↓R0, R1, simprocAttr, -Int.reduceAbs, hkq]; done) | (simp only [↓R0, R1, simprocAttr, -Int.reduceAbs, hkq]; exact bk)
        · have nb := nbq2 q hq
          simp only [↓R0, R1, simprocAttr, -Int.reduceAbs, nb]
          exact hh2 q hq
      · have g' := eq_false g
        rw [if_neg g] at em
        simp only [↓R0, R1, simprocAttr, -Int.reduceAbs, t4, t8, t62, t63, t64, d1, d1', bk, pl, a1, a2, b1, b2, fl, fl', pcl_len, pcl_ok, pcl_tk, pp_st, hkq, hkq', cp, g', wi]
        refine ⟨c - 1, by omega, i + 1, M2 + 1, x2, by omega, ?_, rfl, ?_, fun q hq => ?_, by omega, rfl⟩
        · rw [em]
        · first | (simp only [↓R0, R1, simprocAttr, -Int.reduceAbs, hkq]; done) | (simp only [↓R0, R1, simprocAttr, -Int.reduceAbs, hkq]; exact bk)
        · have nb := nbq2 q hq
          simp only [↓R0, R1, simprocAttr, -Int.reduceAbs, nb]
          exact hh2 q hq
    have ei : i = B.length := by omega
    subst ei
    have d1' : ((B.length : Int) < (B.length : Int)) = False := eq_false (by omega)
    have er : rmn B' = B'.drop (mnI B' B.length) ++ B'.take (mnI B' B.length) := by unfold rmn; rw [lB]
    have fle : ((mnI B' B.length : Int) ≤ (B.length : Int)) = True := eq_true (by omega)
    have fle' : (mnI B' B.length ≤ B.length) = True := eq_true (by omega)
    have lR : (rmn B').length = B.length := by rw [er, List.length_append, List.length_drop, List.length_take]; omega
    have nR : rmn B' ≠ [] := fun e => by rw [e] at lR; simp at lR; omega
    have eRm : (rmn B').map pqo = (B'.map pqo).drop (mnI B' B.length) ++ (B'.map pqo).take (mnI B' B.length) := by rw [er, List.map_append, List.map_drop, List.map_take]
    generalize hF : mnI B' B.length = F at *
    have mk1 : mkSl kk 0 6 B.length F B.length = .slice (some ⟨kk, F * 6, none⟩) (B.length - F) (B.length - F) := by unfold mkSl; rw [if_neg (by omega), Nat.zero_add]
    have mk2 : mkSl kk 0 6 B.length 0 F = .slice (some ⟨kk, 0, none⟩) F B.length := by unfold mkSl; rw [if_neg (by omega)]; simp
    have d1 : ∀ {hp' : Heap}, hget hp' kk = some ⟨34, 6, x2, ptC (B'.map pqo)⟩ → decPts hp' (.slice (some ⟨kk, F * 6, none⟩) (B.length - F) (B.length - F)) = some ((B'.map pqo).drop F) := fun hb => by
      rw [pts_sub hb (by rw [List.length_map]; omega) (Nat.le_refl _), List.take_of_length_le (by rw [List.length_drop, List.length_map]; omega)]
    have d2 : ∀ {hp' : Heap}, hget hp' kk = some ⟨34, 6, x2, ptC (B'.map pqo)⟩ → decPts hp' (.slice (some ⟨kk, 0, none⟩) F B.length) = some ((B'.map pqo).take F) := fun hb => by
      have := pts_sub (a := 0) (n := F) (c := B.length) hb (by rw [List.length_map]; omega) (by omega)
      rw [Nat.zero_mul, List.drop_zero] at this
      exact this
    have ct : ∀ {hp' : Heap}, hget hp' (M2 + 0) = some ⟨22, 1, true, [.slice (some ⟨kk, F * 6, none⟩) (B.length - F) (B.length - F), .slice (some ⟨kk, 0, none⟩) F B.length]⟩ → hget hp' kk = some ⟨34, 6, x2, ptC (B'.map pqo)⟩ →
        spCat2 [.slice (some ⟨M2 + 0, 0, none⟩) 2 2] hp' = some ⟨1, fun σ => .slice (some ⟨σ 0, 0, none⟩) (rmn B').length (rmn B').length, fun _ => 34, fun _ => 6, fun _ _ => ptC ((rmn B').map pqo)⟩ := fun h1 h2 => by
      unfold spCat2
      simp only [h1, d1 h2, d2 h2]
      rw [if_pos ⟨by rw [List.length_drop, List.length_take, List.length_map]; omega, by rw [List.length_drop, List.length_take, List.length_map]; omega⟩, eRm]
      have : ((B'.map pqo).drop F).length + ((B'.map pqo).take F).length = (rmn B').length := by rw [lR, List.length_drop, List.length_take, List.length_map]; omega
      rw [this]
    have nwC : ∀ (args : List Value) (hp : Heap) (k : Nat), nwL spCat2 args hp k = (spCat2 args hp).map fun r => (r.val (k + ·), newH r (k + ·) r.m, r.m) := fun _ _ _ => rfl
    have m10 : M2 + 1 + 0 = M2 + 1 := rfl
    unfold nmNL
    rw [if_neg nR]
    generalize ptC ((rmn B').map pqo) = PR at *
    generalize (rmn B').length = LR at *
    simp only [↓R0, R1, simprocAttr, -Int.reduceAbs, t4, t8, t62, t63, t64, d1', fle, fle', mk1, mk2, ct, nwC, newHL1, m10, bk, hkq, hkq', FinL, isEnd, resL, res1]
    refine ⟨fun _ => M2 + 1, _, fun i hi => (by omega : N ≤ M2 + 1), fun i j (hi : i < 1) (hj : j < 1) _ => by omega, rfl, rfl, fun i hi => ⟨false, ?_⟩, fun q hq => ?_⟩
    · first | (simp only [↓R0, R1, simprocAttr, -Int.reduceAbs]; done) | (simp only [↓R0, R1, simprocAttr, -Int.reduceAbs]; rfl)
    · have nb := nbq2 q hq
      simp only [↓R0, R1, simprocAttr, -Int.reduceAbs, nb]
      exact hh2 q hq
end Go.Eng
end
section
set_option linter.unusedVariables false
set_option linter.unusedSimpArgs false
set_option linter.unusedSectionVars false
set_option maxRecDepth 20000
namespace Go.Eng
open Go Go.Proofs Go.IntWalk
theorem norm_call {h : Heap} {b : Nat} {l : List PQ} {sl : Value} (hx : decPts h sl = some l) (hs : ptsN l) :
    ∃ a D mm, nwL spNorm2 [sl] h b = some (.tuple ⟨[.slice a (nmOut (pvs l)).2.length (nmOut (pvs l)).2.length, .int .i64 (nmOut (pvs l)).1]⟩, D, mm) ∧ (∀ q, q < b → hget (D ++ h) q = hget h q) ∧
      (∀ hp, ExtL (b + mm) (D ++ h) hp → decPts hp (.slice a (nmOut (pvs l)).2.length (nmOut (pvs l)).2.length) = some ((nmOut (pvs l)).2.map pqo)) := by
  have e0 : spNorm2 [sl] h = some (nmNL (nmOut (pvs l))) := by
    unfold spNorm2
    simp only [hx]
    exact if_pos hs
  have e : nwL spNorm2 [sl] h b = some ((nmNL (nmOut (pvs l))).val (b + ·), newH (nmNL (nmOut (pvs l))) (b + ·) (nmNL (nmOut (pvs l))).m, (nmNL (nmOut (pvs l))).m) := by
    unfold nwL
    rw [e0]; rfl
  rw [e]
  generalize nmOut (pvs l) = r at *
  unfold nmNL
  by_cases z : r.2 = []
  · rw [if_pos z]
    refine ⟨none, [], 0, ?_, fun _ _ => rfl, fun hp _ => ?_⟩
    · rw [z]; rfl
    · rw [z]; rfl
  · rw [if_neg z]
    refine ⟨some ⟨b + 0, 0, none⟩, _, 1, rfl, fun q hq => ?_, fun hp he => ?_⟩
    · have : (b + 0 = q) = False := eq_false (by omega)
      simp only [newH, List.cons_append, List.nil_append, hget, this, if_false]
    · have g := he (b + 0) (by omega)
      rw [show hget (newH ⟨1, fun σ => Value.tuple ⟨[.slice (some ⟨σ 0, 0, none⟩) r.2.length r.2.length, .int .i64 r.1]⟩, fun _ => 34, fun _ => 6, fun _ _ => ptC (r.2.map pqo)⟩ (b + ·) 1 ++ h) (b + 0) = some ⟨34, 6, false, ptC (r.2.map pqo)⟩ from if_pos rfl] at g
      exact pts_list g (List.length_map _)
def smallP (l : List PQ) : Prop := l.length ≤ 16 ∧ ∀ p ∈ l, pok 6 p
instance {l : List PQ} : Decidable (smallP l) := by unfold smallP; infer_instance
theorem smallP.n {l : List PQ} (h : smallP l) : ptsN l := ⟨by have := h.1; omega, fun p hp => (h.2 p hp).le (by omega)⟩
def spGreat26 : List Value → Heap → Option Value
  | [sl], h => match decPts h sl with
    | some l => if l.length ≤ 9223372036854775807 then some (.int .i64 (if smallP l then 0 else 1)) else none
    | none => none
  | _, _ => none
theorem great26_of {h : Heap} {sl : Value} {l : List PQ} (hx : decPts h sl = some l) (hs : l.length ≤ 9223372036854775807) : spGreat26 [sl] h = some (.int .i64 (if smallP l then 0 else 1)) := by
  unfold spGreat26
  simp only [hx]
  exact if_pos hs
def c6 : ICode :=
  (.seq (.reg [qq 2 (.mv (ci 0))]) (.seq (.seq (.reg [qq 5 (.mv (.t 0)), qq 6 (.lensl (.t 5)), qq 7 (.bin .gtr (.t 6) (ci 16))]) (.cond (.t 7) (.seq (.reg [qq 2 (.mv (ci 1))]) .ret) .skip)) (.seq (.seq (.reg [qq 8 (.mv (.t 0)), qq 9 (.lensl (.t 8)), qq 10 (.mv (ci 0))]) (.block 0 (.loop (.seq (.reg [qq 11 (.bin .lss (.t 10) (.t 9))]) (.seq (.cond (.t 11) .skip (.exit 0)) (.seq (.block 1 (.seq (.reg [qq 12 (.mv (.t 10)), qq 3 (.mv (.t 12))]) (.seq (.reg [qq 4 (.mv (ci 0))]) (.block 2 (.loop (.seq (.seq (.reg [qq 13 (.mv (.t 4)), qq 14 (.bin .lss (.t 13) (ci 2))]) (.cond (.t 14) .skip (.exit 2))) (.seq (.block 3 (.seq (.reg [qq 17 (.mv (.t 0)), qq 18 (.mv (.t 3)), qq 19 (.mv (.t 4)), qq 20 (.ixsl 6 (.t 17) (.t 18)), qq 21 (.ixarr 2 3 (.t 20) (.t 19)), qq 22 (.faddr 1 (.t 21)), qq 23 (.load false 1 (.t 22)), qq 24 (.lens (.t 23)), qq 25 (.bin .gtr (.t 24) (ci 6)), qq 26 (.mv (.t 25)), ⟨(some 27), (some (26, false)), (.mv (.t 0))⟩, ⟨(some 28), (some (26, false)), (.mv (.t 3))⟩, ⟨(some 29), (some (26, false)), (.mv (.t 4))⟩, ⟨(some 30), (some (26, false)), (.ixsl 6 (.t 27) (.t 28))⟩, ⟨(some 31), (some (26, false)), (.ixarr 2 3 (.t 30) (.t 29))⟩, ⟨(some 32), (some (26, false)), (.faddr 2 (.t 31))⟩, ⟨(some 33), (some (26, false)), (.load false 1 (.t 32))⟩, ⟨(some 34), (some (26, false)), (.lens (.t 33))⟩, ⟨(some 35), (some (26, false)), (.bin .gtr (.t 34) (ci 6))⟩, qq 36 (.pick (.t 26) (.c (.bool true)) (.t 35))]) (.cond (.t 36) (.seq (.reg [qq 2 (.mv (ci 1))]) .ret) .skip))) (.reg [qq 15 (.mv (.t 4)), qq 16 (.bin .add (.t 15) (ci 1)), qq 4 (.mv (.t 16))])))))))) (.reg [qq 37 (.bin .add (.t 10) (ci 1)), qq 10 (.mv (.t 37))]))))))) (.seq (.reg [qq 2 (.mv (ci 0))]) .ret))))
theorem tr6 : trFun Tryz.prog 6 = some ⟨38, [.t 2], c6⟩ := by kernel_rfl
set_option maxHeartbeats 8000000 in
theorem ok_great26 : SpecOK Tryz.prog 6 (rdS spGreat26) := by
  refine rd_run (env_nil _) mixed tr6 ?_ ?_
  · intro args h h' v hle e
    unfold spGreat26 at e ⊢
    split at e
    · split at e
      · rename_i l hb
        simp only [decPts_mono hle hb]; exact e
      · cases e
    · cases e
  intro args v h N hG hN
  unfold spGreat26 at hG
  split at hG
  case h_2 => cases hG
  rename_i sl
  split at hG
  case h_2 => cases hG
  rename_i l hx
  split at hG
  case isFalse => cases hG
  rename_i hs
  cases hG
  obtain ⟨a, cc, rfl⟩ := decPts_sl hx
  refine ⟨rfl, by simp, ?_⟩
  by_cases c16 : 16 < l.length
  · have c16' : ((l.length : Int) > 16) = True := eq_true (by omega)
    rw [if_neg (fun h => by have := h.1; omega)]
    simp only [c6, G0, Nat.reduceAdd]
    simp only [↓R0, R1, simprocAttr, -Int.reduceAbs, c16', Fin, isEnd, resL, res1]
    exact ⟨_, rfl, rfl, fun k hk => by simp only [ne_nb hk, if_false]⟩
  have c16' : ((l.length : Int) > 16) = False := eq_false (by omega)
  simp only [c6, G0, Nat.reduceAdd]
  simp only [↓R0, R1, simprocAttr, -Int.reduceAbs, c16']
  refine lp_parts (fun c tm hp nx => ∃ (i : Nat), c + i = l.length ∧ tmget tm 0 = .slice a l.length cc ∧ tmget tm 9 = .int .i64 l.length ∧ tmget tm 10 = .int .i64 (i : Nat) ∧ (∀ j, j < i → pok 6 (pqAt l j)) ∧ hp = h ∧ nx = N + 0) ?_ l.length
    ⟨0, by omega, ?_, ?_, ?_, fun j hj => absurd hj (Nat.not_lt_zero j), rfl, rfl⟩
  rotate_left
  all_goals first | (simp only [↓R0, R1, simprocAttr, -Int.reduceAbs]; done) | (simp only [↓R0, R1, simprocAttr, -Int.reduceAbs]; rfl) | skip
  rintro c tm hp nx ⟨i, hc, t0, t9, t10, hall, rfl, hnx⟩
  rw [hnx]
  clear hnx nx
  by_cases c1 : i < l.length
  case neg =>
    have e : i = l.length := by omega
    subst e
    have c1' : ((l.length : Int) < (l.length : Int)) = False := eq_false (by omega)
    have sp : smallP l := ⟨by omega, fun p hp => by
      obtain ⟨j, hj⟩ := List.getElem?_of_mem hp
      have hlt := (List.getElem?_eq_some_iff.1 hj).1
      rw [pqAt_some hlt] at hj
      rw [← Option.some.inj hj]
      exact hall j hlt⟩
    rw [if_pos sp]
    simp only [↓R0, R1, simprocAttr, -Int.reduceAbs, t0, t9, t10, c1', Fin, isEnd, resL, res1]
    exact ⟨_, rfl, rfl, fun _ _ => trivial⟩
  have c1' : ((i : Int) < (l.length : Int)) = True := eq_true (by omega)
  have w1 : IntKind.i64.wrap ((i : Int) + 1) = ((i + 1 : Nat) : Int) := by rw [i64_in _ (by omega)]; omega
  obtain ⟨k, off, blk, rfl, hb, q1, q2⟩ := pts_at hx c1
  obtain ⟨A, hA⟩ : ∃ A, A = pqAt l i := ⟨_, rfl⟩
  rw [← hA] at q2
  have pc : ∀ j, j < 6 → blk.cells[off + i * 6 + j]? = (pcl A)[j]? := fun j hj => by
    rw [← q2, List.getElem?_take, if_pos hj, List.getElem?_drop]
  have p1 : blk.cells[off + i * 6 + 1]? = some (.string ⟨⟨A.1.n⟩⟩) := pc 1 (by omega)
  have p2 : blk.cells[off + i * 6 + 2]? = some (.string ⟨⟨A.1.d⟩⟩) := pc 2 (by omega)
  have p4 : blk.cells[off + i * 6 + 3 + 1]? = some (.string ⟨⟨A.2.n⟩⟩) := pc 4 (by omega)
  have p5 : blk.cells[off + i * 6 + 3 + 2]? = some (.string ⟨⟨A.2.d⟩⟩) := pc 5 (by omega)
  have p4' : blk.cells[off + i * 6 + 4]? = some (.string ⟨⟨A.2.n⟩⟩) := pc 4 (by omega)
  have p5' : blk.cells[off + i * 6 + 5]? = some (.string ⟨⟨A.2.d⟩⟩) := pc 5 (by omega)
  have p0 : blk.cells[off + i * 6 + 0 + 1]? = some (.string ⟨⟨A.1.n⟩⟩) := pc 1 (by omega)
  have p0' : blk.cells[off + i * 6 + 0 + 2]? = some (.string ⟨⟨A.1.d⟩⟩) := pc 2 (by omega)
  have sz : ∀ x : List UInt8, ((⟨⟨x⟩⟩ : ByteArray).size : Int) = (x.length : Int) := fun _ => rfl
  have bad : ¬ pok 6 A → (if smallP l then (0 : Int) else 1) = 1 := fun h => if_neg fun H => h (by rw [hA]; exact H.2 _ (pqAt_mem c1))
  by_cases s1 : 6 < A.1.n.length
  · have s1' : ((A.1.n.length : Int) > 6) = True := eq_true (by omega)
    rw [bad (fun h => by have := h.1.1; omega)]
    simp only [↓R0, R1, simprocAttr, -Int.reduceAbs, t0, t9, t10, c1, c1']
    refine lp_step ?_
    simp only [↓R0, R1, simprocAttr, -Int.reduceAbs, t0, t9, t10, hb, p0, p1, sz, s1', c1, c1', Fin, isEnd, resL, res1]
    exact ⟨_, rfl, rfl, fun _ _ => trivial⟩
  have s1' : ((A.1.n.length : Int) > 6) = False := eq_false (by omega)
  by_cases s2 : 6 < A.1.d.length
  · have s2' : ((A.1.d.length : Int) > 6) = True := eq_true (by omega)
    rw [bad (fun h => by have := h.1.2; omega)]
    simp only [↓R0, R1, simprocAttr, -Int.reduceAbs, t0, t9, t10, c1, c1']
    refine lp_step ?_
    simp only [↓R0, R1, simprocAttr, -Int.reduceAbs, t0, t9, t10, hb, p0, p0', p1, p2, sz, s1', s2', c1, c1', Fin, isEnd, resL, res1]
    exact ⟨_, rfl, rfl, fun _ _ => trivial⟩
  have s2' : ((A.1.d.length : Int) > 6) = False := eq_false (by omega)
  by_cases s3 : 6 < A.2.n.length
  · have s3' : ((A.2.n.length : Int) > 6) = True := eq_true (by omega)
    rw [bad (fun h => by have := h.2.1; omega)]
    simp only [↓R0, R1, simprocAttr, -Int.reduceAbs, t0, t9, t10, c1, c1']
    refine lp_step ?_
    simp only [↓R0, R1, simprocAttr, -Int.reduceAbs, t0, t9, t10, hb, p0, p0', p1, p2, sz, s1', s2', c1, c1']
    refine lp_step ?_
    simp only [↓R0, R1, simprocAttr, -Int.reduceAbs, t0, t9, t10, hb, p4, p4', sz, s3', c1, c1', Fin, isEnd, resL, res1]
    exact ⟨_, rfl, rfl, fun _ _ => trivial⟩
  have s3' : ((A.2.n.length : Int) > 6) = False := eq_false (by omega)
  by_cases s4 : 6 < A.2.d.length
  · have s4' : ((A.2.d.length : Int) > 6) = True := eq_true (by omega)
    rw [bad (fun h => by have := h.2.2; omega)]
    simp only [↓R0, R1, simprocAttr, -Int.reduceAbs, t0, t9, t10, c1, c1']
    refine lp_step ?_
    simp only [↓R0, R1, simprocAttr, -Int.reduceAbs, t0, t9, t10, hb, p0, p0', p1, p2, sz, s1', s2', c1, c1']
    refine lp_step ?_
    simp only [↓R0, R1, simprocAttr, -Int.reduceAbs, t0, t9, t10, hb, p4, p4', p5, p5', sz, s3', s4', c1, c1', Fin, isEnd, resL, res1]
    exact ⟨_, rfl, rfl, fun _ _ => trivial⟩
  have s4' : ((A.2.d.length : Int) > 6) = False := eq_false (by omega)
  simp only [↓R0, R1, simprocAttr, -Int.reduceAbs, t0, t9, t10, c1, c1']
  refine lp_step ?_
  simp only [↓R0, R1, simprocAttr, -Int.reduceAbs, t0, t9, t10, hb, p0, p0', p1, p2, sz, s1', s2', c1, c1']
  refine lp_step ?_
  simp only [↓R0, R1, simprocAttr, -Int.reduceAbs, t0, t9, t10, hb, p4, p4', p5, p5', sz, s3', s4', c1, c1']
  refine lp_step ?_
  simp only [↓R0, R1, simprocAttr, -Int.reduceAbs, t0, t9, t10, w1]
  refine ⟨c - 1, by omega, i + 1, by omega, rfl, fun j hj => ?_⟩
  by_cases e : j = i
  · rw [e, ← hA]; exact ⟨⟨by omega, by omega⟩, by omega, by omega⟩
  · exact hall j (by omega)
theorem ceq6 (p q : PQ) : ceq [.b, .s, .s, .b, .s, .s] (pcl p) (pcl q) = some (decide (p = q)) := by
  obtain ⟨⟨s1, n1, d1⟩, ⟨s2, n2, d2⟩⟩ := p
  obtain ⟨⟨t1, m1, e1⟩, ⟨t2, m2, e2⟩⟩ := q
  simp only [pcl, RQ.cells, List.cons_append, List.nil_append, ceq, Option.map_some, Bool.and_true]
  have f : ∀ x y : List UInt8, decide ((⟨⟨x⟩⟩ : ByteArray) = ⟨⟨y⟩⟩) = decide (x = y) := fun x y => decide_eq_decide.2 ⟨fun e => by injection e with e; injection e, fun e => by rw [e]⟩
  simp only [f]
  rw [show decide (((⟨s1, n1, d1⟩ : RQ), (⟨s2, n2, d2⟩ : RQ)) = (⟨t1, m1, e1⟩, ⟨t2, m2, e2⟩)) = decide (s1 = t1 ∧ n1 = m1 ∧ d1 = e1 ∧ s2 = t2 ∧ n2 = m2 ∧ d2 = e2) from decide_eq_decide.2 ⟨fun e => by cases e; exact ⟨rfl, rfl, rfl, rfl, rfl, rfl⟩, fun ⟨a, b, c, d, e, f⟩ => by rw [a, b, c, d, e, f]⟩]
  simp only [Bool.decide_and]
def spSame26 : List Value → Heap → Option Value
  | [sl, tl], h => match decPts h sl, decPts h tl with
    | some l, some m => if l.length ≤ 1000 then some (.bool (decide (l = m))) else none
    | _, _ => none
  | _, _ => none
theorem same26_of {h : Heap} {sl tl : Value} {l m : List PQ} (hx : decPts h sl = some l) (hy : decPts h tl = some m) (hs : l.length ≤ 1000) : spSame26 [sl, tl] h = some (.bool (decide (l = m))) := by
  unfold spSame26
  simp only [hx, hy]
  exact if_pos hs
def c10 : ICode :=
  (.seq (.reg [qq 4 (.mv (.c (.bool false)))]) (.seq (.seq (.reg [qq 6 (.mv (.t 0)), qq 7 (.lensl (.t 6)), qq 8 (.mv (.t 1)), qq 9 (.lensl (.t 8)), qq 10 (.bin .neq (.t 7) (.t 9))]) (.cond (.t 10) (.seq (.reg [qq 4 (.mv (.c (.bool false)))]) .ret) .skip)) (.seq (.seq (.reg [qq 11 (.mv (.t 0)), qq 12 (.lensl (.t 11)), qq 13 (.mv (ci 0))]) (.block 0 (.loop (.seq (.reg [qq 14 (.bin .lss (.t 13) (.t 12))]) (.seq (.cond (.t 14) .skip (.exit 0)) (.seq (.block 1 (.seq (.reg [qq 15 (.mv (.t 13)), qq 5 (.mv (.t 15))]) (.seq (.dreg [qu 16 (.mv (.t 0)), qu 17 (.mv (.t 5)), qu 18 (.ixsl 6 (.t 16) (.t 17)), qu 19 (.load true 6 (.t 18)), qu 20 (.mv (.t 1)), qu 21 (.mv (.t 5)), qu 22 (.ixsl 6 (.t 20) (.t 21)), qu 23 (.load true 6 (.t 22)), qu 24 (.eqa true [.b, .s, .s, .b, .s, .s] (.t 19) (.t 23))]) (.cond (.t 24) (.seq (.reg [qq 4 (.mv (.c (.bool false)))]) .ret) .skip)))) (.reg [qq 25 (.bin .add (.t 13) (ci 1)), qq 13 (.mv (.t 25))]))))))) (.seq (.reg [qq 4 (.mv (.c (.bool true)))]) .ret))))
theorem tr10 : trFun Tryz.prog 10 = some ⟨26, [.t 4], c10⟩ := by kernel_rfl
set_option maxHeartbeats 8000000 in
theorem ok_same26 : SpecOK Tryz.prog 10 (rdS spSame26) := by
  refine rd_run (env_nil _) mixed tr10 ?_ ?_
  · intro args h h' v hle e
    unfold spSame26 at e ⊢
    split at e
    · split at e
      · rename_i l m hb hc
        simp only [decPts_mono hle hb, decPts_mono hle hc]; exact e
      · cases e
    · cases e
  intro args v h N hG hN
  unfold spSame26 at hG
  split at hG
  case h_2 => cases hG
  rename_i sl tl
  split at hG
  case h_2 => cases hG
  rename_i l m hx hy
  split at hG
  case isFalse => cases hG
  rename_i hs
  cases hG
  obtain ⟨a, cc, rfl⟩ := decPts_sl hx
  obtain ⟨b, dd, rfl⟩ := decPts_sl hy
  refine ⟨rfl, by simp, ?_⟩
  have dn : ∀ a b : Int, decide (a ≠ b) = !decide (a = b) := fun a b => by by_cases h : a = b <;> simp [h]
  by_cases el : l.length = m.length
  case neg =>
    have el' : ((l.length : Int) = (m.length : Int)) = False := eq_false (by omega)
    have el'' : (l.length = m.length) = False := eq_false el
    rw [decide_eq_false (fun e => el (by rw [e]))]
    simp only [c10, G0, Nat.reduceAdd]
    simp only [↓R0, R1, simprocAttr, -Int.reduceAbs, dn, el', el'', Bool.not_false, Fin, isEnd, resL, res1]
    exact ⟨_, rfl, rfl, fun k hk => by simp only [ne_nb hk, if_false]⟩
  have el' : ((l.length : Int) = (m.length : Int)) = True := eq_true (by omega)
  have el'' : (l.length = m.length) = True := eq_true el
  simp only [c10, G0, Nat.reduceAdd]
  simp only [↓R0, R1, simprocAttr, -Int.reduceAbs, dn, el', el'', Bool.not_true]
  refine lp_parts (fun c tm hp nx => ∃ (i : Nat), c + i = l.length ∧ tmget tm 0 = .slice a l.length cc ∧ tmget tm 1 = .slice b m.length dd ∧ tmget tm 12 = .int .i64 l.length ∧ tmget tm 13 = .int .i64 (i : Nat) ∧ (∀ j, j < i → pqAt l j = pqAt m j) ∧ hp = h ∧ nx = N + 0) ?_ l.length
    ⟨0, by omega, ?_, ?_, ?_, ?_, fun j hj => absurd hj (Nat.not_lt_zero j), rfl, rfl⟩
  rotate_left
  all_goals first | (simp only [↓R0, R1, simprocAttr, -Int.reduceAbs]; done) | (simp only [↓R0, R1, simprocAttr, -Int.reduceAbs]; rfl) | skip
  rintro c tm hp nx ⟨i, hc, t0, t1, t12, t13, hall, rfl, hnx⟩
  rw [hnx]
  clear hnx nx
  by_cases c1 : i < l.length
  case neg =>
    have e : i = l.length := by omega
    subst e
    have c1' : ((l.length : Int) < (l.length : Int)) = False := eq_false (by omega)
    have ev : l = m := List.ext_getElem? fun j => by
      by_cases hj : j < l.length
      · rw [pqAt_some hj, pqAt_some (l := m) (by omega), hall j hj]
      · rw [List.getElem?_eq_none (by omega), List.getElem?_eq_none (by omega)]
    rw [decide_eq_true ev]
    simp only [↓R0, R1, simprocAttr, -Int.reduceAbs, t0, t1, t12, t13, c1', Fin, isEnd, resL, res1]
    exact ⟨_, rfl, rfl, fun _ _ => trivial⟩
  have c1' : ((i : Int) < (l.length : Int)) = True := eq_true (by omega)
  have c2' : ((i : Int) < (m.length : Int)) = True := eq_true (by omega)
  have c2 : i < m.length := by omega
  have w1 : IntKind.i64.wrap ((i : Int) + 1) = ((i + 1 : Nat) : Int) := by rw [i64_in _ (by omega)]; omega
  obtain ⟨k, off, blk, rfl, hb, q1, q2⟩ := pts_at hx c1
  obtain ⟨k', off', blk', rfl, hb', q3, q4⟩ := pts_at hy c2
  have ce := ceq6 (pqAt l i) (pqAt m i)
  by_cases z : pqAt l i = pqAt m i
  · rw [decide_eq_true z] at ce
    generalize hA : pcl (pqAt l i) = CA at *
    generalize hB : pcl (pqAt m i) = CB at *
    simp only [↓R0, R1, simprocAttr, -Int.reduceAbs, t0, t1, t12, t13, c1, c1', c2, c2', hb, hb', q1, q2, q3, q4, ce, w1, Bool.not_true, Bool.not_false]
    refine ⟨c - 1, by omega, i + 1, by omega, rfl, fun j hj => ?_⟩
    by_cases e : j = i
    · rw [e]; exact z
    · exact hall j (by omega)
  · rw [decide_eq_false z] at ce
    rw [decide_eq_false (fun e => z (by rw [e]))]
    generalize hA : pcl (pqAt l i) = CA at *
    generalize hB : pcl (pqAt m i) = CB at *
    simp only [↓R0, R1, simprocAttr, -Int.reduceAbs, t0, t1, t12, t13, c1, c1', c2, c2', hb, hb', q1, q2, q3, q4, ce, w1, Bool.not_true, Bool.not_false, Fin, isEnd, resL, res1]
    exact ⟨_, rfl, rfl, fun _ _ => trivial⟩
def dP (x y : Int) : PQ := pqo ((x : Rat), (y : Rat))
def spDot26 : List Value → Option Value
  | [.int .i64 x, .int .i64 y] => if (-1000 ≤ x ∧ x ≤ 1000) ∧ -1000 ≤ y ∧ y ≤ 1000 then some (.agg ⟨pcl (dP x y)⟩) else none
  | _ => none
theorem dot26_of {x y : Int} (hx : -1000 ≤ x ∧ x ≤ 1000) (hy : -1000 ≤ y ∧ y ≤ 1000) : spDot26 [.int .i64 x, .int .i64 y] = some (.agg ⟨pcl (dP x y)⟩) := if_pos ⟨hx, hy⟩
def c18 : ICode :=
  (.seq (.reg [qq 4 (.alloc 34 6 [(.bool false), e0, e0, (.bool false), e0, e0])]) (.seq (.reg [qq 5 (.mv (.t 0)), qq 6 (.call 19 [(.t 5)]), qq 7 (.mv (.t 1)), qq 8 (.call 19 [(.t 7)]), qq 9 (.build [(.bool false), e0, e0, (.bool false), e0, e0] [(0, 3, (.t 6)), (3, 3, (.t 8))]), qn (.store 6 (.t 4) (.t 9))]) .ret))
theorem tr18 : trFun Tryz.prog 18 = some ⟨10, [.cell 4 true 6], c18⟩ := by kernel_rfl
theorem ok_dot26 : SpecOK Tryz.prog 18 (flat spDot26) := by
  refine flat_run (env_cons ok_qFrom (env_nil _)) mixed tr18 ?_
  intro args v h N hG
  unfold spDot26 at hG
  split at hG
  case h_2 => cases hG
  rename_i x y
  split at hG
  case isFalse => cases hG
  rename_i hs
  cases hG
  refine ⟨rfl, by simp, ?_⟩
  have f1 := qfrom hs.1
  have f2 := qfrom hs.2
  have pm := p_mk (RQ.of (x : Rat)) (RQ.of (y : Rat))
  have e : ((RQ.of (x : Rat), RQ.of (y : Rat)) : PQ) = dP x y := rfl
  rw [e] at pm
  generalize RQ.of (x : Rat) = QX at *
  generalize RQ.of (y : Rat) = QY at *
  simp only [c18, G0, Nat.reduceAdd]
  simp only [↓R0, R1, simprocAttr, -Int.reduceAbs, f1, f2, pm, q_len, q_ok, q_tk, setR_length, pcl_len, pcl_ok, pcl_tk, pp_st, Fin, isEnd, resL, res1]
  exact ⟨_, rfl, rfl, fun k hk => by simp only [ne_nb hk, if_false]⟩
def exL : List PQ := [dP 2 0, dP 0 0, dP 0 2, dP 2 2, dP 2 1]
theorem dP_v (x y : Int) : pv2 (dP x y) = ((x : Rat), (y : Rat)) := pqo_v _
theorem exL_v : pvs exL = [(2, 0), (0, 0), (0, 2), (2, 2), (2, 1)] := by
  unfold exL pvs
  simp only [List.map_cons, List.map_nil, dP_v]
  rfl
theorem ex1 : nmOut [(2, 0), (0, 0), (0, 2), (2, 2), (2, 1)] = (0, [(0, 0), (2, 0), (2, 2), (0, 2)]) := by decide +kernel
theorem ex2 : ar2 [(2, 0), (0, 0), (0, 2), (2, 2), (2, 1)] / 2 = -4 := by decide +kernel
theorem ex3 : clsP [(2, 0), (0, 0), (0, 2), (2, 2), (2, 1)] (1, 1) = 1 := by decide +kernel
theorem ex4 : clsP [(2, 0), (0, 0), (0, 2), (2, 2), (2, 1)] (3, 1) = -1 := by decide +kernel
theorem dP_ok {x y : Int} (hx : -1000 ≤ x ∧ x ≤ 1000) (hy : -1000 ≤ y ∧ y ≤ 1000) : pok 1000 (dP x y) := ⟨(RQ.of_ok (RBs hx)).le (by omega), (RQ.of_ok (RBs hy)).le (by omega)⟩
theorem exL_ok : ptsN exL := by
  refine ⟨by decide, fun p hp => ?_⟩
  have : p = dP 2 0 ∨ p = dP 0 0 ∨ p = dP 0 2 ∨ p = dP 2 2 ∨ p = dP 2 1 := by simpa [exL] using hp
  rcases this with rfl | rfl | rfl | rfl | rfl <;> exact dP_ok (by omega) (by omega)
theorem put1 (l : List PQ) (q : PQ) (n : Nat) : setR (ptC l ++ zs6 (n + 1)) (l.length * 6) (pcl q) = ptC (l ++ [q]) ++ zs6 n := by
  have e : zs6 (n + 1) = zs6 1 ++ zs6 n := by rw [← zs6_add, Nat.add_comm]
  rw [setR_app_right _ _ _ _ (by rw [ptC_len]; exact Nat.le_refl _), ptC_len, Nat.sub_self, e, setR_app_left _ _ _ _ (by rw [pcl_len, zs6_len]; omega), setR_full _ _ (by rw [pcl_len, zs6_len]), ptC_snoc, List.append_assoc]
theorem five (a b c d e : PQ) : setR (setR (setR (setR (setR [.bool false, .string ⟨⟨[]⟩⟩, .string ⟨⟨[]⟩⟩, .bool false, .string ⟨⟨[]⟩⟩, .string ⟨⟨[]⟩⟩, .bool false, .string ⟨⟨[]⟩⟩, .string ⟨⟨[]⟩⟩, .bool false, .string ⟨⟨[]⟩⟩, .string ⟨⟨[]⟩⟩, .bool false, .string ⟨⟨[]⟩⟩, .string ⟨⟨[]⟩⟩, .bool false, .string ⟨⟨[]⟩⟩, .string ⟨⟨[]⟩⟩, .bool false, .string ⟨⟨[]⟩⟩, .string ⟨⟨[]⟩⟩, .bool false, .string ⟨⟨[]⟩⟩, .string ⟨⟨[]⟩⟩, .bool false, .string ⟨⟨[]⟩⟩, .string ⟨⟨[]⟩⟩, .bool false, .string ⟨⟨[]⟩⟩, .string ⟨⟨[]⟩⟩] 0 (pcl a)) 6 (pcl b)) 12 (pcl c)) 18 (pcl d)) 24 (pcl e) = ptC [a, b, c, d, e] := by
  have e0 : ([.bool false, .string ⟨⟨[]⟩⟩, .string ⟨⟨[]⟩⟩, .bool false, .string ⟨⟨[]⟩⟩, .string ⟨⟨[]⟩⟩, .bool false, .string ⟨⟨[]⟩⟩, .string ⟨⟨[]⟩⟩, .bool false, .string ⟨⟨[]⟩⟩, .string ⟨⟨[]⟩⟩, .bool false, .string ⟨⟨[]⟩⟩, .string ⟨⟨[]⟩⟩, .bool false, .string ⟨⟨[]⟩⟩, .string ⟨⟨[]⟩⟩, .bool false, .string ⟨⟨[]⟩⟩, .string ⟨⟨[]⟩⟩, .bool false, .string ⟨⟨[]⟩⟩, .string ⟨⟨[]⟩⟩, .bool false, .string ⟨⟨[]⟩⟩, .string ⟨⟨[]⟩⟩, .bool false, .string ⟨⟨[]⟩⟩, .string ⟨⟨[]⟩⟩] : List Value) = ptC [] ++ zs6 5 := rfl
  have e1 : setR (ptC [] ++ zs6 5) 0 (pcl a) = ptC [a] ++ zs6 4 := put1 [] a 4
  have e2 : setR (ptC [a] ++ zs6 4) 6 (pcl b) = ptC [a, b] ++ zs6 3 := put1 [a] b 3
  have e3 : setR (ptC [a, b] ++ zs6 3) 12 (pcl c) = ptC [a, b, c] ++ zs6 2 := put1 [a, b] c 2
  have e4 : setR (ptC [a, b, c] ++ zs6 2) 18 (pcl d) = ptC [a, b, c, d] ++ zs6 1 := put1 [a, b, c] d 1
  have e5 : setR (ptC [a, b, c, d] ++ zs6 1) 24 (pcl e) = ptC [a, b, c, d, e] ++ zs6 0 := put1 [a, b, c, d] e 0
  have e6 : zs6 0 = [] := rfl
  rw [e0, e1, e2, e3, e4, e5, e6, List.append_nil]
theorem four (a b c d : PQ) : setR (setR (setR (setR [.bool false, .string ⟨⟨[]⟩⟩, .string ⟨⟨[]⟩⟩, .bool false, .string ⟨⟨[]⟩⟩, .string ⟨⟨[]⟩⟩, .bool false, .string ⟨⟨[]⟩⟩, .string ⟨⟨[]⟩⟩, .bool false, .string ⟨⟨[]⟩⟩, .string ⟨⟨[]⟩⟩, .bool false, .string ⟨⟨[]⟩⟩, .string ⟨⟨[]⟩⟩, .bool false, .string ⟨⟨[]⟩⟩, .string ⟨⟨[]⟩⟩, .bool false, .string ⟨⟨[]⟩⟩, .string ⟨⟨[]⟩⟩, .bool false, .string ⟨⟨[]⟩⟩, .string ⟨⟨[]⟩⟩] 0 (pcl a)) 6 (pcl b)) 12 (pcl c)) 18 (pcl d) = ptC [a, b, c, d] := by
  have e0 : ([.bool false, .string ⟨⟨[]⟩⟩, .string ⟨⟨[]⟩⟩, .bool false, .string ⟨⟨[]⟩⟩, .string ⟨⟨[]⟩⟩, .bool false, .string ⟨⟨[]⟩⟩, .string ⟨⟨[]⟩⟩, .bool false, .string ⟨⟨[]⟩⟩, .string ⟨⟨[]⟩⟩, .bool false, .string ⟨⟨[]⟩⟩, .string ⟨⟨[]⟩⟩, .bool false, .string ⟨⟨[]⟩⟩, .string ⟨⟨[]⟩⟩, .bool false, .string ⟨⟨[]⟩⟩, .string ⟨⟨[]⟩⟩, .bool false, .string ⟨⟨[]⟩⟩, .string ⟨⟨[]⟩⟩] : List Value) = ptC [] ++ zs6 4 := rfl
  have e1 : setR (ptC [] ++ zs6 4) 0 (pcl a) = ptC [a] ++ zs6 3 := put1 [] a 3
  have e2 : setR (ptC [a] ++ zs6 3) 6 (pcl b) = ptC [a, b] ++ zs6 2 := put1 [a] b 2
  have e3 : setR (ptC [a, b] ++ zs6 2) 12 (pcl c) = ptC [a, b, c] ++ zs6 1 := put1 [a, b] c 1
  have e4 : setR (ptC [a, b, c] ++ zs6 1) 18 (pcl d) = ptC [a, b, c, d] ++ zs6 0 := put1 [a, b, c] d 0
  have e6 : zs6 0 = [] := rfl
  rw [e0, e1, e2, e3, e4, e6, List.append_nil]
theorem exN : ([(0, 0), (2, 0), (2, 2), (0, 2)] : List P2).map pqo = [dP 0 0, dP 2 0, dP 2 2, dP 0 2] := congrArg (List.map pqo) (show ([(0, 0), (2, 0), (2, 2), (0, 2)] : List P2) = [(((0 : Int) : Rat), ((0 : Int) : Rat)), (((2 : Int) : Rat), ((0 : Int) : Rat)), (((2 : Int) : Rat), ((2 : Int) : Rat)), (((0 : Int) : Rat), ((2 : Int) : Rat))] from rfl)
theorem v11 : pv2 (dP 1 1) = (1, 1) := (dP_v 1 1).trans rfl
theorem v31 : pv2 (dP 3 1) = (3, 1) := (dP_v 3 1).trans rfl
theorem ex_ar {h : Heap} {sl : Value} (hx : decPts h sl = some exL) : spArea2 [sl] h = some (.agg ⟨(RQ.of (-4)).cells⟩) := by rw [area2_of hx exL_ok.ok, exL_v, ex2]
theorem ex_in {h : Heap} {sl : Value} (hx : decPts h sl = some exL) : spCls2 [sl, .agg ⟨pcl (dP 1 1)⟩] h = some (.int .i64 1) := by
  rw [cls2_of hx exL_ok.ok ((dP_ok (by omega) (by omega)).le (by omega)), exL_v, v11, ex3]
theorem ex_out {h : Heap} {sl : Value} (hx : decPts h sl = some exL) : spCls2 [sl, .agg ⟨pcl (dP 3 1)⟩] h = some (.int .i64 (-1)) := by
  rw [cls2_of hx exL_ok.ok ((dP_ok (by omega) (by omega)).le (by omega)), exL_v, v31, ex4]
theorem ex_norm {h : Heap} {b : Nat} {sl : Value} (hx : decPts h sl = some exL) :
    ∃ a D mm, nwL spNorm2 [sl] h b = some (.tuple ⟨[.slice a 4 4, .int .i64 0]⟩, D, mm) ∧ (∀ q, q < b → hget (D ++ h) q = hget h q) ∧
      (∀ hp, ExtL (b + mm) (D ++ h) hp → decPts hp (.slice a 4 4) = some [dP 0 0, dP 2 0, dP 2 2, dP 0 2]) := by
  obtain ⟨a, D, mm, h1, h2, h3⟩ := norm_call (b := b) hx exL_ok
  rw [exL_v, ex1] at h1 h3
  refine ⟨a, D, mm, h1, h2, fun hp he => ?_⟩
  rw [← exN]
  exact h3 hp he
theorem ceqQ (q : RQ) : ceq [.b, .s, .s] q.cells q.cells = some true := by
  simp only [RQ.cells, ceq, Option.map_some, decide_true, Bool.and_true]
end Go.Eng
end
section
set_option linter.unusedVariables false
set_option linter.unusedSimpArgs false
set_option linter.unusedSectionVars false
set_option maxRecDepth 20000
namespace Go.Eng
open Go Go.Proofs Go.IntWalk
def spAwake26 : List Value → Heap → Option Value
  | [], _ => some (.bool true)
  | _, _ => none
theorem fiveEx : setR (setR (setR (setR (setR [.bool false, .string ⟨⟨[]⟩⟩, .string ⟨⟨[]⟩⟩, .bool false, .string ⟨⟨[]⟩⟩, .string ⟨⟨[]⟩⟩, .bool false, .string ⟨⟨[]⟩⟩, .string ⟨⟨[]⟩⟩, .bool false, .string ⟨⟨[]⟩⟩, .string ⟨⟨[]⟩⟩, .bool false, .string ⟨⟨[]⟩⟩, .string ⟨⟨[]⟩⟩, .bool false, .string ⟨⟨[]⟩⟩, .string ⟨⟨[]⟩⟩, .bool false, .string ⟨⟨[]⟩⟩, .string ⟨⟨[]⟩⟩, .bool false, .string ⟨⟨[]⟩⟩, .string ⟨⟨[]⟩⟩, .bool false, .string ⟨⟨[]⟩⟩, .string ⟨⟨[]⟩⟩, .bool false, .string ⟨⟨[]⟩⟩, .string ⟨⟨[]⟩⟩] 0 (pcl (dP 2 0))) 6 (pcl (dP 0 0))) 12 (pcl (dP 0 2))) 18 (pcl (dP 2 2))) 24 (pcl (dP 2 1)) = ptC exL := by
  unfold exL
  exact five _ _ _ _ _
def c7 : ICode :=
  (.seq (.reg [qq 0 (.mv (.c (.bool false)))]) (.seq (.reg [qq 4 (.call 18 [(ci 2), (ci 0)]), qq 5 (.call 18 [(ci 0), (ci 0)]), qq 6 (.call 18 [(ci 0), (ci 2)]), qq 7 (.call 18 [(ci 2), (ci 2)]), qq 8 (.call 18 [(ci 2), (ci 1)]), qq 9 (.bslice 34 6 5 [(.bool false), e0, e0, (.bool false), e0, e0, (.bool false), e0, e0, (.bool false), e0, e0, (.bool false), e0, e0, (.bool false), e0, e0, (.bool false), e0, e0, (.bool false), e0, e0, (.bool false), e0, e0, (.bool false), e0, e0] [(0, 6, (.t 4)), (6, 6, (.t 5)), (12, 6, (.t 6)), (18, 6, (.t 7)), (24, 6, (.t 8))]), qq 1 (.mv (.t 9))]) (.seq (.reg [qq 11 (.mv (.t 1)), qq 12 (.call 8 [(.t 11)]), qq 10 (.mv (.t 12)), qq 13 (.ext (.t 10) 0), qq 14 (.ext (.t 10) 1), qq 2 (.mv (.t 13)), qq 3 (.mv (.t 14))]) (.seq (.reg [qq 15 (.mv (.t 3)), qq 16 (.bin .eql (.t 15) (ci 0)), qq 17 (.mv (.t 16)), ⟨(some 18), (some (17, true)), (.mv (.t 2))⟩, ⟨(some 19), (some (17, true)), (.call 18 [(ci 0), (ci 0)])⟩, ⟨(some 20), (some (17, true)), (.call 18 [(ci 2), (ci 0)])⟩, ⟨(some 21), (some (17, true)), (.call 18 [(ci 2), (ci 2)])⟩, ⟨(some 22), (some (17, true)), (.call 18 [(ci 0), (ci 2)])⟩, ⟨(some 23), (some (17, true)), (.bslice 34 6 4 [(.bool false), e0, e0, (.bool false), e0, e0, (.bool false), e0, e0, (.bool false), e0, e0, (.bool false), e0, e0, (.bool false), e0, e0, (.bool false), e0, e0, (.bool false), e0, e0] [(0, 6, (.t 19)), (6, 6, (.t 20)), (12, 6, (.t 21)), (18, 6, (.t 22))])⟩, ⟨(some 24), (some (17, true)), (.call 10 [(.t 18), (.t 23)])⟩, qq 25 (.pick (.t 17) (.t 24) (.c (.bool false))), qq 26 (.mv (.t 25)), ⟨(some 27), (some (26, true)), (.mv (.t 1))⟩, ⟨(some 28), (some (26, true)), (.call 11 [(.t 27)])⟩, ⟨(some 29), (some (26, true)), (.call 19 [(ci (-4))])⟩, ⟨(some 30), (some (26, true)), (.eqa false [.b, .s, .s] (.t 28) (.t 29))⟩, qq 31 (.pick (.t 26) (.t 30) (.c (.bool false))), qq 32 (.mv (.t 31)), ⟨(some 33), (some (32, true)), (.mv (.t 1))⟩, ⟨(some 34), (some (32, true)), (.call 18 [(ci 1), (ci 1)])⟩, ⟨(some 35), (some (32, true)), (.call 14 [(.t 33), (.t 34)])⟩, ⟨(some 36), (some (32, true)), (.bin .eql (.t 35) (ci 1))⟩, qq 37 (.pick (.t 32) (.t 36) (.c (.bool false))), qq 38 (.mv (.t 37)), ⟨(some 39), (some (38, true)), (.mv (.t 1))⟩, ⟨(some 40), (some (38, true)), (.call 18 [(ci 3), (ci 1)])⟩, ⟨(some 41), (some (38, true)), (.call 14 [(.t 39), (.t 40)])⟩, ⟨(some 42), (some (38, true)), (.bin .eql (.t 41) (ci (-1)))⟩, qq 43 (.pick (.t 38) (.t 42) (.c (.bool false))), qq 0 (.mv (.t 43))]) .ret))))
theorem tr7 : trFun Tryz.prog 7 = some ⟨44, [.t 0], c7⟩ := by kernel_rfl
set_option maxHeartbeats 8000000 in
theorem ok_awake26 : SpecOK Tryz.prog 7 (rdS spAwake26) := by
  refine rd_run (env_cons ok_dot26 (env_cons ok_norm2 (env_cons ok_same26 (env_cons ok_area2 (env_cons ok_qFrom (env_cons ok_cls2 (env_nil _))))))) mixed tr7 ?_ ?_
  · intro args h h' v hle e
    cases args with
    | nil => exact e
    | cons a b => cases e
  intro args v h N hG hN
  unfold spAwake26 at hG
  split at hG
  case h_2 => cases hG
  cases hG
  have nbN : ∀ q, q < N → ∀ j, (N + j = q) = False := fun q hq j => eq_false (by omega)
  have k20 := dot26_of (x := 2) (y := 0) (by omega) (by omega)
  have k00 := dot26_of (x := 0) (y := 0) (by omega) (by omega)
  have k02 := dot26_of (x := 0) (y := 2) (by omega) (by omega)
  have k22 := dot26_of (x := 2) (y := 2) (by omega) (by omega)
  have k21 := dot26_of (x := 2) (y := 1) (by omega) (by omega)
  have k11 := dot26_of (x := 1) (y := 1) (by omega) (by omega)
  have k31 := dot26_of (x := 3) (y := 1) (by omega) (by omega)
  have f4 : spQFrom [.int .i64 (-4)] = some (.agg ⟨(RQ.of (-4)).cells⟩) := qfrom (z := -4) (by omega)
  have m5 := fiveEx
  have m4 := four (dP 0 0) (dP 2 0) (dP 2 2) (dP 0 2)
  generalize eh1 : ((N + 0, some ⟨34, 6, true, ptC exL⟩) :: h : Heap) = h1
  have g1 : hget h1 (N + 0) = some ⟨34, 6, true, ptC exL⟩ := by rw [← eh1, hget_cons_same]
  have x1 : ∀ q, q < N → hget h1 q = hget h q := fun q hq => by
    rw [← eh1]
    simp only [hget, nbN q hq 0, if_false]
  have hx1 : decPts h1 (.slice (some ⟨N + 0, 0, none⟩) 5 5) = some exL := pts_list g1 rfl
  obtain ⟨a_1, D, mm, kc, gq, hV⟩ := ex_norm (b := N + 1) hx1
  obtain ⟨M, hM⟩ : ∃ M, M = N + 1 + mm := ⟨_, rfl⟩
  have eM : N + 1 + mm = M + 0 := by omega
  rw [← hM] at hV
  generalize eHP : D ++ h1 = HP at *
  have ac : ∀ (d : Nat) (tm : List (Nat × Value)) (V : Value) (K : St → Prop), @aft (some d) (some (V, D, mm)) ⟨(⟨tm, h1, N + 1⟩, K)⟩ = K ⟨(d, V) :: tm, HP, M + 0⟩ := fun _ _ _ _ => by rw [← eM, ← eHP]; exact propext Iff.rfl
  rw [← eh1] at ac kc
  have g2 : hget HP (N + 0) = some ⟨34, 6, true, ptC exL⟩ := by rw [gq _ (by omega)]; exact g1
  have hh : ∀ q, q < N → hget HP q = hget h q := fun q hq => by rw [gq q (by omega)]; exact x1 q hq
  have gM : N + 1 ≤ M := by omega
  have mN : ∀ d, (M + d = N + 0) = False := fun d => eq_false (by omega)
  have mN' : ∀ d, (M + d = N) = False := fun d => eq_false (by omega)
  have dx : ∀ b, decPts ((M + 0, b) :: HP) (.slice (some ⟨N + 0, 0, none⟩) 5 5) = some exL := fun b => pts_list (by simp only [hget, mN, if_false]; exact g2) rfl
  have ar := fun b => ex_ar (dx b)
  have cl1 := fun b => ex_in (dx b)
  have cl2 := fun b => ex_out (dx b)
  have sm : spSame26 [.slice a_1 4 4, .slice (some ⟨M + 0, 0, none⟩) 4 4] ((M + 0, some ⟨34, 6, true, ptC [dP 0 0, dP 2 0, dP 2 2, dP 0 2]⟩) :: HP) = some (.bool true) := by
    have d1 := hV ((M + 0, some ⟨34, 6, true, ptC [dP 0 0, dP 2 0, dP 2 2, dP 0 2]⟩) :: HP) (fun q hq => by simp only [hget, show (M + 0 = q) = False from eq_false (by omega), if_false])
    have d2 : decPts ((M + 0, some ⟨34, 6, true, ptC [dP 0 0, dP 2 0, dP 2 2, dP 0 2]⟩) :: HP) (.slice (some ⟨M + 0, 0, none⟩) 4 4) = some [dP 0 0, dP 2 0, dP 2 2, dP 0 2] := pts_list (hget_cons_same _ _ _) rfl
    rw [same26_of d1 d2 (show (4 : Nat) ≤ 1000 by omega), decide_eq_true rfl]
  have c3 := ceqQ (RQ.of (-4))
  generalize (RQ.of (-4)).cells = Q4 at *
  generalize ptC exL = PE at *
  generalize ptC [dP 0 0, dP 2 0, dP 2 2, dP 0 2] = PF at *
  have l1 := pcl_len (dP 2 0)
  have l2 := pcl_len (dP 0 0)
  have l3 := pcl_len (dP 0 2)
  have l4 := pcl_len (dP 2 2)
  have l5 := pcl_len (dP 2 1)
  have l6 := pcl_len (dP 1 1)
  have l7 := pcl_len (dP 3 1)
  have o1 := pcl_ok (dP 2 0)
  have o2 := pcl_ok (dP 0 0)
  have o3 := pcl_ok (dP 0 2)
  have o4 := pcl_ok (dP 2 2)
  have o5 := pcl_ok (dP 2 1)
  generalize pcl (dP 2 0) = P20 at *
  generalize pcl (dP 0 0) = P00 at *
  generalize pcl (dP 0 2) = P02 at *
  generalize pcl (dP 2 2) = P22 at *
  generalize pcl (dP 2 1) = P21 at *
  generalize pcl (dP 1 1) = P11 at *
  generalize pcl (dP 3 1) = P31 at *
  clear hV dx
  refine ⟨rfl, by simp, ?_⟩
  simp only [c7, G0, Nat.reduceAdd]
  simp only [↓R0, R1, simprocAttr, -Int.reduceAbs, rdS, k20, k00, k02, k22, k21, k11, k31, l1, l2, l3, l4, l5, l6, l7, o1, o2, o3, o4, o5, setR_length, List.length_cons, List.length_nil, m5, m4, kc, ac, sm, ar, f4, c3, cl1, cl2, Fin, isEnd, resL, res1]
  refine ⟨_, rfl, rfl, fun q hq => ?_⟩
  have nb : ∀ d, (M + d = q) = False := fun d => eq_false (by omega)
  simp only [↓R0, R1, simprocAttr, -Int.reduceAbs, nb]
  exact hh q hq
end Go.Eng
end
section
set_option linter.unusedVariables false
set_option linter.unusedSimpArgs false
set_option linter.unusedSectionVars false
set_option maxRecDepth 20000
namespace Go.Eng
open Go Go.Proofs Go.IntWalk
theorem rsub {p q : RQ} (hp : p.ok 4294967295) (hq : q.ok 4294967295) : spR3Sub [.agg ⟨p.cells⟩, .agg ⟨q.cells⟩] = some (.agg ⟨(RQ.of (p.v - q.v)).cells⟩) :=
  if_pos ⟨by have := hp.1; omega, by have := hp.2; omega, by have := hq.1; omega, by have := hq.2; omega⟩
theorem rmul {p q : RQ} (hp : p.ok 4294967295) (hq : q.ok 4294967295) : spR3Mul [.agg ⟨p.cells⟩, .agg ⟨q.cells⟩] = some (.agg ⟨(RQ.of (p.v * q.v)).cells⟩) :=
  if_pos ⟨by have := hp.1; omega, by have := hp.2; omega, by have := hq.1; omega, by have := hq.2; omega⟩
theorem ofR {x : Rat} {i : Nat} (h : RB x i) (hi : i ≤ 4294967295) : (RQ.of x).ok 4294967295 := (RQ.of_ok h).le hi
def spLeft : List Value → Option Value
  | [.agg ⟨ca⟩, .agg ⟨cb⟩, .agg ⟨cx⟩] => match dec2 ca, dec2 cb, dec2 cx with
    | some a, some b, some x => if pok 1000000 a ∧ pok 1000000 b ∧ pok 1000000 x then some (.agg ⟨(RQ.of (cr (pv2 a) (pv2 b) (pv2 x))).cells⟩) else none
    | _, _, _ => none
  | _ => none
theorem left_of {a b x : PQ} (ha : pok 1000000 a) (hb : pok 1000000 b) (hx : pok 1000000 x) : spLeft [.agg ⟨pcl a⟩, .agg ⟨pcl b⟩, .agg ⟨pcl x⟩] = some (.agg ⟨(RQ.of (cr (pv2 a) (pv2 b) (pv2 x))).cells⟩) := by
  unfold spLeft
  simp only [pcl_dec]
  exact if_pos ⟨ha, hb, hx⟩
theorem cr_RB {a b x : PQ} (ha : pok 1000000 a) (hb : pok 1000000 b) (hx : pok 1000000 x) : RB (cr (pv2 a) (pv2 b) (pv2 x)) 8000020 :=
  ((subB hb.1 ha.1).mul (subB hx.2 ha.2) (Nat.le_refl _)).sub ((subB hb.2 ha.2).mul (subB hx.1 ha.1) (Nat.le_refl _)) (by omega)
def c17 : ICode :=
  (.seq (.reg [qq 3 (.box 34 6 (.t 0)), qq 4 (.box 34 6 (.t 1)), qq 5 (.box 34 6 (.t 2)), qq 6 (.alloc 30 3 [(.bool false), e0, e0])]) (.seq (.dreg [qu 9 (.ixarr 2 3 (.t 4) (ci 0)), qu 10 (.load true 3 (.t 9)), qu 11 (.ixarr 2 3 (.t 3) (ci 0)), qu 12 (.load true 3 (.t 11)), qu 13 (.call 36 [(.t 10), (.t 12)]), qu 14 (.ixarr 2 3 (.t 5) (ci 1)), qv 15 [4] (.load true 3 (.t 14)), qu 16 (.ixarr 2 3 (.t 3) (ci 1)), qv 17 [4] (.load true 3 (.t 16)), qu 18 (.call 36 [(.t 15), (.t 17)]), qu 19 (.call 37 [(.t 13), (.t 18)]), qu 7 (.alloc 30 3 [(.bool false), e0, e0]), qm (.store 3 (.t 7) (.t 19))]) (.seq (.dreg [qu 20 (.ixarr 2 3 (.t 4) (ci 1)), qu 21 (.load true 3 (.t 20)), qu 22 (.ixarr 2 3 (.t 3) (ci 1)), qu 23 (.load true 3 (.t 22)), qu 24 (.call 36 [(.t 21), (.t 23)]), qu 25 (.ixarr 2 3 (.t 5) (ci 0)), qv 26 [4] (.load true 3 (.t 25)), qu 27 (.ixarr 2 3 (.t 3) (ci 0)), qv 28 [4] (.load true 3 (.t 27)), qu 29 (.call 36 [(.t 26), (.t 28)]), qu 30 (.call 37 [(.t 24), (.t 29)]), qu 8 (.alloc 30 3 [(.bool false), e0, e0]), qm (.store 3 (.t 8) (.t 30))]) (.seq (.reg [qq 31 (.load true 3 (.t 7)), qq 32 (.load true 3 (.t 8)), qq 33 (.call 36 [(.t 31), (.t 32)]), qn (.store 3 (.t 6) (.t 33))]) .ret))))
theorem tr17 : trFun Tryz.prog 17 = some ⟨34, [.cell 6 true 3], c17⟩ := by kernel_rfl
set_option maxHeartbeats 4000000 in
theorem ok_left : SpecOK Tryz.prog 17 (flat spLeft) := by
  refine flat_run (env_cons ok_r3Sub (env_cons ok_r3Mul (env_nil _))) mixed tr17 ?_
  intro args v h N hG
  unfold spLeft at hG
  split at hG
  case h_2 => cases hG
  rename_i ca cb cx
  split at hG
  case h_2 => cases hG
  rename_i a b x ha hb hx
  split at hG
  case isFalse => cases hG
  rename_i hs
  obtain ⟨sa, sb, sx⟩ := hs
  cases hG
  have ea := dec2_pcl ha
  have eb := dec2_pcl hb
  have ex := dec2_pcl hx
  subst ea eb ex
  refine ⟨rfl, by simp, ?_⟩
  have s1 := rsub (sb.1.le (by omega)) (sa.1.le (by omega))
  have s2 := rsub (sx.2.le (by omega)) (sa.2.le (by omega))
  have s3 := rsub (sb.2.le (by omega)) (sa.2.le (by omega))
  have s4 := rsub (sx.1.le (by omega)) (sa.1.le (by omega))
  have b1 := subB sb.1 sa.1
  have b2 := subB sx.2 sa.2
  have b3 := subB sb.2 sa.2
  have b4 := subB sx.1 sa.1
  have m1 := rmul (ofR b1 (by omega)) (ofR b2 (by omega))
  have m2 := rmul (ofR b3 (by omega)) (ofR b4 (by omega))
  have c1 := rsub (ofR (b1.mul b2 (Nat.le_refl _)) (by omega)) (ofR (b3.mul b4 (Nat.le_refl _)) (by omega))
  rw [RQ.of_v, RQ.of_v] at m1 m2 c1
  have ecr : cr (pv2 a) (pv2 b) (pv2 x) = (b.1.v - a.1.v) * (x.2.v - a.2.v) - (b.2.v - a.2.v) * (x.1.v - a.1.v) := rfl
  rw [ecr]
  generalize RQ.of ((b.1.v - a.1.v) * (x.2.v - a.2.v) - (b.2.v - a.2.v) * (x.1.v - a.1.v)) = Q7 at *
  generalize RQ.of ((b.1.v - a.1.v) * (x.2.v - a.2.v)) = Q5 at *
  generalize RQ.of ((b.2.v - a.2.v) * (x.1.v - a.1.v)) = Q6 at *
  generalize RQ.of (b.1.v - a.1.v) = Q1 at *
  generalize RQ.of (x.2.v - a.2.v) = Q2 at *
  generalize RQ.of (b.2.v - a.2.v) = Q3 at *
  generalize RQ.of (x.1.v - a.1.v) = Q4 at *
  simp only [c17, G0, Nat.reduceAdd]
  simp only [↓R0, R1, simprocAttr, -Int.reduceAbs, pcl_len, pcl_ok, pcl_tk, pcl_x, pcl_y, q_len, q_ok, q_tk, q_st, s1, s2, s3, s4, m1, m2, c1, Fin, isEnd, resL, res1]
  exact ⟨_, rfl, rfl, fun k hk => by simp only [ne_nb hk, if_false]⟩
end Go.Eng
end
section
set_option linter.unusedVariables false
set_option linter.unusedSimpArgs false
set_option linter.unusedSectionVars false
set_option maxRecDepth 20000
namespace Go.Eng
open Go Go.Proofs Go.IntWalk
end Go.Eng
end
section
set_option linter.unusedVariables false
set_option linter.unusedSimpArgs false
set_option linter.unusedSectionVars false
set_option maxRecDepth 20000
namespace Go.Eng
open Go Go.Proofs Go.IntWalk
end Go.Eng
end
section
set_option linter.unusedVariables false
set_option linter.unusedSimpArgs false
set_option linter.unusedSectionVars false
set_option maxRecDepth 20000
namespace Go.Eng
open Go Go.Proofs Go.IntWalk
theorem nm_len (L : List P2) : (nmOut L).2.length ≤ 1000 ∨ L.length > 1000 := by
  by_cases c : 12 < L.length
  · unfold nmOut; rw [if_pos c]; exact .inl (by simp)
  · by_cases p : profP L
    · unfold nmOut
      rw [if_neg c, if_pos p]
      refine .inl ?_
      show (ncf L).length ≤ 1000
      have e : (ncf L).length ≤ L.length := by
        unfold ncf
        obtain ⟨A, B, e1, e2⟩ := rmn_parts (ori (bent L))
        rw [e2, List.length_append, Nat.add_comm, ← List.length_append, ← e1]
        have : (ori (bent L)).length = (bent L).length := by unfold ori; split; exact List.length_reverse; rfl
        rw [this, ← bfT_all]
        exact bfT_len _ _
      omega
    · unfold nmOut; rw [if_neg c, if_neg p]; exact .inl (by simp)
theorem nm_mem {L : List P2} {v : P2} (h : v ∈ (nmOut L).2) : v ∈ L := by
  unfold nmOut at h
  split at h
  · simp at h
  · split at h
    · have h : v ∈ ncf L := h
      unfold ncf at h
      obtain ⟨A, B, e1, e2⟩ := rmn_parts (ori (bent L))
      rw [e2, List.mem_append, or_comm, ← List.mem_append, ← e1] at h
      have h : v ∈ bent L := by
        unfold ori at h
        split at h
        · exact List.mem_reverse.1 h
        · exact h
      rw [← bfT_all] at h
      exact bfT_mem h
    · simp at h
theorem awake_of (h : Heap) : spAwake26 [] h = some (.bool true) := rfl
theorem nm_ok {L : List P2} (h : (nmOut L).1 = 0) : profP L := by
  unfold nmOut at h
  split at h
  · cases h
  · split at h
    · assumption
    · cases h
theorem nm_can {l : List PQ} (h : smallP l) : ptsN ((nmOut (pvs l)).2.map pqo) := by
  refine ⟨?_, fun p hp => ?_⟩
  · rw [List.length_map]
    rcases nm_len (pvs l) with k | k
    · exact k
    · rw [pvs_len] at k; have := h.1; omega
  · obtain ⟨v, hv, rfl⟩ := List.mem_map.1 hp
    obtain ⟨q, hq, rfl⟩ := List.mem_map.1 (nm_mem hv)
    exact (pqo_ok (h.2 q hq)).le (by omega)
end Go.Eng
end
section
set_option linter.unusedVariables false
set_option linter.unusedSimpArgs false
set_option linter.unusedSectionVars false
set_option maxRecDepth 20000
namespace Go.Eng
open Go Go.Proofs Go.IntWalk
theorem pq_map {l : List P2} {i : Nat} (h : i < l.length) : pqAt (l.map pqo) i = pqo (ptv l i) := by
  unfold pqAt
  rw [List.getElem?_map, ptv_some h]; rfl
end Go.Eng
end
section
set_option linter.unusedVariables false
set_option linter.unusedSimpArgs false
set_option linter.unusedSectionVars false
set_option maxRecDepth 20000
namespace Go.Eng
open Go Go.Proofs Go.IntWalk
theorem nm_le {L : List P2} (h : (nmOut L).1 = 0) : L.length ≤ 12 := by
  unfold nmOut at h
  split at h
  · cases h
  · omega
end Go.Eng
end
section
set_option linter.unusedVariables false
set_option linter.unusedSimpArgs false
set_option linter.unusedSectionVars false
namespace Go.Eng
structure CV (l : List P2) : Prop where
  s : Simp l
  b : AllB l
  c : ∀ i j, 0 ≤ cr (vt l i) (vt l (i + 1)) (vt l j)
theorem nn2 {A B t : Rat} (a : 0 ≤ A) (b : 0 ≤ B) (t0 : 0 ≤ t) (t1 : t ≤ 1) : 0 ≤ (1 - t) * A + t * B := by
  have p := Rat.mul_nonneg (show 0 ≤ 1 - t by grind) a
  have q := Rat.mul_nonneg t0 b
  grind
theorem nn_of_mul {d y : Rat} (hd : 0 < d) (h : 0 ≤ d * y) : 0 ≤ y := by
  by_cases c : y < 0
  · have := Rat.mul_pos hd (show 0 < -y by grind)
    grind
  · grind
theorem vt_congr {l : List P2} {i j : Nat} (h : i % l.length = j % l.length) : vt l i = vt l j := by unfold vt; rw [h]
theorem prev_mod {i n : Nat} (h : 0 < n) : ((i + 1) % n + n - 1) % n = i % n := by
  have e := Nat.div_add_mod (i + 1) n
  have e2 : i + n = n * ((i + 1) / n) + ((i + 1) % n + n - 1) := by
    generalize n * ((i + 1) / n) = q at *
    omega
  have e3 : (i + n) % n = i % n := Nat.add_mod_right _ _
  rw [e2, Nat.mul_add_mod] at e3
  exact e3
section
variable {l : List P2} (h : CV l)
include h
theorem CV.pos (i : Nat) : 0 < cr (vt l i) (vt l (i + 1)) (vt l (i + 2)) := by
  have n3 := h.s.n3
  have hk : (i + 1) % l.length < l.length := Nat.mod_lt _ (by omega)
  have m := List.mem_of_getElem? (cor_at hk)
  have k := h.b _ m
  simp only at k
  rw [vt_congr (prev_mod (by omega)), vt_congr (Nat.mod_mod _ _), vt_congr (l := l) (i := (i + 1) % l.length + 1) (j := i + 2) (by rw [Nat.mod_add_mod])] at k
  have := h.c i (i + 2)
  grind
theorem CV.on {i : Nat} {x : P2} (o : onB (vt l i) (vt l (i + 1)) x = true) : (∀ j, 0 ≤ cr (vt l j) (vt l (j + 1)) x) ∧ cr (vt l i) (vt l (i + 1)) x = 0 := by
  rcases onB_iff.1 o with e | e | ⟨t, t0, t1, e⟩
  · rw [e]; exact ⟨fun j => h.c j i, cr_a _ _⟩
  · rw [e]; exact ⟨fun j => h.c j (i + 1), cr_b _ _⟩
  · rw [e]
    refine ⟨fun j => ?_, cr_at2 _ _ _⟩
    rw [cr_lin]
    exact nn2 (h.c j i) (h.c j (i + 1)) (by grind) (by grind)
theorem CV.inj {i j : Nat} (hi : i < l.length) (hj : j < l.length) (e : vt l i = vt l j) : i = j := by
  by_cases c : i < j
  · exact absurd e (h.s.inj hi c (by omega))
  · by_cases c' : j < i
    · exact absurd e.symm (h.s.inj hj c' (by omega))
    · omega
theorem CV.inj1 {i j : Nat} (hi : i < l.length) (hj : j < l.length) (e : vt l (i + 1) = vt l (j + 1)) : i = j := by
  by_cases c : i < j
  · exact absurd e (h.s.inj (by omega) (show i + 1 < j + 1 by omega) (by omega))
  · by_cases c' : j < i
    · exact absurd e.symm (h.s.inj (by omega) (show j + 1 < i + 1 by omega) (by omega))
    · omega
theorem CV.line {i : Nat} {x : P2} (hi : i < l.length) (z : cr (vt l i) (vt l (i + 1)) x = 0) (hp : ∀ j, 0 ≤ cr (vt l j) (vt l (j + 1)) x) : onB (vt l i) (vt l (i + 1)) x = true := by
  have n3 := h.s.n3
  by_cases ha : x = vt l i
  · exact onB_iff.2 (.inl ha)
  by_cases hb : x = vt l (i + 1)
  · exact onB_iff.2 (.inr (.inl hb))
  have ne : vt l i ≠ vt l (i + 1) := h.s.inj hi (by omega) (by omega)
  rcases col_cases ne z ha hb with o | o | o
  · exact onB_iff.2 (.inr (.inr o))
  · exfalso
    obtain ⟨t, t0, t1, e⟩ := o
    have k := cr_lin (vt l (i + 1)) (vt l (i + 2)) (vt l i) x t
    rw [← e, cr_a, cr_rot] at k
    have p := Rat.mul_pos (show 0 < 1 - t by grind) (h.pos i)
    have q := Rat.mul_nonneg (show 0 ≤ t by grind) (hp (i + 1))
    grind
  · exfalso
    obtain ⟨t, t0, t1, e⟩ := o
    have e1 : vt l (i + l.length - 1 + 1) = vt l i := by rw [show i + l.length - 1 + 1 = i + l.length by omega, vt_add]
    have e2 : vt l (i + l.length - 1 + 2) = vt l (i + 1) := by rw [show i + l.length - 1 + 2 = i + 1 + l.length by omega, vt_add]
    have ps := h.pos (i + l.length - 1)
    have hx := hp (i + l.length - 1)
    rw [e1] at hx
    rw [e1, e2] at ps
    have k := cr_lin (vt l (i + l.length - 1)) (vt l i) x (vt l (i + 1)) t
    rw [← e, cr_b] at k
    have p := Rat.mul_nonneg (show 0 ≤ 1 - t by grind) hx
    have q := Rat.mul_pos t0 ps
    grind
end
def upE (x : P2) (e : P2 × P2) : Bool := !decide (x.2 < e.1.2) && decide (x.2 < e.2.2)
def dnE (x : P2) (e : P2 × P2) : Bool := decide (x.2 < e.1.2) && !decide (x.2 < e.2.2)
theorem xg_ud (x : P2) (e : P2 × P2) : xg x e = ((decide (0 < cr e.1 e.2 x) && upE x e) || (decide (cr e.1 e.2 x < 0) && dnE x e)) := by
  unfold xg upE dnE
  by_cases h1 : x.2 < e.1.2 <;> by_cases h2 : x.2 < e.2.2 <;> simp [h1, h2]
theorem cnt_xg (x : P2) : ∀ E : List (P2 × P2), E.countP (xg x) = E.countP (fun e => decide (0 < cr e.1 e.2 x) && upE x e) + E.countP (fun e => decide (cr e.1 e.2 x < 0) && dnE x e)
  | [] => rfl
  | e :: E => by
    rw [List.countP_cons, List.countP_cons, List.countP_cons, cnt_xg x E, xg_ud]
    have ex : upE x e = true → dnE x e = true → False := by
      unfold upE dnE
      by_cases h1 : x.2 < e.1.2 <;> simp [h1]
    cases hu : upE x e <;> cases hd : dnE x e
    · simp
    · simp; omega
    · simp; omega
    · exact (ex hu hd).elim
theorem ud_pth (x : P2) : ∀ (a : P2) (t : List P2), (pth a t).countP (upE x) + (if x.2 < a.2 then 1 else 0) = (pth a t).countP (dnE x) + (if x.2 < (lst a t).2 then 1 else 0)
  | a, [] => rfl
  | a, b :: t => by
    have ih := ud_pth x b t
    show ((a, b) :: pth b t).countP (upE x) + _ = ((a, b) :: pth b t).countP (dnE x) + (if x.2 < (lst b t).2 then 1 else 0)
    rw [List.countP_cons, List.countP_cons]
    have u : upE x (a, b) = (!decide (x.2 < a.2) && decide (x.2 < b.2)) := rfl
    have d : dnE x (a, b) = (decide (x.2 < a.2) && !decide (x.2 < b.2)) := rfl
    rw [u, d]
    by_cases h1 : x.2 < a.2 <;> by_cases h2 : x.2 < b.2 <;> simp [h1, h2] at ih ⊢ <;> omega
theorem ud_eq (x : P2) : ∀ l : List P2, (edg l).countP (upE x) = (edg l).countP (dnE x)
  | [] => rfl
  | a :: t => by
    have ih := ud_pth x a t
    rw [edg_cons, List.countP_append, List.countP_append, List.countP_cons, List.countP_cons, List.countP_nil, List.countP_nil]
    have u : upE x (lst a t, a) = (!decide (x.2 < (lst a t).2) && decide (x.2 < a.2)) := rfl
    have d : dnE x (lst a t, a) = (decide (x.2 < (lst a t).2) && !decide (x.2 < a.2)) := rfl
    rw [u, d]
    by_cases h1 : x.2 < a.2 <;> by_cases h2 : x.2 < (lst a t).2 <;> simp [h1, h2] at ih ⊢ <;> omega
theorem cross_up {a b x : P2} (ha : ¬ x.2 < a.2) (hb : x.2 < b.2) : ∃ P : P2, P.2 = x.2 ∧ (P = a ∨ opn a b P) ∧ (∃ t : Rat, 0 ≤ t ∧ t ≤ 1 ∧ P = at2 a b t) ∧ ∀ Q : P2, Q.2 = x.2 → cr a b Q = (b.2 - a.2) * (P.1 - Q.1) := by
  have d : 0 < b.2 - a.2 := by grind
  obtain ⟨t, ht⟩ : ∃ t : Rat, t = (x.2 - a.2) / (b.2 - a.2) := ⟨_, rfl⟩
  have hm : t * (b.2 - a.2) = x.2 - a.2 := by rw [ht]; exact Rat.div_mul_cancel (by grind)
  have t0 : 0 ≤ t := by
    by_cases c : t < 0
    · have := Rat.mul_pos (show 0 < -t by grind) d; grind
    · grind
  have t1 : t < 1 := by
    by_cases c : t < 1
    · exact c
    · have := Rat.mul_nonneg (show 0 ≤ t - 1 by grind) (show 0 ≤ b.2 - a.2 by grind); grind
  refine ⟨at2 a b t, ?_, ?_, ⟨t, t0, by grind, rfl⟩, fun Q hq => ?_⟩
  · unfold at2; simp only; rw [hm]; grind
  · by_cases c : t = 0
    · left; rw [c, at2_0]
    · right; exact ⟨t, by grind, t1, rfl⟩
  · unfold cr at2
    simp only
    rw [hq, ← hm]
    grind
theorem cross_dn {a b x : P2} (ha : x.2 < a.2) (hb : ¬ x.2 < b.2) : ∃ P : P2, P.2 = x.2 ∧ (P = b ∨ opn a b P) ∧ (∃ t : Rat, 0 ≤ t ∧ t ≤ 1 ∧ P = at2 a b t) ∧ ∀ Q : P2, Q.2 = x.2 → cr a b Q = (b.2 - a.2) * (P.1 - Q.1) := by
  obtain ⟨P, p1, p2, ⟨t, t0, t1, p3⟩, p4⟩ := cross_up hb ha
  refine ⟨P, p1, ?_, ⟨1 - t, by grind, by grind, by rw [p3, at2_swap]⟩, fun Q hq => ?_⟩
  · rcases p2 with e | o
    · exact .inl e
    · exact .inr (opn_swap.1 o)
  · rw [cr_swap, p4 Q hq]; grind
theorem upE_iff {x : P2} {e : P2 × P2} : upE x e = true ↔ ¬ x.2 < e.1.2 ∧ x.2 < e.2.2 := by unfold upE; simp
theorem dnE_iff {x : P2} {e : P2 × P2} : dnE x e = true ↔ x.2 < e.1.2 ∧ ¬ x.2 < e.2.2 := by unfold dnE; simp
theorem single {α : Type} {e0 : α} : ∀ {F : List α}, F.Nodup → e0 ∈ F → (∀ e ∈ F, e = e0) → F = [e0]
  | [], _, m, _ => by cases m
  | [y], _, _, u => by rw [u y (by simp)]
  | y :: z :: F, nd, _, u => by
    exfalso
    have a := u y (by simp)
    have b := u z (by simp)
    rw [List.nodup_cons] at nd
    exact nd.1 (by rw [a, ← b]; simp)
theorem cnt1 {α : Type} {E : List α} {P Q : α → Bool} {e0 : α} (nd : E.Nodup) (m : e0 ∈ E) (p : P e0 = true) (u : ∀ e ∈ E, P e = true → e = e0) : E.countP (fun e => Q e && P e) = if Q e0 = true then 1 else 0 := by
  rw [← List.countP_filter, single (e0 := e0) (nd.filter P) (List.mem_filter.2 ⟨m, p⟩) (fun e he => u e (List.mem_filter.1 he).1 (List.mem_filter.1 he).2)]
  simp [List.countP_cons]
theorem edg_fst (l : List P2) : (edg l).map (fun e => e.1) = l := by
  unfold edg
  rw [List.map_map]
  exact cor_cur l
theorem edg_nd {l : List P2} (h : l.Nodup) : (edg l).Nodup := by
  have := edg_fst l
  rw [← this] at h
  exact List.Pairwise.of_map _ (fun a b hab e => hab (by rw [e])) h
theorem argmin (f : Nat → Rat) : ∀ n, 0 < n → ∃ i, i < n ∧ ∀ j, j < n → f i ≤ f j
  | 0, h => absurd h (by omega)
  | 1, _ => ⟨0, by omega, fun j hj => by rw [show j = 0 by omega]; grind⟩
  | n + 2, _ => by
    obtain ⟨i, hi, k⟩ := argmin f (n + 1) (by omega)
    by_cases c : f (n + 1) < f i
    · refine ⟨n + 1, by omega, fun j hj => ?_⟩
      by_cases e : j = n + 1
      · rw [e]; grind
      · have := k j (by omega); grind
    · refine ⟨i, by omega, fun j hj => ?_⟩
      by_cases e : j = n + 1
      · rw [e]; grind
      · exact k j (by omega)
section
variable {l : List P2} (h : CV l)
include h
theorem CV.same {i j : Nat} {P Q x : P2} {s t : Rat} (hi : P = at2 (vt l i) (vt l (i + 1)) s) (hj : Q = at2 (vt l j) (vt l (j + 1)) t) (s0 : 0 ≤ s) (s1 : s ≤ 1) (t0 : 0 ≤ t) (t1 : t ≤ 1) :
    0 ≤ cr (vt l i) (vt l (i + 1)) Q ∧ 0 ≤ cr (vt l j) (vt l (j + 1)) P := by
  rw [hi, hj, cr_lin, cr_lin]
  exact ⟨nn2 (h.c i j) (h.c i (j + 1)) t0 t1, nn2 (h.c j i) (h.c j (i + 1)) s0 s1⟩
theorem CV.up1 {i j : Nat} {x : P2} (hi : i < l.length) (hj : j < l.length) (ui : upE x (vt l i, vt l (i + 1)) = true) (uj : upE x (vt l j, vt l (j + 1)) = true) : i = j := by
  rw [upE_iff] at ui uj
  simp only at ui uj
  by_cases ne : i = j
  · exact ne
  exfalso
  obtain ⟨P, p2, pe, ⟨s, s0, s1, pt⟩, pc⟩ := cross_up ui.1 ui.2
  obtain ⟨Q, q2, qe, ⟨t, t0, t1, qt⟩, qc⟩ := cross_up uj.1 uj.2
  obtain ⟨c1, c2⟩ := h.same (x := x) pt qt s0 s1 t0 t1
  rw [pc Q q2] at c1
  rw [qc P p2] at c2
  have k1 := nn_of_mul (by grind) c1
  have k2 := nn_of_mul (by grind) c2
  have e : P = Q := Prod.ext (by grind) (by rw [p2, q2])
  subst e
  have l0 : 0 < l.length := by omega
  rcases pe with e1 | e1 <;> rcases qe with e2 | e2
  · exact ne (h.inj hi hj (e1.symm.trans e2))
  · exact h.s.vo _ (vt_mem l0 i) _ (edg_mem hj) (by rw [← e1]; exact e2)
  · exact h.s.vo _ (vt_mem l0 j) _ (edg_mem hi) (by rw [← e2]; exact e1)
  · exact h.s.ooi hi hj ne _ ⟨e1, e2⟩
theorem CV.dn1 {i j : Nat} {x : P2} (hi : i < l.length) (hj : j < l.length) (ui : dnE x (vt l i, vt l (i + 1)) = true) (uj : dnE x (vt l j, vt l (j + 1)) = true) : i = j := by
  rw [dnE_iff] at ui uj
  simp only at ui uj
  by_cases ne : i = j
  · exact ne
  exfalso
  obtain ⟨P, p2, pe, ⟨s, s0, s1, pt⟩, pc⟩ := cross_dn ui.1 ui.2
  obtain ⟨Q, q2, qe, ⟨t, t0, t1, qt⟩, qc⟩ := cross_dn uj.1 uj.2
  obtain ⟨c1, c2⟩ := h.same (x := x) pt qt s0 s1 t0 t1
  rw [pc Q q2, show ((vt l (i + 1)).2 - (vt l i).2) * (P.1 - Q.1) = ((vt l i).2 - (vt l (i + 1)).2) * (Q.1 - P.1) by grind] at c1
  rw [qc P p2, show ((vt l (j + 1)).2 - (vt l j).2) * (Q.1 - P.1) = ((vt l j).2 - (vt l (j + 1)).2) * (P.1 - Q.1) by grind] at c2
  have k1 := nn_of_mul (by grind) c1
  have k2 := nn_of_mul (by grind) c2
  have e : P = Q := Prod.ext (by grind) (by rw [p2, q2])
  subst e
  have l0 : 0 < l.length := by omega
  rcases pe with e1 | e1 <;> rcases qe with e2 | e2
  · exact ne (h.inj1 hi hj (e1.symm.trans e2))
  · exact h.s.vo _ (vt_mem l0 (i + 1)) _ (edg_mem hj) (by rw [← e1]; exact e2)
  · exact h.s.vo _ (vt_mem l0 (j + 1)) _ (edg_mem hi) (by rw [← e2]; exact e1)
  · exact h.s.ooi hi hj ne _ ⟨e1, e2⟩
theorem CV.ud (x : P2) : (∀ e ∈ edg l, upE x e = false ∧ dnE x e = false) ∨ ∃ i j, i < l.length ∧ j < l.length ∧ upE x (vt l i, vt l (i + 1)) = true ∧ dnE x (vt l j, vt l (j + 1)) = true ∧
    xs x l = (if 0 < cr (vt l i) (vt l (i + 1)) x then 1 else 0) + (if cr (vt l j) (vt l (j + 1)) x < 0 then 1 else 0) := by
  have eq := ud_eq x l
  by_cases hu : ∃ e ∈ edg l, upE x e = true
  · right
    have hp : 0 < (edg l).countP (upE x) := List.countP_pos_iff.2 hu
    rw [eq] at hp
    obtain ⟨d, hd, hd2⟩ := List.countP_pos_iff.1 hp
    obtain ⟨u, hu1, hu2⟩ := hu
    obtain ⟨i, hi, rfl⟩ := mem_edg hu1
    obtain ⟨j, hj, rfl⟩ := mem_edg hd
    refine ⟨i, j, hi, hj, hu2, hd2, ?_⟩
    unfold xs
    rw [cnt_xg, cnt1 (Q := fun e => decide (0 < cr e.1 e.2 x)) (edg_nd h.s.nd) hu1 hu2 (fun e he hue => ?_), cnt1 (Q := fun e => decide (cr e.1 e.2 x < 0)) (edg_nd h.s.nd) hd hd2 (fun e he hde => ?_)]
    · simp only [decide_eq_true_eq]
    · obtain ⟨k, hk, rfl⟩ := mem_edg he
      rw [h.dn1 hk hj hde hd2]
    · obtain ⟨k, hk, rfl⟩ := mem_edg he
      rw [h.up1 hk hi hue hu2]
  · left
    have z : (edg l).countP (upE x) = 0 := List.countP_eq_zero.2 fun e he hh => hu ⟨e, he, hh⟩
    rw [z] at eq
    have z2 := List.countP_eq_zero.1 eq.symm
    exact fun e he => ⟨by cases k : upE x e; rfl; exact (hu ⟨e, he, k⟩).elim, by cases k : dnE x e; rfl; exact (z2 e he k).elim⟩
theorem CV.even {x : P2} {i0 : Nat} (neg : cr (vt l i0) (vt l (i0 + 1)) x < 0) : xs x l % 2 = 0 := by
  rcases h.ud x with z | ⟨i, j, hi, hj, ui, dj, e⟩
  · have : xs x l = 0 := List.countP_eq_zero.2 fun e he => by
      rw [xg_ud, (z e he).1, (z e he).2]; simp
    rw [this]
  rw [upE_iff] at ui
  rw [dnE_iff] at dj
  simp only at ui dj
  obtain ⟨P, p2, _, ⟨s, s0, s1, pt⟩, pc⟩ := cross_up ui.1 ui.2
  obtain ⟨Q, q2, _, ⟨t, t0, t1, qt⟩, qc⟩ := cross_dn dj.1 dj.2
  obtain ⟨c1, _⟩ := h.same (x := x) pt qt s0 s1 t0 t1
  rw [pc Q q2] at c1
  have k1 := nn_of_mul (by grind) c1
  have ui' : (0 < cr (vt l i) (vt l (i + 1)) x) ↔ x.1 < P.1 := by
    rw [pc x rfl]
    constructor
    · intro hh
      by_cases c : x.1 < P.1
      · exact c
      · have := Rat.mul_nonneg (show 0 ≤ (vt l (i + 1)).2 - (vt l i).2 by grind) (show 0 ≤ x.1 - P.1 by grind); grind
    · intro hh; exact Rat.mul_pos (by grind) (by grind)
  have dj' : (cr (vt l j) (vt l (j + 1)) x < 0) ↔ x.1 < Q.1 := by
    rw [qc x rfl]
    constructor
    · intro hh
      by_cases c : x.1 < Q.1
      · exact c
      · have := Rat.mul_nonneg (show 0 ≤ (vt l j).2 - (vt l (j + 1)).2 by grind) (show 0 ≤ x.1 - Q.1 by grind); grind
    · intro hh; have := Rat.mul_pos (show 0 < (vt l j).2 - (vt l (j + 1)).2 by grind) (show 0 < Q.1 - x.1 by grind); grind
  by_cases a : x.1 < P.1
  · by_cases b : x.1 < Q.1
    · rw [e, if_pos (ui'.2 a), if_pos (dj'.2 b)]
    · exfalso
      have d : 0 < P.1 - Q.1 := by grind
      obtain ⟨r, hr⟩ : ∃ r : Rat, r = (x.1 - Q.1) / (P.1 - Q.1) := ⟨_, rfl⟩
      have hm : r * (P.1 - Q.1) = x.1 - Q.1 := by rw [hr]; exact Rat.div_mul_cancel (by grind)
      have r0 : 0 ≤ r := by
        by_cases c : r < 0
        · have := Rat.mul_pos (show 0 < -r by grind) d; grind
        · grind
      have r1 : r ≤ 1 := by
        by_cases c : r ≤ 1
        · exact c
        · have := Rat.mul_pos (show 0 < r - 1 by grind) d; grind
      have ex : x = at2 Q P r := Prod.ext (by show x.1 = Q.1 + r * (P.1 - Q.1); rw [hm]; grind) (by show x.2 = Q.2 + r * (P.2 - Q.2); rw [p2, q2]; grind)
      have c3 : 0 ≤ cr (vt l i0) (vt l (i0 + 1)) P := by rw [pt, cr_lin]; exact nn2 (h.c i0 i) (h.c i0 (i + 1)) s0 s1
      have c4 : 0 ≤ cr (vt l i0) (vt l (i0 + 1)) Q := by rw [qt, cr_lin]; exact nn2 (h.c i0 j) (h.c i0 (j + 1)) t0 t1
      rw [ex, cr_lin] at neg
      have := nn2 c4 c3 r0 r1
      grind
  · have b : ¬ x.1 < Q.1 := by grind
    rw [e, if_neg (fun k => a (ui'.1 k)), if_neg (fun k => b (dj'.1 k))]
theorem CV.odd {x : P2} (pos : ∀ j, 0 < cr (vt l j) (vt l (j + 1)) x) : xs x l % 2 = 1 := by
  have n3 := h.s.n3
  rcases h.ud x with z | ⟨i, j, hi, hj, ui, dj, e⟩
  · exfalso
    have step : ∀ i, i < l.length → (x.2 < (vt l i).2 ↔ x.2 < (vt l (i + 1)).2) := fun i hi => by
      obtain ⟨a, b⟩ := z _ (edg_mem hi)
      have a := mt upE_iff.2 (by rw [a]; simp)
      have b := mt dnE_iff.2 (by rw [b]; simp)
      simp only at a b
      constructor
      · intro k; exact Classical.byContradiction fun q => b ⟨k, q⟩
      · intro k; exact Classical.byContradiction fun q => a ⟨q, k⟩
    have all : ∀ i, i ≤ l.length → (x.2 < (vt l 0).2 ↔ x.2 < (vt l i).2) := by
      intro i
      induction i with
      | zero => exact fun _ => Iff.rfl
      | succ i ih => exact fun hi => (ih (by omega)).trans (step i (by omega))
    have all' : ∀ i, (x.2 < (vt l 0).2 ↔ x.2 < (vt l i).2) := fun i => by
      rw [vt_congr (l := l) (i := i) (j := i % l.length) (Nat.mod_mod _ _).symm]
      exact all _ (Nat.le_of_lt (Nat.mod_lt _ (by omega)))
    have idn : ∀ i, ((x.2 - (vt l (i + 1)).2) * cr (vt l i) (vt l (i + 1)) (vt l (i + 2))) = ((vt l (i + 2)).2 - (vt l (i + 1)).2) * cr (vt l i) (vt l (i + 1)) x + ((vt l i).2 - (vt l (i + 1)).2) * cr (vt l (i + 1)) (vt l (i + 2)) x := fun i => by unfold cr; grind
    by_cases low : x.2 < (vt l 0).2
    · obtain ⟨i, hi, mn⟩ := argmin (fun j => (vt l (j + 1)).2) l.length (by omega)
      have mn' : ∀ j, (vt l (i + 1)).2 ≤ (vt l j).2 := fun j => by
        have := mn ((j + l.length - 1) % l.length) (Nat.mod_lt _ (by omega))
        rwa [vt_congr (l := l) (i := (j + l.length - 1) % l.length + 1) (j := j) (by rw [Nat.mod_add_mod, show j + l.length - 1 + 1 = j + l.length by omega, Nat.add_mod_right])] at this
      have k := idn i
      have a1 := Rat.mul_nonneg (show 0 ≤ (vt l (i + 2)).2 - (vt l (i + 1)).2 by have := mn' (i + 2); grind) (show 0 ≤ cr (vt l i) (vt l (i + 1)) x by have := pos i; grind)
      have a2 := Rat.mul_nonneg (show 0 ≤ (vt l i).2 - (vt l (i + 1)).2 by have := mn' i; grind) (show 0 ≤ cr (vt l (i + 1)) (vt l (i + 2)) x by have := pos (i + 1); grind)
      have a3 := Rat.mul_pos (show 0 < (vt l (i + 1)).2 - x.2 by have := (all' (i + 1)).1 low; grind) (h.pos i)
      grind
    · obtain ⟨i, hi, mn⟩ := argmin (fun j => - (vt l (j + 1)).2) l.length (by omega)
      have mn' : ∀ j, (vt l j).2 ≤ (vt l (i + 1)).2 := fun j => by
        have := mn ((j + l.length - 1) % l.length) (Nat.mod_lt _ (by omega))
        rw [vt_congr (l := l) (i := (j + l.length - 1) % l.length + 1) (j := j) (by rw [Nat.mod_add_mod, show j + l.length - 1 + 1 = j + l.length by omega, Nat.add_mod_right])] at this
        grind
      have k := idn i
      have b1 := mn' (i + 2)
      have b2 := mn' i
      have hp := h.pos i
      have a3 := Rat.mul_nonneg (show 0 ≤ x.2 - (vt l (i + 1)).2 by have := mt (all' (i + 1)).2 low; grind) (show 0 ≤ cr (vt l i) (vt l (i + 1)) (vt l (i + 2)) by grind)
      by_cases e1 : (vt l (i + 2)).2 = (vt l (i + 1)).2
      · by_cases e2 : (vt l i).2 = (vt l (i + 1)).2
        · have : cr (vt l i) (vt l (i + 1)) (vt l (i + 2)) = 0 := by unfold cr; rw [e1, e2]; grind
          grind
        · have q1 := Rat.mul_pos (show 0 < (vt l (i + 1)).2 - (vt l i).2 by grind) (pos (i + 1))
          rw [e1] at k
          grind
      · have q1 := Rat.mul_pos (show 0 < (vt l (i + 1)).2 - (vt l (i + 2)).2 by grind) (pos i)
        have q2 := Rat.mul_nonneg (show 0 ≤ (vt l (i + 1)).2 - (vt l i).2 by grind) (show 0 ≤ cr (vt l (i + 1)) (vt l (i + 2)) x by have := pos (i + 1); grind)
        grind
  · rw [e, if_pos (pos i), if_neg (by have := pos j; grind)]
theorem CV.law (x : P2) : ((onL l x = false ∧ xs x l % 2 = 1) ↔ ∀ i, i < l.length → 0 < cr (vt l i) (vt l (i + 1)) x) ∧ ((onL l x = false ∧ xs x l % 2 ≠ 1) ↔ ∃ i, i < l.length ∧ cr (vt l i) (vt l (i + 1)) x < 0) := by
  have n3 := h.s.n3
  have per : ∀ (P : Rat → Prop), (∀ i, i < l.length → P (cr (vt l i) (vt l (i + 1)) x)) → ∀ i, P (cr (vt l i) (vt l (i + 1)) x) := fun P hp i => by
    have := hp (i % l.length) (Nat.mod_lt _ (by omega))
    rwa [vt_congr (l := l) (i := i % l.length) (j := i) (Nat.mod_mod _ _), vt_congr (l := l) (i := i % l.length + 1) (j := i + 1) (by rw [Nat.mod_add_mod])] at this
  have ony : onL l x = true → (∀ j, 0 ≤ cr (vt l j) (vt l (j + 1)) x) ∧ ∃ i, i < l.length ∧ cr (vt l i) (vt l (i + 1)) x = 0 := fun o => by
    unfold onL at o
    rw [List.any_eq_true] at o
    obtain ⟨e, he, ho⟩ := o
    obtain ⟨i, hi, rfl⟩ := mem_edg he
    obtain ⟨a, b⟩ := h.on ho
    exact ⟨a, i, hi, b⟩
  have onn : onL l x = false → (∀ i, i < l.length → 0 ≤ cr (vt l i) (vt l (i + 1)) x) → ∀ i, i < l.length → 0 < cr (vt l i) (vt l (i + 1)) x := fun o hp i hi => by
    by_cases z : cr (vt l i) (vt l (i + 1)) x = 0
    · have := h.line hi z (per _ hp)
      unfold onL at o
      rw [List.any_eq_false] at o
      exact absurd this (o _ (edg_mem hi))
    · have := hp i hi; grind
  refine ⟨⟨fun ⟨o, k⟩ => onn o fun i hi => ?_, fun hp => ⟨?_, h.odd (per _ hp)⟩⟩, ⟨fun ⟨o, k⟩ => ?_, fun ⟨i, hi, hn⟩ => ⟨?_, by rw [h.even hn]; decide⟩⟩⟩
  · by_cases c : cr (vt l i) (vt l (i + 1)) x < 0
    · have := h.even c; omega
    · grind
  · cases o : onL l x with
    | false => rfl
    | true =>
      obtain ⟨_, i, hi, z⟩ := ony o
      have := hp i hi
      grind
  · apply Classical.byContradiction
    intro q
    have hp := onn o fun i hi => by
      by_cases c : cr (vt l i) (vt l (i + 1)) x < 0
      · exact absurd ⟨i, hi, c⟩ q
      · grind
    exact k (h.odd (per _ hp))
  · cases o : onL l x with
    | false => rfl
    | true =>
      have := (ony o).1 i
      grind
end
end Go.Eng
end
