/-
  A part of the proof: the machine, the contracts of the functions and the plain laws, merged from smaller texts.
-/
import Derived.Test.YtmhjnlcmmokniaaDoorIv4
import Derived.RowKit3
import Derived.ChangeSame
import Derived.ReadAgain
import Derived.Deep.Slices
import Derived.WideShapes
section
set_option linter.unusedVariables false
set_option linter.unusedSimpArgs false
set_option linter.unusedSectionVars false
set_option maxRecDepth 20000
namespace Go.Eng
open Go Go.Proofs Go.IntWalk
def fq (f : Nat → Rat) (n : Nat) : List RQ := (List.range n).map fun j => RQ.of (f j)
theorem fq_len (f : Nat → Rat) (n : Nat) : (fq f n).length = n := by unfold fq; rw [List.length_map, List.length_range]
theorem fq_succ (f : Nat → Rat) (n : Nat) : rqs (fq f n) ++ rE (f n) = rqs (fq f (n + 1)) := by
  show rqs (fq f n) ++ (RQ.of (f n)).cells = _
  rw [rqs_app]
  unfold fq
  rw [List.range_succ, List.map_append]; rfl
theorem fq_v {f : Nat → Rat} {n j : Nat} (h : j < n) : qsV (fq f n) j = f j := by
  unfold qsV rqAt fq
  rw [List.getElem?_map, List.getElem?_range h]
  exact RQ.of_v _
theorem lin_fq (f X : Nat → Rat) (n : Nat) : lin n (qsV (fq f n)) X = lin n f X := lin_congr (fun j hj => fq_v hj) (fun _ _ => rfl)
theorem fq_mem {f : Nat → Rat} {n : Nat} {q : RQ} (h : q ∈ fq f n) : ∃ j, j < n ∧ q = RQ.of (f j) := by
  unfold fq at h
  obtain ⟨j, hj, rfl⟩ := List.mem_map.1 h
  exact ⟨j, List.mem_range.1 hj, rfl⟩
def muE (n : Nat) (c : Rat) (e : EqR) : EqR := ⟨fq (fun j => qsV e.coef j * c) n, RQ.of (e.rhs.v * c), 0⟩
def suE (n : Nat) (e d : EqR) : EqR := ⟨fq (fun j => qsV e.coef j + qsV d.coef j) n, RQ.of (e.rhs.v + d.rhs.v), 0⟩
def ivL (n : Nat) (c : Rat) (i k : Nat) (R : List EqR) : List EqR := R.set i (muE n c (eqAt R i)) ++ [suE n (eqAt R i) (eqAt R k)]
theorem ivL_len (n : Nat) (c : Rat) (i k : Nat) (R : List EqR) : (ivL n c i k R).length = R.length + 1 := by unfold ivL; rw [List.length_append, List.length_set]; rfl
theorem ivL_at {n : Nat} {c : Rat} {i k : Nat} {R : List EqR} {q : Nat} (hi : i < R.length) (hq : q < R.length) : eqAt (ivL n c i k R) q = if q = i then muE n c (eqAt R i) else eqAt R q := by
  unfold ivL
  show ((_ ++ _)[q]?).getD eqD = _
  rw [List.getElem?_append_left (by rw [List.length_set]; exact hq)]
  by_cases e : q = i
  · subst e; rw [if_pos rfl, List.getElem?_set_self hi]; rfl
  · rw [if_neg e, List.getElem?_set_ne (fun x => e x.symm)]; rfl
theorem ivL_last {n : Nat} {c : Rat} {i k : Nat} {R : List EqR} : eqAt (ivL n c i k R) R.length = suE n (eqAt R i) (eqAt R k) := by
  unfold ivL
  show ((_ ++ _)[R.length]?).getD eqD = _
  rw [List.getElem?_append_right (by rw [List.length_set]; exact Nat.le_refl _), List.length_set, Nat.sub_self]; rfl
theorem iv_mem {n : Nat} {c : Rat} {i k : Nat} {R : List EqR} {e : EqR} (h : e ∈ ivL n c i k R) : e ∈ R ∨ e = muE n c (eqAt R i) ∨ e = suE n (eqAt R i) (eqAt R k) := by
  unfold ivL at h
  rcases List.mem_append.1 h with h | h
  · rcases List.mem_or_eq_of_mem_set h with h | h
    · exact .inl h
    · exact .inr (.inl h)
  · exact .inr (.inr (List.mem_singleton.1 h))
theorem rev_at {l : List EqR} {q : Nat} (h : q < l.length) : eqAt l.reverse q = eqAt l (l.length - 1 - q) := by
  unfold eqAt
  rw [List.getElem?_reverse h]
theorem iv_chk {n : Nat} {c : Rat} {i k : Nat} {l : List EqR} (h : chkL n l = 0) (hl : l.length ≤ 9) : chkL n (ivL n c i k l.reverse) = 0 := by
  obtain ⟨_, h2, _, _⟩ := chk0 h
  refine chk0_of (by omega) (by rw [ivL_len, List.length_reverse]; omega) fun e he => ?_
  rcases iv_mem he with h' | rfl | rfl
  · exact chk0_nat h e (List.mem_reverse.1 h')
  · exact fq_len _ _
  · exact fq_len _ _
theorem iv_sys {n : Nat} {c : Rat} {i k : Nat} {l : List EqR} (hs : smallS n l) (h : chkL n l = 0) (hl : l.length ≤ 9) (hi : i < l.length) (hk : k < l.length) (hc : RB c 5) : SysOK n (ivL n c i k l.reverse) := fun _ => by
  have p := hs.sys h
  have L := chk0_nat h
  have sm : ∀ q, q < l.length → ∀ x ∈ (eqAt l.reverse q).coef ++ [(eqAt l.reverse q).rhs], RB x.v 5 := fun q hq x hx => by
    rw [rev_at hq] at hx
    have := (hs.2.2 _ (eqAt_mem (by omega))).2 x hx
    exact RQ.ok.rb (k := 4) ⟨this.1, this.2⟩
  have smc : ∀ q, q < l.length → ∀ j, j < n → RB (qsV (eqAt l.reverse q).coef j) 5 := fun q hq j hj => sm q hq _ (List.mem_append_left _ (rqAt_mem (by rw [rev_at hq, L _ (eqAt_mem (by omega))]; exact hj)))
  have smr : ∀ q, q < l.length → RB (eqAt l.reverse q).rhs.v 5 := fun q hq => sm q hq _ (List.mem_append_right _ (List.mem_singleton.2 rfl))
  refine ⟨p.n0, p.n8, by rw [ivL_len, List.length_reverse]; omega, fun e he => ?_, fun e he => ?_⟩
  · rw [Int.toNat_natCast]
    rcases iv_mem he with h' | rfl | rfl
    · exact L e (List.mem_reverse.1 h')
    · exact fq_len _ _
    · exact fq_len _ _
  · rcases iv_mem he with h' | rfl | rfl
    · exact p.ok e (List.mem_reverse.1 h')
    · refine ⟨fun q hq => ?_, RQ.of_ok (((smr i hi).mul hc (Nat.le_refl _)).le (by omega))⟩
      obtain ⟨j, hj, rfl⟩ := fq_mem hq
      exact RQ.of_ok (((smc i hi j hj).mul hc (Nat.le_refl _)).le (by omega))
    · refine ⟨fun q hq => ?_, RQ.of_ok (((smr i hi).add (smr k hk) (Nat.le_refl _)).le (by omega))⟩
      obtain ⟨j, hj, rfl⟩ := fq_mem hq
      exact RQ.of_ok (((smc i hi j hj).add (smc k hk j hj) (Nat.le_refl _)).le (by omega))
theorem iv_Z {n : Nat} {c : Rat} {i k : Nat} {l : List EqR} (h : chkL n l = 0) (hl : l.length ≤ 9) (hi : i < l.length) (hk : k < l.length) (hc : c ≠ 0) : ZL n (ivL n c i k l.reverse) = ZL n l := by
  have L := chk0_nat h
  have hr : l.reverse.length = l.length := List.length_reverse
  refine funext fun X => propext ?_
  rw [ZL_iff (chk0_nat (iv_chk h hl)), ZL_iff L]
  have mu : lin n (qsV (muE n c (eqAt l.reverse i)).coef) X + (muE n c (eqAt l.reverse i)).rhs.v * X n = (lin n (qsV (eqAt l.reverse i).coef) X + (eqAt l.reverse i).rhs.v * X n) * c := by
    show lin n (qsV (fq _ n)) X + _ = _
    rw [lin_fq, lin_mul n (qsV (eqAt l.reverse i).coef) X c]
    show _ + (RQ.of _).v * X n = _
    rw [RQ.of_v]; grind
  have su : lin n (qsV (suE n (eqAt l.reverse i) (eqAt l.reverse k)).coef) X + (suE n (eqAt l.reverse i) (eqAt l.reverse k)).rhs.v * X n = (lin n (qsV (eqAt l.reverse i).coef) X + (eqAt l.reverse i).rhs.v * X n) + (lin n (qsV (eqAt l.reverse k).coef) X + (eqAt l.reverse k).rhs.v * X n) := by
    show lin n (qsV (fq _ n)) X + _ = _
    rw [lin_fq, lin_add' n (qsV (eqAt l.reverse i).coef) (qsV (eqAt l.reverse k).coef) X]
    show _ + (RQ.of _).v * X n = _
    rw [RQ.of_v]; grind
  have mr : ∀ q, q < l.length → eqAt l.reverse q ∈ l := fun q hq => by rw [rev_at hq]; exact eqAt_mem (by omega)
  constructor
  · intro H e he
    obtain ⟨q, hq⟩ := List.getElem?_of_mem (List.mem_reverse.2 he)
    have hlt := (List.getElem?_eq_some_iff.1 hq).1
    rw [eqAt_some hlt] at hq
    cases hq
    have hm := H _ (eqAt_mem (l := ivL n c i k l.reverse) (i := q) (by rw [ivL_len]; omega))
    rw [ivL_at (by omega) hlt] at hm
    by_cases e : q = i
    · subst e
      rw [if_pos rfl, mu] at hm
      rcases Rat.mul_eq_zero.1 hm with x | x
      · exact x
      · exact absurd x hc
    · rw [if_neg e] at hm; exact hm
  · intro H e he
    rcases iv_mem he with h' | rfl | rfl
    · exact H e (List.mem_reverse.1 h')
    · rw [mu, H _ (mr i hi), Rat.zero_mul]
    · rw [su, H _ (mr i hi), H _ (mr k hk), Rat.add_zero]
theorem iv_out {n : Nat} {c : Rat} {i k : Nat} {l : List EqR} (h : chkL n l = 0) (hl : l.length ≤ 9) (hi : i < l.length) (hk : k < l.length) (hc : c ≠ 0) :
    (solveL n (ivL n c i k l.reverse)).1 = (solveL n l).1 ∧ (solveL n (ivL n c i k l.reverse)).2 = (solveL n l).2 ∧ freeVL n (ivL n c i k l.reverse) = freeVL n l ∧ rankL n (ivL n c i k l.reverse) = rankL n l := by
  have c' := iv_chk (c := c) (i := i) (k := k) h hl
  have O := solL_out h
  have O' := solL_out c'
  have eZ := iv_Z h hl hi hk hc
  rw [eZ] at O'
  have := O'.same O
  exact ⟨this.1, this.2, freeVL_congr c' h (by rw [eZ]) fun j _ => by rw [eZ], rankL_congr c' h fun j _ => by rw [eZ]⟩
def spSame24 : List Value → Heap → Option Value
  | [v, w], h => match listAt 3 dec1 h v, listAt 3 dec1 h w with
    | some l, some m => if l = m ∧ l.length ≤ 1000000 then some (.bool true) else none
    | _, _ => none
  | _, _ => none
theorem same24_of {h : Heap} {v w : Value} {l : List RQ} (e : listAt 3 dec1 h v = some l) (e' : listAt 3 dec1 h w = some l) (hl : l.length ≤ 1000000) : spSame24 [v, w] h = some (.bool true) := by
  unfold spSame24
  simp only [e, e']
  exact if_pos ⟨trivial, hl⟩
def c16 : ICode :=
  (.seq (.reg [qq 4 (.mv (.c (.bool false)))]) (.seq (.seq (.reg [qq 6 (.mv (.t 0)), qq 7 (.lensl (.t 6)), qq 8 (.mv (.t 1)), qq 9 (.lensl (.t 8)), qq 10 (.bin .neq (.t 7) (.t 9))]) (.cond (.t 10) (.seq (.reg [qq 4 (.mv (.c (.bool false)))]) .ret) .skip)) (.seq (.seq (.reg [qq 5 (.mv (ci 0))]) (.block 0 (.loop (.seq (.seq (.reg [qq 11 (.mv (.t 5)), qq 12 (.mv (.t 0)), qq 13 (.lensl (.t 12)), qq 14 (.bin .lss (.t 11) (.t 13))]) (.cond (.t 14) .skip (.exit 0))) (.seq (.block 1 (.seq (.dreg [qu 17 (.mv (.t 0)), qu 18 (.mv (.t 5)), qu 19 (.ixsl 3 (.t 17) (.t 18)), qu 20 (.load true 3 (.t 19)), qu 21 (.mv (.t 1)), qu 22 (.mv (.t 5)), qu 23 (.ixsl 3 (.t 21) (.t 22)), qu 24 (.load true 3 (.t 23)), qu 25 (.eqa true [.b, .s, .s] (.t 20) (.t 24))]) (.cond (.t 25) (.seq (.reg [qq 4 (.mv (.c (.bool false)))]) .ret) .skip))) (.reg [qq 15 (.mv (.t 5)), qq 16 (.bin .add (.t 15) (ci 1)), qq 5 (.mv (.t 16))])))))) (.seq (.reg [qq 4 (.mv (.c (.bool true)))]) .ret))))
theorem tr16 : trFun Tryd.prog 16 = some ⟨26, [.t 4], c16⟩ := by kernel_rfl
set_option maxHeartbeats 8000000 in
theorem ok_same24 : SpecOK Tryd.prog 16 (rdS spSame24) := by
  refine rd_run (env_nil _) mixed tr16 ?_ ?_
  · intro args h h' v hle e
    unfold spSame24 at e ⊢
    split at e
    · split at e
      · rename_i l m hb hc
        simp only [listAt_mono hle (fun _ _ e => e) hb, listAt_mono hle (fun _ _ e => e) hc]; exact e
      · cases e
    · cases e
  intro args v h N hG hN
  unfold spSame24 at hG
  split at hG
  case h_2 => cases hG
  rename_i v w
  split at hG
  case h_2 => cases hG
  rename_i l m hx hy
  split at hG
  case isFalse => cases hG
  rename_i hl
  obtain ⟨rfl, hl⟩ := hl
  cases hG
  obtain ⟨a, c, rfl⟩ := listAt_sl hx
  obtain ⟨b, d, rfl⟩ := listAt_sl hy
  refine ⟨by rfl, by simp, ?_⟩
  have dn : ∀ a b : Int, decide (a ≠ b) = !decide (a = b) := fun a b => by by_cases h : a = b <;> simp [h]
  simp only [c16, G0, Nat.reduceAdd]
  simp only [↓R0, R1, simprocAttr, -Int.reduceAbs, dn, Bool.not_true, Bool.not_false]
  refine lp_parts (fun q tm hp nx => ∃ (i : Nat), q + i = l.length ∧ tmget tm 0 = .slice a l.length c ∧ tmget tm 1 = .slice b l.length d ∧ tmget tm 5 = .int .i64 i ∧ hp = h ∧ nx = N + 0) ?_ l.length
    ⟨0, by omega, ?_, ?_, ?_, rfl, rfl⟩
  rotate_left
  all_goals first | (simp only [↓R0, R1, simprocAttr, -Int.reduceAbs]; done) | (simp only [↓R0, R1, simprocAttr, -Int.reduceAbs]; rfl) | skip
  rintro q tm hp nx ⟨i, hni, t0, t1, t5, rfl, hnx⟩
  rw [hnx]
  clear hnx nx
  by_cases c1 : i < l.length
  case neg =>
    have e : i = l.length := by omega
    subst e
    have c1' : ((l.length : Int) < (l.length : Int)) = False := eq_false (by omega)
    simp only [↓R0, R1, simprocAttr, -Int.reduceAbs, t0, t1, t5, c1', Fin, isEnd, resL, res1]
    exact ⟨_, rfl, rfl, fun _ _ => trivial⟩
  have c1' : ((i : Int) < (l.length : Int)) = True := eq_true (by omega)
  have w1 : IntKind.i64.wrap ((i : Int) + 1) = ((i + 1 : Nat) : Int) := by rw [i64_in _ (by omega)]; omega
  obtain ⟨k1, f1, B1, rfl, h1, q1, q2⟩ := rq_at hx c1
  obtain ⟨k2, f2, B2, rfl, h2, q3, q4⟩ := rq_at hy c1
  have g1 : (rqAt l i).cells.length = 3 := rfl
  have g2 : (rqAt l i).cells.all okCell = true := rfl
  have g3 := ceq3 (rqAt l i)
  generalize (rqAt l i).cells = CA at *
  simp only [↓R0, R1, simprocAttr, -Int.reduceAbs, t0, t1, t5, c1, c1', h1, h2, q1, q2, q3, q4, g1, g2, g3, w1, Bool.not_true, Bool.not_false]
  exact ⟨q - 1, by omega, i + 1, by omega, rfl⟩
end Go.Eng
end
section
set_option linter.unusedVariables false
set_option linter.unusedSimpArgs false
set_option linter.unusedSectionVars false
set_option maxRecDepth 20000
namespace Go.Eng
open Go Go.Proofs Go.IntWalk
theorem rows_fn {h : Heap} {a : Option Addr} {c : Nat} {l : List EqR} (e : decRows h (.slice a l.length c) = some l) (hm : 0 < l.length) :
    ∃ k off blk, ∃ f : Nat → List Value, a = some ⟨k, off, none⟩ ∧ hget h k = some blk ∧ ∀ i, i < l.length → off + i * 5 + 5 ≤ blk.cells.length ∧ (blk.cells.drop (off + i * 5)).take 5 = f i ∧ ∃ a' c', f i = Value.slice a' (eqAt l i).coef.length c' :: (eqAt l i).tl ∧ listAt 3 dec1 h (.slice a' (eqAt l i).coef.length c') = some (eqAt l i).coef := by
  unfold decRows at e
  obtain ⟨k, off, blk, ea, hb, _, _, hat⟩ := listAt_get e hm
  refine ⟨k, off, blk, fun i => (blk.cells.drop (off + i * 5)).take 5, ea, hb, fun i hi => ?_⟩
  obtain ⟨h1, h2⟩ := hat i _ (eqAt_some hi)
  obtain ⟨sl, e1, e2⟩ := decEq_eq h2
  obtain ⟨a', c', rfl⟩ := listAt_sl e2
  exact ⟨h1, rfl, a', c', e1, e2⟩
theorem piece_sub {l : List Value} {a w o v : Nat} (h : o + v ≤ w) : (l.drop (a + o)).take v = (((l.drop a).take w).drop o).take v := by
  rw [List.drop_take, List.take_take, List.drop_drop, Nat.min_eq_left (by omega)]
theorem piece_at {l : List Value} {a w o : Nat} (h : o < w) : l[a + o]? = ((l.drop a).take w)[o]? := by
  rw [List.getElem?_take, if_pos h, List.getElem?_drop]
def RvS (hp : Heap) (N M : Nat) (g : Nat → List Value) (i : Nat) (sl : Value) : Prop :=
  (i = 0 ∧ sl = .slice none 0 0) ∨ (0 < i ∧ ∃ (kL : Nat) (x : Bool), sl = .slice (some ⟨kL, 0, none⟩) i i ∧ hget hp kL = some ⟨28, 5, x, blkC g i⟩ ∧ N ≤ kL ∧ kL < M)
def TwS (hp : Heap) (N M j : Nat) (f f' : Nat → Rat) (s s' : Value) : Prop :=
  (j = 0 ∧ s = .slice none 0 0 ∧ s' = .slice none 0 0) ∨ (0 < j ∧ ∃ (ka kb : Nat) (x y : Bool), s = .slice (some ⟨ka, 0, none⟩) j j ∧ s' = .slice (some ⟨kb, 0, none⟩) j j ∧ hget hp ka = some ⟨24, 3, x, rqs (fq f j)⟩ ∧ hget hp kb = some ⟨24, 3, y, rqs (fq f' j)⟩ ∧ (N ≤ ka ∧ ka < M) ∧ (N ≤ kb ∧ kb < M) ∧ ka ≠ kb)
theorem TwS.sl {hp : Heap} {N M j : Nat} {f f' : Nat → Rat} {s s' : Value} (H : TwS hp N M j f f' s s') : (∃ a, s = .slice a j j) ∧ ∃ a, s' = .slice a j j := by
  rcases H with ⟨rfl, rfl, rfl⟩ | ⟨_, ka, kb, x, y, rfl, rfl, _⟩
  · exact ⟨⟨none, rfl⟩, none, rfl⟩
  · exact ⟨⟨_, rfl⟩, _, rfl⟩
theorem TwS.list {hp hp' : Heap} {N M j : Nat} {f f' : Nat → Rat} {s s' : Value} (H : TwS hp N M j f f' s s') (he : ∀ q, N ≤ q → q < M → hget hp' q = hget hp q) : listAt 3 dec1 hp' s = some (fq f j) ∧ listAt 3 dec1 hp' s' = some (fq f' j) := by
  rcases H with ⟨rfl, rfl, rfl⟩ | ⟨hj, ka, kb, x, y, rfl, rfl, h1, h2, b1, b2, _⟩
  · exact ⟨rfl, rfl⟩
  · exact ⟨rqs_list (by rw [he ka b1.1 b1.2]; exact h1) (fq_len _ _) hj, rqs_list (by rw [he kb b2.1 b2.2]; exact h2) (fq_len _ _) hj⟩
theorem addQQ {p q : RQ} {i j : Nat} (hp : p.ok i) (hq : q.ok j) (hi : i ≤ 8589934592) (hj : j ≤ 8589934592) : spQAdd [.agg ⟨p.cells⟩, .agg ⟨q.cells⟩] = some (.agg ⟨rE (p.v + q.v)⟩) :=
  if_pos ⟨by have := hp.1; omega, by have := hp.2; omega, by have := hq.1; omega, by have := hq.2; omega⟩
def spL24inv : List Value → Heap → Option Value
  | [sl, .agg ⟨cs⟩, .agg ⟨[.int .u8 z, .int .u8 y]⟩], h => match decRows h sl, dec1 cs with
    | some l, some _ => if l.length ≤ 9223372036854775807 ∧ (0 ≤ z ∧ z ≤ 255) ∧ 0 ≤ y ∧ y ≤ 255 then some (.bool true) else none
    | _, _ => none
  | _, _ => none
theorem fr_L24inv {h : Heap} {N : Nat} {sl : Value} {l : List EqR} {q : RQ} {z y : Int} (e : decRows h sl = some l) (m : l.length ≤ maxLen) (hz : 0 ≤ z ∧ z ≤ 255) (hy : 0 ≤ y ∧ y ≤ 255) : rdS spL24inv [sl, .agg ⟨q.cells⟩, .agg ⟨[.int .u8 z, .int .u8 y]⟩] h N = some (.bool true, [], 0) := by
  have e' : dec1 q.cells = some q := rfl
  unfold rdS spL24inv
  simp only [e, e']
  rw [if_pos ⟨m, hz, hy⟩]; rfl
def c3 : ICode :=
  (.seq (.reg [qq 4 (.box 24 3 (.t 1)), qq 5 (.box 25 2 (.t 2)), qq 6 (.mv (.c (.bool false)))]) (.seq (.reg [qq 7 (.mv (ci 0))]) (.seq (.seq (.reg [qq 22 (.mv (.t 0)), qq 23 (.lensl (.t 22)), qq 24 (.bin .gtr (.t 23) (ci 0))]) (.cond (.t 24) (.reg [qq 25 (.mv (.t 0)), qq 26 (.ixsl 5 (.t 25) (ci 0)), qq 27 (.faddr 0 (.t 26)), qq 28 (.load false 1 (.t 27)), qq 29 (.lensl (.t 28)), qq 7 (.mv (.t 29))]) .skip)) (.seq (.seq (.reg [qq 30 (.mv (.t 7)), qq 31 (.mv (.t 0)), qq 32 (.call 8 [(.t 30), (.t 31)]), qq 33 (.bin .gtr (.t 32) (ci 0)), qq 34 (.mv (.t 33)), ⟨(some 35), (some (34, false)), (.mv (.t 0))⟩, ⟨(some 36), (some (34, false)), (.lensl (.t 35))⟩, ⟨(some 37), (some (34, false)), (.bin .eql (.t 36) (ci 0))⟩, qq 38 (.pick (.t 34) (.c (.bool true)) (.t 37)), qq 39 (.mv (.t 38)), ⟨(some 40), (some (39, false)), (.mv (.t 0))⟩, ⟨(some 41), (some (39, false)), (.lensl (.t 40))⟩, ⟨(some 42), (some (39, false)), (.bin .gtr (.t 41) (ci 9))⟩, qq 43 (.pick (.t 39) (.c (.bool true)) (.t 42)), qq 44 (.mv (.t 43)), ⟨(some 45), (some (44, false)), (.mv (.t 7))⟩, ⟨(some 46), (some (44, false)), (.mv (.t 0))⟩, ⟨(some 47), (some (44, false)), (.call 9 [(.t 45), (.t 46)])⟩, ⟨(some 48), (some (44, false)), (.bin .neq (.t 47) (ci 0))⟩, qq 49 (.pick (.t 44) (.c (.bool true)) (.t 48)), qq 50 (.mv (.t 49)), ⟨(some 51), (some (50, false)), (.faddr 1 (.t 4))⟩, ⟨(some 52), (some (50, false)), (.load false 1 (.t 51))⟩, ⟨(some 53), (some (50, false)), (.lens (.t 52))⟩, ⟨(some 54), (some (50, false)), (.bin .gtr (.t 53) (ci 4))⟩, qq 55 (.pick (.t 50) (.c (.bool true)) (.t 54)), qq 56 (.mv (.t 55)), ⟨(some 57), (some (56, false)), (.faddr 2 (.t 4))⟩, ⟨(some 58), (some (56, false)), (.load false 1 (.t 57))⟩, ⟨(some 59), (some (56, false)), (.lens (.t 58))⟩, ⟨(some 60), (some (56, false)), (.bin .gtr (.t 59) (ci 4))⟩, qq 61 (.pick (.t 56) (.c (.bool true)) (.t 60)), qq 62 (.mv (.t 61)), ⟨(some 63), (some (62, false)), (.load true 3 (.t 4))⟩, ⟨(some 64), (some (62, false)), (.call 10 [(.t 63)])⟩, ⟨(some 65), (some (62, false)), (.bin .eql (.t 64) (ci 0))⟩, qq 66 (.pick (.t 62) (.c (.bool true)) (.t 65))]) (.cond (.t 66) (.seq (.reg [qq 67 (.call 11 []), qq 6 (.mv (.t 67))]) .ret) .skip)) (.seq (.reg [qq 8 (.mv (.c (.slice none 0 0)))]) (.seq (.seq (.reg [qq 68 (.mv (.t 0)), qq 69 (.lensl (.t 68)), qq 70 (.mv (ci 0))]) (.block 0 (.loop (.seq (.reg [qq 71 (.bin .lss (.t 70) (.t 69))]) (.seq (.cond (.t 71) .skip (.exit 0)) (.seq (.block 1 (.seq (.reg [qq 72 (.mv (.t 70)), qq 9 (.mv (.t 72))]) (.reg [qq 73 (.mv (.t 8)), qq 74 (.mv (.t 0)), qq 75 (.mv (.t 0)), qq 76 (.lensl (.t 75)), qq 77 (.bin .sub (.t 76) (ci 1)), qq 78 (.mv (.t 9)), qq 79 (.bin .sub (.t 77) (.t 78)), qq 80 (.ixsl 5 (.t 74) (.t 79)), qq 81 (.load true 5 (.t 80)), qq 82 (.bslice 28 5 1 [(.slice none 0 0), (.bool false), e0, e0, (.int .i64 0)] [(0, 5, (.t 81))]), qq 83 (.app 28 5 72 (.t 73) (.t 82)), qq 8 (.mv (.t 83))]))) (.reg [qq 84 (.bin .add (.t 70) (ci 1)), qq 70 (.mv (.t 84))]))))))) (.seq (.dreg [qu 85 (.ixarr 2 1 (.t 5) (ci 0)), qu 86 (.load false 1 (.t 85)), qu 87 (.conv .i64 (.t 86)), qu 88 (.mv (.t 8)), qu 89 (.lensl (.t 88)), qu 90 (.bin .rem (.t 87) (.t 89)), qu 91 (.ixarr 2 1 (.t 5) (ci 1)), qu 92 (.load false 1 (.t 91)), qu 93 (.conv .i64 (.t 92)), qu 94 (.mv (.t 8)), qu 95 (.lensl (.t 94)), qu 96 (.bin .rem (.t 93) (.t 95)), qu 10 (.mv (.t 90)), qu 11 (.mv (.t 96))]) (.seq (.dreg [qu 97 (.mv (.t 8)), qu 98 (.mv (.t 10)), qu 99 (.ixsl 5 (.t 97) (.t 98)), qu 100 (.faddr 1 (.t 99)), qu 101 (.load true 3 (.t 100)), qu 102 (.mv (.t 8)), qu 103 (.mv (.t 11)), qu 104 (.ixsl 5 (.t 102) (.t 103)), qu 105 (.faddr 1 (.t 104)), qu 106 (.load true 3 (.t 105)), qu 107 (.call 12 [(.t 101), (.t 106)]), qu 108 (.build [(.slice none 0 0), (.bool false), e0, e0, (.int .i64 0)] [(1, 3, (.t 107))]), qu 12 (.alloc 28 5 [(.slice none 0 0), (.bool false), e0, e0, (.int .i64 0)]), qm (.store 5 (.t 12) (.t 108))]) (.seq (.dreg [qu 109 (.mv (.t 8)), qu 110 (.mv (.t 10)), qu 111 (.ixsl 5 (.t 109) (.t 110)), qu 112 (.faddr 1 (.t 111)), qu 113 (.load true 3 (.t 112)), qu 114 (.load true 3 (.t 4)), qu 115 (.call 13 [(.t 113), (.t 114)]), qu 116 (.build [(.slice none 0 0), (.bool false), e0, e0, (.int .i64 0)] [(1, 3, (.t 115))]), qu 13 (.alloc 28 5 [(.slice none 0 0), (.bool false), e0, e0, (.int .i64 0)]), qm (.store 5 (.t 13) (.t 116))]) (.seq (.seq (.reg [qq 117 (.mv (.t 7)), qq 118 (.mv (ci 0))]) (.block 2 (.loop (.seq (.reg [qq 119 (.bin .lss (.t 118) (.t 117))]) (.seq (.cond (.t 119) .skip (.exit 2)) (.seq (.block 3 (.seq (.reg [qq 120 (.mv (.t 118)), qq 14 (.mv (.t 120))]) (.seq (.dreg [qu 121 (.faddr 0 (.t 12)), qu 122 (.load false 1 (.t 121)), qu 123 (.mv (.t 8)), qu 124 (.mv (.t 10)), qu 125 (.ixsl 5 (.t 123) (.t 124)), qu 126 (.faddr 0 (.t 125)), qu 127 (.load false 1 (.t 126)), qu 128 (.mv (.t 14)), qu 129 (.ixsl 3 (.t 127) (.t 128)), qu 130 (.load true 3 (.t 129)), qu 131 (.mv (.t 8)), qu 132 (.mv (.t 11)), qu 133 (.ixsl 5 (.t 131) (.t 132)), qu 134 (.faddr 0 (.t 133)), qu 135 (.load false 1 (.t 134)), qu 136 (.mv (.t 14)), qu 137 (.ixsl 3 (.t 135) (.t 136)), qu 138 (.load true 3 (.t 137)), qu 139 (.call 12 [(.t 130), (.t 138)]), qu 140 (.bslice 24 3 1 [(.bool false), e0, e0] [(0, 3, (.t 139))]), qu 141 (.app 24 3 40 (.t 122) (.t 140)), qu 142 (.faddr 0 (.t 12)), qm (.store 1 (.t 142) (.t 141))]) (.dreg [qu 143 (.faddr 0 (.t 13)), qu 144 (.load false 1 (.t 143)), qu 145 (.mv (.t 8)), qu 146 (.mv (.t 10)), qu 147 (.ixsl 5 (.t 145) (.t 146)), qu 148 (.faddr 0 (.t 147)), qu 149 (.load false 1 (.t 148)), qu 150 (.mv (.t 14)), qu 151 (.ixsl 3 (.t 149) (.t 150)), qu 152 (.load true 3 (.t 151)), qu 153 (.load true 3 (.t 4)), qu 154 (.call 13 [(.t 152), (.t 153)]), qu 155 (.bslice 24 3 1 [(.bool false), e0, e0] [(0, 3, (.t 154))]), qu 156 (.app 24 3 40 (.t 144) (.t 155)), qu 157 (.faddr 0 (.t 13)), qm (.store 1 (.t 157) (.t 156))])))) (.reg [qq 158 (.bin .add (.t 118) (ci 1)), qq 118 (.mv (.t 158))]))))))) (.seq (.reg [qq 159 (.mv (.t 8)), qq 160 (.mv (.t 10)), qq 161 (.load true 5 (.t 13)), qq 162 (.ixsl 5 (.t 159) (.t 160)), qn (.store 5 (.t 162) (.t 161))]) (.seq (.reg [qq 163 (.mv (.t 8)), qq 164 (.load true 5 (.t 12)), qq 165 (.bslice 28 5 1 [(.slice none 0 0), (.bool false), e0, e0, (.int .i64 0)] [(0, 5, (.t 164))]), qq 166 (.app 28 5 72 (.t 163) (.t 165)), qq 8 (.mv (.t 166))]) (.seq (.reg [qq 168 (.mv (.t 7)), qq 169 (.mv (.t 0)), qq 170 (.call 14 [(.t 168), (.t 169)]), qq 167 (.mv (.t 170)), qq 171 (.ext (.t 167) 0), qq 172 (.ext (.t 167) 1), qq 15 (.mv (.t 171)), qq 16 (.mv (.t 172))]) (.seq (.reg [qq 174 (.mv (.t 7)), qq 175 (.mv (.t 8)), qq 176 (.call 14 [(.t 174), (.t 175)]), qq 173 (.mv (.t 176)), qq 177 (.ext (.t 173) 0), qq 178 (.ext (.t 173) 1), qq 17 (.mv (.t 177)), qq 18 (.mv (.t 178))]) (.seq (.reg [qq 179 (.mv (.t 7)), qq 180 (.mv (.t 0)), qq 181 (.call 15 [(.t 179), (.t 180)]), qq 182 (.mv (.t 7)), qq 183 (.mv (.t 8)), qq 184 (.call 15 [(.t 182), (.t 183)]), qq 19 (.mv (.t 181)), qq 20 (.mv (.t 184))]) (.seq (.seq (.reg [qq 185 (.mv (.t 19)), qq 186 (.lensl (.t 185)), qq 187 (.mv (.t 20)), qq 188 (.lensl (.t 187)), qq 189 (.bin .neq (.t 186) (.t 188))]) (.cond (.t 189) (.seq (.reg [qq 6 (.mv (.c (.bool false)))]) .ret) .skip)) (.seq (.seq (.reg [qq 190 (.mv (.t 19)), qq 191 (.lensl (.t 190)), qq 192 (.mv (ci 0))]) (.block 4 (.loop (.seq (.reg [qq 193 (.bin .lss (.t 192) (.t 191))]) (.seq (.cond (.t 193) .skip (.exit 4)) (.seq (.block 5 (.seq (.reg [qq 194 (.mv (.t 192)), qq 21 (.mv (.t 194))]) (.seq (.dreg [qu 195 (.mv (.t 19)), qu 196 (.mv (.t 21)), qu 197 (.ixsl 1 (.t 195) (.t 196)), qu 198 (.load false 1 (.t 197)), qu 199 (.mv (.t 20)), qu 200 (.mv (.t 21)), qu 201 (.ixsl 1 (.t 199) (.t 200)), qu 202 (.load false 1 (.t 201)), qu 203 (.bin .neq (.t 198) (.t 202))]) (.cond (.t 203) (.seq (.reg [qq 6 (.mv (.c (.bool false)))]) .ret) .skip)))) (.reg [qq 204 (.bin .add (.t 192) (ci 1)), qq 192 (.mv (.t 204))]))))))) (.seq (.reg [qq 205 (.call 11 []), qq 206 (.mv (.t 205)), ⟨(some 207), (some (206, true)), (.mv (.t 16))⟩, ⟨(some 208), (some (206, true)), (.mv (.t 18))⟩, ⟨(some 209), (some (206, true)), (.bin .eql (.t 207) (.t 208))⟩, qq 210 (.pick (.t 206) (.t 209) (.c (.bool false))), qq 211 (.mv (.t 210)), ⟨(some 212), (some (211, true)), (.mv (.t 15))⟩, ⟨(some 213), (some (211, true)), (.mv (.t 17))⟩, ⟨(some 214), (some (211, true)), (.call 16 [(.t 212), (.t 213)])⟩, qq 215 (.pick (.t 211) (.t 214) (.c (.bool false))), qq 216 (.mv (.t 215)), ⟨(some 217), (some (216, true)), (.mv (.t 16))⟩, ⟨(some 218), (some (216, true)), (.bin .eql (.t 217) (ci 14))⟩, ⟨(some 219), (some (216, true)), (.mv (.t 218))⟩, ⟨(some 220), (some (219, false)), (.mv (.t 7))⟩, ⟨(some 221), (some (219, false)), (.mv (.t 0))⟩, ⟨(some 222), (some (219, false)), (.call 17 [(.t 220), (.t 221)])⟩, ⟨(some 223), (some (219, false)), (.mv (.t 7))⟩, ⟨(some 224), (some (219, false)), (.mv (.t 8))⟩, ⟨(some 225), (some (219, false)), (.call 17 [(.t 223), (.t 224)])⟩, ⟨(some 226), (some (219, false)), (.bin .eql (.t 222) (.t 225))⟩, ⟨(some 227), (some (216, true)), (.pick (.t 219) (.c (.bool true)) (.t 226))⟩, qq 228 (.pick (.t 216) (.t 227) (.c (.bool false))), qq 6 (.mv (.t 228))]) .ret))))))))))))))))))
theorem tr3 : trFun Tryd.prog 3 = some ⟨229, [.t 6], c3⟩ := by kernel_rfl
set_option maxHeartbeats 64000000 in
theorem ok_L24inv : SpecOK Tryd.prog 3 (rdS spL24inv) := by
  refine rd_run (env_cons ok_lGreat24 (env_cons ok_fixed (env_cons ok_linCheck (env_cons ok_solve (env_cons ok_rank (env_cons ok_freeV (env_cons ok_qSign (env_cons ok_qAdd (env_cons ok_qMul (env_cons ok_same24 (env_nil _))))))))))) mixed tr3 ?_ ?_
  · intro args h h' v hle e
    unfold spL24inv at e ⊢
    split at e
    · split at e
      · rename_i l os hb hc
        simp only [decRows_mono hle hb, hc]; exact e
      · cases e
    · cases e
  intro args v h N hG hN
  unfold spL24inv at hG
  split at hG
  case h_2 => cases hG
  rename_i sl cs z y
  split at hG
  case h_2 => cases hG
  rename_i l bq hx hq
  split at hG
  case isFalse => cases hG
  rename_i hm
  obtain ⟨hm, ⟨hz0, hz1⟩, hy0, hy1⟩ := hm
  have ecs := dec1_cells hq
  subst ecs
  clear hq
  cases hG
  obtain ⟨a, cc, rfl⟩ := listAt_sl (dec := decEq h) hx
  refine ⟨by rfl, by simp [RQ.cells], ?_⟩
  have dn : ∀ a b : Int, decide (a ≠ b) = !decide (a = b) := fun a b => by by_cases h : a = b <;> simp [h]
  have fx : spFixed [] = some (.bool true) := rfl
  have xs0 : ExtL N h h = True := eq_true fun _ _ => rfl
  have xc := fun j b hp => extL_cons N j b h hp
  have ql : bq.cells.length = 3 := rfl
  have qo : bq.cells.all okCell = true := rfl
  have qt : bq.cells.take 3 = bq.cells := rfl
  have qc1 : bq.cells[1]? = some (.string ⟨⟨bq.n⟩⟩) := rfl
  have qc2 : bq.cells[2]? = some (.string ⟨⟨bq.d⟩⟩) := rfl
  by_cases c0 : 0 < l.length
  case neg =>
    have l0 : l.length = 0 := by omega
    have gl : ((l.length : Int) > 0) = False := eq_false (by omega)
    have gr0 : ∀ {hp : Heap}, ExtL N h hp → spGreat [.int .i64 0, .slice a l.length cc] hp = some (.int .i64 0) := fun he => by
      have s : smallS 0 l := ⟨by omega, by omega, fun e he => by rw [List.eq_nil_of_length_eq_zero l0] at he; cases he⟩
      rw [great24_of (ext_rows hN hx he) hm, if_pos s]
    rw [l0] at gr0
    generalize bq.cells = QC at *
    simp only [c3, G0, Nat.reduceAdd]
    simp only [↓R0, R1, simprocAttr, -Int.reduceAbs, rdS, fx, gl, gr0, l0, xs0, xc, ql, qo, qt, qc1, qc2, Bool.not_false, Fin, isEnd, resL, res1]
    exact ⟨_, rfl, rfl, fun k hk => by simp only [ne_nb hk, if_false]⟩
  have gl : ((l.length : Int) > 0) = True := eq_true (by omega)
  have gl0 : ((l.length : Int) = 0) = False := eq_false (by omega)
  obtain ⟨k0, f0, B0, f, rfl, hb0, hf⟩ := rows_fn hx c0
  have hk0 := hN _ _ hb0
  have K0 : ∀ d, (N + d = k0) = False := fun d => eq_false (by omega)
  obtain ⟨g1, g2, a0, c0', g3, hl0⟩ := hf 0 c0
  obtain ⟨n, hn0⟩ : ∃ n, (eqAt l 0).coef.length = n := ⟨_, rfl⟩
  rw [hn0] at g3
  have g3 : B0.cells[f0 + 0 * 5]? = some (.slice a0 n c0') := by
    rw [show B0.cells[f0 + 0 * 5]? = ((B0.cells.drop (f0 + 0 * 5)).take 5)[0]? by rw [List.getElem?_take, if_pos (by omega), List.getElem?_drop], g2, g3]; rfl
  have g4 : B0.cells[f0]? = some (.slice a0 n c0') := g3
  have g5 : B0.cells[f0 + 0]? = some (.slice a0 n c0') := g3
  have g6 : B0.cells[f0 + 0 + 0]? = some (.slice a0 n c0') := g3
  clear g1 g2 g3
  have gr : ∀ {hp : Heap}, ExtL N h hp → spGreat [.int .i64 n, .slice (some ⟨k0, f0, none⟩) l.length cc] hp = some (.int .i64 (if smallS n l then 0 else 1)) := fun he => great24_of (ext_rows hN hx he) hm
  have ck : ∀ {hp : Heap}, ExtL N h hp → spLCheck [.int .i64 n, .slice (some ⟨k0, f0, none⟩) l.length cc] hp = some (.int .i64 (chkL n l)) := fun he => chk_of (ext_rows hN hx he)
  have sg : (bq.n.length ≤ 4 ∧ bq.d.length ≤ 4) → spQSign [.agg ⟨bq.cells⟩] = some (.int .i64 (sv bq.s bq.n).sign) := fun h => if_pos ⟨by omega, by omega⟩
  by_cases b3 : ¬ smallS n l
  · rw [if_neg b3] at gr
    generalize bq.cells = QC at *
    simp only [c3, G0, Nat.reduceAdd]
    simp only [↓R0, R1, simprocAttr, -Int.reduceAbs, rdS, fx, gl, gl0, c0, hb0, K0, g4, g5, g6, gr, ck, dn, xs0, xc, ql, qo, qt, qc1, qc2, Bool.not_true, Bool.not_false, Fin, isEnd, resL, res1]
    exact ⟨_, rfl, rfl, fun k hk => by simp only [ne_nb hk, if_false]⟩
  have sS : smallS n l := Classical.byContradiction b3
  rw [if_pos sS] at gr
  by_cases b2 : l.length > 9
  · have b2' : ((l.length : Int) > 9) = True := eq_true (by omega)
    have b2'' : (l.length > 9) = True := eq_true b2
    generalize bq.cells = QC at *
    simp only [c3, G0, Nat.reduceAdd]
    simp only [↓R0, R1, simprocAttr, -Int.reduceAbs, rdS, fx, gl, gl0, c0, hb0, K0, g4, g5, g6, gr, ck, dn, xs0, xc, ql, qo, qt, qc1, qc2, b2', b2'', Bool.not_true, Bool.not_false, Fin, isEnd, resL, res1]
    exact ⟨_, rfl, rfl, fun k hk => by simp only [ne_nb hk, if_false]⟩
  have b2' : ((l.length : Int) > 9) = False := eq_false (by omega)
  have b2'' : (l.length > 9) = False := eq_false b2
  by_cases b4 : ¬ chkL n l = 0
  · have b4' : (chkL n l = 0) = False := eq_false b4
    generalize bq.cells = QC at *
    simp only [c3, G0, Nat.reduceAdd]
    simp only [↓R0, R1, simprocAttr, -Int.reduceAbs, rdS, fx, gl, gl0, c0, hb0, K0, g4, g5, g6, gr, ck, dn, xs0, xc, ql, qo, qt, qc1, qc2, b2', b2'', b4', Bool.not_true, Bool.not_false, Fin, isEnd, resL, res1]
    exact ⟨_, rfl, rfl, fun k hk => by simp only [ne_nb hk, if_false]⟩
  have hc0 : chkL n l = 0 := Classical.byContradiction b4
  rw [hc0] at ck
  by_cases b5 : bq.n.length > 4
  · have b5' : ((bq.n.length : Int) > 4) = True := eq_true (by omega)
    generalize bq.cells = QC at *
    simp only [c3, G0, Nat.reduceAdd]
    simp only [↓R0, R1, simprocAttr, -Int.reduceAbs, rdS, fx, gl, gl0, c0, hb0, K0, g4, g5, g6, gr, ck, dn, xs0, xc, ql, qo, qt, qc1, qc2, b2', b2'', b5', Bool.not_true, Bool.not_false, Fin, isEnd, resL, res1]
    exact ⟨_, rfl, rfl, fun k hk => by simp only [ne_nb hk, if_false]⟩
  have b5' : ((bq.n.length : Int) > 4) = False := eq_false (by omega)
  by_cases b6 : bq.d.length > 4
  · have b6' : ((bq.d.length : Int) > 4) = True := eq_true (by omega)
    generalize bq.cells = QC at *
    simp only [c3, G0, Nat.reduceAdd]
    simp only [↓R0, R1, simprocAttr, -Int.reduceAbs, rdS, fx, gl, gl0, c0, hb0, K0, g4, g5, g6, gr, ck, dn, xs0, xc, ql, qo, qt, qc1, qc2, b2', b2'', b5', b6', Bool.not_true, Bool.not_false, Fin, isEnd, resL, res1]
    exact ⟨_, rfl, rfl, fun k hk => by simp only [ne_nb hk, if_false]⟩
  have b6' : ((bq.d.length : Int) > 4) = False := eq_false (by omega)
  have sg := sg ⟨by omega, by omega⟩
  by_cases b7 : (sv bq.s bq.n).sign = 0
  · rw [b7] at sg
    generalize bq.cells = QC at *
    simp only [c3, G0, Nat.reduceAdd]
    simp only [↓R0, R1, simprocAttr, -Int.reduceAbs, rdS, fx, gl, gl0, c0, hb0, K0, g4, g5, g6, gr, ck, dn, xs0, xc, ql, qo, qt, qc1, qc2, b2', b2'', b5', b6', sg, Bool.not_true, Bool.not_false, Fin, isEnd, resL, res1]
    exact ⟨_, rfl, rfl, fun k hk => by simp only [ne_nb hk, if_false]⟩
  have b7' : ((sv bq.s bq.n).sign = 0) = False := eq_false b7
  have vz := rv_ne b7
  have bok : bq.ok 4 := ⟨by omega, by omega⟩
  have bRB : RB bq.v 5 := bok.rb
  have hn8 := (sS.sys hc0).n8
  have L := chk0_nat hc0
  have hl9 : l.length ≤ 9 := by omega
  obtain ⟨T, rfl⟩ := Int.eq_ofNat_of_zero_le hz0
  obtain ⟨U, rfl⟩ := Int.eq_ofNat_of_zero_le hy0
  obtain ⟨i0, hi0⟩ : ∃ k, k = T % l.length := ⟨_, rfl⟩
  obtain ⟨j0, hj0⟩ : ∃ k, k = U % l.length := ⟨_, rfl⟩
  have hi : i0 < l.length := by rw [hi0]; exact Nat.mod_lt _ c0
  have hj : j0 < l.length := by rw [hj0]; exact Nat.mod_lt _ c0
  have wz : IntKind.i64.wrap (T : Int) = (T : Int) := i64_in _ (by omega)
  have wy : IntKind.i64.wrap (U : Int) = (U : Int) := i64_in _ (by omega)
  have tz : (T : Int).tmod (l.length : Int) = (i0 : Int) := by rw [hi0]; rfl
  have ty : (U : Int).tmod (l.length : Int) = (j0 : Int) := by rw [hj0]; rfl
  have sys := sS.sys
  have sysC := iv_sys (c := bq.v) sS hc0 hl9 hi hj bRB
  have ckC := iv_chk (c := bq.v) (i := i0) (k := j0) hc0 hl9
  obtain ⟨o1, o2, o3, o4⟩ := iv_out hc0 hl9 hi hj vz
  have gN : (N + 0 = N) = True := eq_true rfl
  have gN1 : (N + 1 = N) = False := eq_false (by omega)
  have gN2 : (N = N + 1) = False := eq_false (by omega)
  simp only [c3, G0, Nat.reduceAdd]
  simp only [↓R0, R1, simprocAttr, -Int.reduceAbs, rdS, fx, gl, gl0, c0, hb0, K0, g4, g5, g6, gr, ck, dn, xs0, xc, ql, qo, qt, qc1, qc2, b2', b2'', b5', b6', sg, b7', Bool.not_true, Bool.not_false]
  refine lp_parts (fun c tm hp nx => ∃ (i M : Nat), c + i = l.length ∧ tmget tm 0 = .slice (some ⟨k0, f0, none⟩) l.length cc ∧ tmget tm 4 = .pointer (some ⟨N, 0, none⟩) ∧ tmget tm 5 = .pointer (some ⟨N + 1, 0, none⟩) ∧ tmget tm 7 = .int .i64 n ∧ tmget tm 69 = .int .i64 l.length ∧ tmget tm 70 = .int .i64 i ∧
      (∃ x, hget hp N = some ⟨24, 3, x, bq.cells⟩) ∧ (∃ x, hget hp (N + 1) = some ⟨25, 2, x, [.int .u8 T, .int .u8 U]⟩) ∧ RvS hp (N + 2) M (fun q => f (l.length - 1 - q)) i (tmget tm 8) ∧ ExtL N h hp ∧ N + 2 ≤ M ∧ nx = M + 0) ?_ l.length
    ⟨0, N + 2, by omega, ?_, ?_, ?_, ?_, ?_, ?_, ?_, ?_, .inl ⟨rfl, ?_⟩, ?_, Nat.le_refl _, rfl⟩
  rotate_left
  all_goals first | (simp only [↓R0, R1, simprocAttr, -Int.reduceAbs]; done) | (simp only [↓R0, R1, simprocAttr, -Int.reduceAbs]; rfl) | (refine ⟨true, ?_⟩; simp only [↓R0, R1, simprocAttr, -Int.reduceAbs, gN, gN1, gN2]; done) | skip
  · intro q hq
    have nb : ∀ d, (N + d = q) = False := fun d => eq_false (by omega)
    simp only [↓R0, R1, simprocAttr, -Int.reduceAbs, nb]
  rintro c tm hp nx ⟨i, M, hc, t0, t4, t5, t7, t69, t70, ⟨x, bB⟩, ⟨w, bA⟩, hS, hh, hM, hnx⟩
  rw [hnx]
  clear hnx nx
  have nbq : ∀ q, q < N → ∀ d, (M + d = q) = False := fun q hq d => eq_false (by omega)
  have X0 : ∀ d, (M + d = N) = False := fun d => eq_false (by omega)
  have X1 : ∀ d, (M + d = N + 1) = False := fun d => eq_false (by omega)
  have Y0 : ∀ d, (N = M + d) = False := fun d => eq_false (by omega)
  have Y1 : ∀ d, (N + 1 = M + d) = False := fun d => eq_false (by omega)
  by_cases c1 : i < l.length
  · have c1' : ((i : Int) < (l.length : Int)) = True := eq_true (by omega)
    have w1 : IntKind.i64.wrap ((i : Int) + 1) = ((i + 1 : Nat) : Int) := by rw [i64_in _ (by omega)]; omega
    have wm : IntKind.i64.wrap ((l.length : Int) - 1) = ((l.length - 1 : Nat) : Int) := by rw [i64_in _ (by omega)]; omega
    have wp : IntKind.i64.wrap (((l.length - 1 : Nat) : Int) - (i : Int)) = ((l.length - 1 - i : Nat) : Int) := by rw [i64_in _ (by omega)]; omega
    obtain ⟨p, hp0⟩ : ∃ p, p = l.length - 1 - i := ⟨_, rfl⟩
    have hpl : p < l.length := by omega
    obtain ⟨q1, q2, a', c', e5, hl1⟩ := hf p hpl
    rw [← hp0] at wp
    have hbb : hget hp k0 = some B0 := by rw [hh k0 hk0]; exact hb0
    have nk := nbq k0 hk0
    have e5l : (f p).length = 5 := by rw [e5]; rfl
    have e5o : (f p).all okCell = true := by rw [e5]; rfl
    have e5t : (f p).take 5 = f p := by rw [e5]; rfl
    have e5s : setR [.slice none 0 0, .bool false, .string ⟨⟨[]⟩⟩, .string ⟨⟨[]⟩⟩, .int .i64 0] 0 (f p) = f p := by rw [e5]; rfl
    rcases hS with ⟨i0', t8⟩ | ⟨i0', kL, xL, t8, bL, hkL⟩
    · simp only [↓R0, R1, simprocAttr, -Int.reduceAbs, t0, t4, t5, t7, t8, t69, t70, c1, c1', hbb, bB, bA, nk, q1, q2, e5l, e5o, e5t, e5s, X0, X1, Y0, Y1, w1, wm, wp, hpl, Nat.zero_add, Nat.zero_mul, List.nil_append]
      refine ⟨c - 1, by omega, i + 1, M + 2, by omega, rfl, ⟨_, rfl⟩, ⟨_, rfl⟩, .inr ⟨by omega, M + 1, false, ?_, ?_, by omega, by omega⟩, fun q hq => ?_, by omega, rfl⟩
      · rw [i0']
      · rw [i0'] at hp0 ⊢
        show hget _ (M + 1) = some ⟨_, _, _, [] ++ f (l.length - 1 - 0)⟩
        rw [← hp0]
        exact if_pos rfl
      · have nb := nbq q hq
        simp only [↓R0, R1, simprocAttr, -Int.reduceAbs, nb]
        exact hh q hq
    · have hkq : ∀ d, (M + d = kL) = False := fun d => eq_false (by omega)
      have hkq' : ∀ d, (kL = M + d) = False := fun d => eq_false (by omega)
      have hkk : (kL = k0) = False := eq_false (by omega)
      have hkN : (kL = N) = False := eq_false (by omega)
      have hkN1 : (kL = N + 1) = False := eq_false (by omega)
      have F5 : ∀ q, q < i → ((fun q => f (l.length - 1 - q)) q).length = 5 := fun q hq => by
        obtain ⟨_, _, a', c', e5, _⟩ := hf (l.length - 1 - q) (by omega)
        show (f (l.length - 1 - q)).length = 5
        rw [e5]; rfl
      have Fo : ∀ q, q < i → ((fun q => f (l.length - 1 - q)) q).all okCell = true := fun q hq => by
        obtain ⟨_, _, a', c', e5, _⟩ := hf (l.length - 1 - q) (by omega)
        show (f (l.length - 1 - q)).all okCell = true
        rw [e5]; rfl
      have bl := blkC_len F5
      have bo := blkC_ok Fo
      have ovL : ((i + 1) * 72 ≤ 140737488355328) = True := eq_true (by omega)
      have nle : (i + 1 ≤ i) = False := eq_false (by omega)
      simp only [↓R0, R1, simprocAttr, -Int.reduceAbs, t0, t4, t5, t7, t8, t69, t70, c1, c1', hbb, bB, bA, bL, bl, bo, nk, q1, q2, e5l, e5o, e5t, e5s, X0, X1, Y0, Y1, hkq, hkq', hkk, hkN, hkN1, ovL, nle, w1, wm, wp, hpl, Nat.zero_add, Nat.zero_mul, List.nil_append]
      refine ⟨c - 1, by omega, i + 1, M + 2, by omega, rfl, ⟨_, rfl⟩, ⟨_, rfl⟩, .inr ⟨by omega, M + 1, false, rfl, ?_, by omega, by omega⟩, fun q hq => ?_, by omega, rfl⟩
      · show hget _ (M + 1) = some ⟨_, _, _, blkC (fun q => f (l.length - 1 - q)) i ++ f (l.length - 1 - i)⟩
        rw [← hp0]
        exact if_pos rfl
      · have nb := nbq q hq
        have nk : (kL = q) = False := eq_false (by omega)
        simp only [↓R0, R1, simprocAttr, -Int.reduceAbs, nb, nk]
        exact hh q hq
  have ei : i = l.length := by omega
  subst ei
  have c1' : ((l.length : Int) < (l.length : Int)) = False := eq_false (by omega)
  rcases hS with ⟨z, _⟩ | ⟨_, kL, xL, t8, bL, hkL, hkM⟩
  · exact absurd c0 (by omega)
  have rr : ∀ q, q < l.length → eqAt l.reverse q = eqAt l (l.length - 1 - q) := fun q hq => rev_at hq
  have gp : ∀ q, q < l.length → ∃ a' c', f (l.length - 1 - q) = Value.slice a' n c' :: (eqAt l.reverse q).tl ∧ listAt 3 dec1 h (.slice a' n c') = some (eqAt l.reverse q).coef := fun q hq => by
    obtain ⟨_, _, a', c', e5, hl1⟩ := hf (l.length - 1 - q) (by omega)
    rw [L _ (eqAt_mem (by omega)), ← rr q hq] at e5 hl1
    exact ⟨a', c', e5, hl1⟩
  have so : ∀ q, q < l.length → (∀ j, j < n → (rqAt (eqAt l.reverse q).coef j).ok 4) ∧ (eqAt l.reverse q).rhs.ok 4 ∧ (eqAt l.reverse q).coef.length = n := fun q hq => by
    rw [rr q hq]
    have hm := eqAt_mem (l := l) (i := l.length - 1 - q) (by omega)
    obtain ⟨_, h4⟩ := sS.2.2 _ hm
    refine ⟨fun j hj => ?_, ?_, L _ hm⟩
    · have := h4 _ (List.mem_append_left _ (rqAt_mem (i := j) (by rw [L _ hm]; exact hj)))
      exact ⟨this.1, this.2⟩
    · have := h4 _ (List.mem_append_right _ (List.mem_singleton.2 rfl))
      exact ⟨this.1, this.2⟩
  have F5 : ∀ q, q < l.length → ((fun q => f (l.length - 1 - q)) q).length = 5 := fun q hq => by
    obtain ⟨a', c', e5, _⟩ := gp q hq
    show (f (l.length - 1 - q)).length = 5
    rw [e5]; rfl
  have Fo : ∀ q, q < l.length → ((fun q => f (l.length - 1 - q)) q).all okCell = true := fun q hq => by
    obtain ⟨a', c', e5, _⟩ := gp q hq
    show (f (l.length - 1 - q)).all okCell = true
    rw [e5]; rfl
  have bl := blkC_len F5
  have bo := blkC_ok Fo
  obtain ⟨a1, c1x, e1, hl1⟩ := gp i0 hi
  obtain ⟨a2, c2x, e2, hl2⟩ := gp j0 hj
  have p1 := blkC_at F5 hi
  have p2 := blkC_at F5 hj
  have r1 : ((blkC (fun q => f (l.length - 1 - q)) l.length).drop (i0 * 5 + 1)).take 3 = (eqAt l.reverse i0).rhs.cells := by rw [piece_sub (w := 5) (by omega), p1, e1]; rfl
  have r2 : ((blkC (fun q => f (l.length - 1 - q)) l.length).drop (j0 * 5 + 1)).take 3 = (eqAt l.reverse j0).rhs.cells := by rw [piece_sub (w := 5) (by omega), p2, e2]; rfl
  have s1 : (blkC (fun q => f (l.length - 1 - q)) l.length)[i0 * 5 + 0]? = some (.slice a1 n c1x) := by rw [piece_at (w := 5) (by omega), p1, e1]; rfl
  have s2 : (blkC (fun q => f (l.length - 1 - q)) l.length)[j0 * 5 + 0]? = some (.slice a2 n c2x) := by rw [piece_at (w := 5) (by omega), p2, e2]; rfl
  have d1 : (i0 * 5 + 1 + 3 ≤ l.length * 5) = True := eq_true (by omega)
  have d2 : (j0 * 5 + 1 + 3 ≤ l.length * 5) = True := eq_true (by omega)
  have d3 : (i0 * 5 + 5 ≤ l.length * 5) = True := eq_true (by omega)
  have lz : ((l.length : Int) = 0) = False := gl0
  have aq := addQQ (so i0 hi).2.1 (so j0 hj).2.1 (by omega) (by omega)
  have mq := mulQ (so i0 hi).2.1 bok (by omega) (by omega)
  have hkN : (kL = N) = False := eq_false (by omega)
  have hkN1 : (kL = N + 1) = False := eq_false (by omega)
  have hNk : (N = kL) = False := eq_false (by omega)
  have hkq : ∀ d, (M + d = kL) = False := fun d => eq_false (by omega)
  have hkq' : ∀ d, (kL = M + d) = False := fun d => eq_false (by omega)
  have bset := fun xs (hx : 0 + xs.length ≤ 5) => blkC_set (o := 0) (xs := xs) hx F5 hi
  have stT : ∀ v : Rat, setR [.slice none 0 0, .bool false, .string ⟨⟨[]⟩⟩, .string ⟨⟨[]⟩⟩, .int .i64 0] 1 (rE v) = Value.slice none 0 0 :: (⟨[], RQ.of v, 0⟩ : EqR).tl := fun _ => rfl
  have st1 := stT ((eqAt l.reverse i0).rhs.v + (eqAt l.reverse j0).rhs.v)
  have st2 := stT ((eqAt l.reverse i0).rhs.v * bq.v)
  have eT1 : (⟨[], RQ.of ((eqAt l.reverse i0).rhs.v + (eqAt l.reverse j0).rhs.v), 0⟩ : EqR).tl = (suE n (eqAt l.reverse i0) (eqAt l.reverse j0)).tl := rfl
  have eT2 : (⟨[], RQ.of ((eqAt l.reverse i0).rhs.v * bq.v), 0⟩ : EqR).tl = (muE n bq.v (eqAt l.reverse i0)).tl := rfl
  rw [eT1] at st1
  rw [eT2] at st2
  have su5 : ∀ s : Value, (s :: (suE n (eqAt l.reverse i0) (eqAt l.reverse j0)).tl).length = 5 := fun _ => rfl
  have mu5 : ∀ s : Value, (s :: (muE n bq.v (eqAt l.reverse i0)).tl).length = 5 := fun _ => rfl
  have suo : ∀ (a : Option Addr) (n' m : Nat), (Value.slice a n' m :: (suE n (eqAt l.reverse i0) (eqAt l.reverse j0)).tl).all okCell = true := fun _ _ _ => rfl
  have muo : ∀ (a : Option Addr) (n' m : Nat), (Value.slice a n' m :: (muE n bq.v (eqAt l.reverse i0)).tl).all okCell = true := fun _ _ _ => rfl
  have sus : ∀ s : Value, setR [.slice none 0 0, .bool false, .string ⟨⟨[]⟩⟩, .string ⟨⟨[]⟩⟩, .int .i64 0] 0 (s :: (suE n (eqAt l.reverse i0) (eqAt l.reverse j0)).tl) = s :: (suE n (eqAt l.reverse i0) (eqAt l.reverse j0)).tl := fun _ => rfl
  have mus : ∀ s : Value, setR [.slice none 0 0, .bool false, .string ⟨⟨[]⟩⟩, .string ⟨⟨[]⟩⟩, .int .i64 0] 0 (s :: (muE n bq.v (eqAt l.reverse i0)).tl) = s :: (muE n bq.v (eqAt l.reverse i0)).tl := fun _ => rfl
  have gE : ∀ v : Rat, (rE v).length = 3 := fun _ => rfl
  have gEo : ∀ v : Rat, (rE v).all okCell = true := fun _ => rfl
  have h1 : (eqAt l.reverse i0).rhs.cells.length = 3 := rfl
  have h2 : (eqAt l.reverse j0).rhs.cells.length = 3 := rfl
  have hSU : ∀ s : Value, s :: (suE n (eqAt l.reverse i0) (eqAt l.reverse j0)).tl = s :: (suE n (eqAt l.reverse i0) (eqAt l.reverse j0)).tl := fun _ => rfl
  have ivA : ∀ q, q < l.length → eqAt (ivL n bq.v i0 j0 l.reverse) q = if q = i0 then muE n bq.v (eqAt l.reverse i0) else eqAt l.reverse q := fun q hq => ivL_at (by rw [List.length_reverse]; exact hi) (by rw [List.length_reverse]; exact hq)
  have ivB : eqAt (ivL n bq.v i0 j0 l.reverse) l.length = suE n (eqAt l.reverse i0) (eqAt l.reverse j0) := by
    have := ivL_last (n := n) (c := bq.v) (i := i0) (k := j0) (R := l.reverse)
    rw [List.length_reverse] at this; exact this
  have ivn : (ivL n bq.v i0 j0 l.reverse).length = l.length + 1 := by rw [ivL_len, List.length_reverse]
  have suc : (suE n (eqAt l.reverse i0) (eqAt l.reverse j0)).coef = fq (fun j => qsV (eqAt l.reverse i0).coef j + qsV (eqAt l.reverse j0).coef j) n := rfl
  have muc : (muE n bq.v (eqAt l.reverse i0)).coef = fq (fun j => qsV (eqAt l.reverse i0).coef j * bq.v) n := rfl
  generalize hST : (suE n (eqAt l.reverse i0) (eqAt l.reverse j0)).tl = ST at *
  generalize hMT : (muE n bq.v (eqAt l.reverse i0)).tl = MT at *
  generalize blkC (fun q => f (l.length - 1 - q)) l.length = BL at *
  generalize (eqAt l.reverse i0).rhs.cells = RHA at *
  generalize (eqAt l.reverse j0).rhs.cells = RHB at *
  simp only [↓R0, R1, simprocAttr, -Int.reduceAbs, t0, t4, t5, t7, t8, t69, t70, c0, c1', bB, bA, bL, bl, r1, r2, d1, d2, hi, hj, h1, h2, aq, mq, ql, qo, qt, hkN, hkN1, hNk, hkq, hkq', X0, X1, Y0, Y1, wz, wy, tz, ty, lz, gE, gEo, st1, st2, su5, mu5, suo, muo, sus, mus]
  have FAe : ∃ FA, FA = fun j => qsV (eqAt l.reverse i0).coef j + qsV (eqAt l.reverse j0).coef j := ⟨_, rfl⟩
  have FBe : ∃ FB, FB = fun j => qsV (eqAt l.reverse i0).coef j * bq.v := ⟨_, rfl⟩
  obtain ⟨FA, hFA⟩ := FAe
  obtain ⟨FB, hFB⟩ := FBe
  rw [← hFA] at suc
  rw [← hFB] at muc
  have gM : (M + 0 = M) = True := eq_true rfl
  have gM1 : (M + 1 = M) = False := eq_false (by omega)
  have gM2 : (M = M + 1) = False := eq_false (by omega)
  have gM3 : (M + 1 = kL) = False := eq_false (by omega)
  have gM4 : (M + 1 = N) = False := eq_false (by omega)
  have gM5 : (M = kL) = False := eq_false (by omega)
  have gM6 : (M = N) = False := eq_false (by omega)
  refine lp_parts (fun c tm hp2 nx => ∃ (j M2 : Nat) (sa sb : Value), c + j = n ∧ tmget tm 0 = .slice (some ⟨k0, f0, none⟩) l.length cc ∧ tmget tm 4 = .pointer (some ⟨N, 0, none⟩) ∧ tmget tm 7 = .int .i64 n ∧ tmget tm 8 = .slice (some ⟨kL, 0, none⟩) l.length l.length ∧ tmget tm 10 = .int .i64 i0 ∧ tmget tm 11 = .int .i64 j0 ∧ tmget tm 12 = .pointer (some ⟨M, 0, none⟩) ∧ tmget tm 13 = .pointer (some ⟨M + 1, 0, none⟩) ∧ tmget tm 117 = .int .i64 n ∧ tmget tm 118 = .int .i64 j ∧
      (∃ x, hget hp2 N = some ⟨24, 3, x, bq.cells⟩) ∧ (∃ x, hget hp2 kL = some ⟨28, 5, x, BL⟩) ∧ (∃ x, hget hp2 M = some ⟨28, 5, x, sa :: ST⟩) ∧ (∃ x, hget hp2 (M + 1) = some ⟨28, 5, x, sb :: MT⟩) ∧ TwS hp2 (M + 2) M2 j FA FB sa sb ∧ ExtL N h hp2 ∧ M + 2 ≤ M2 ∧ nx = M2 + 0) ?_ n
    ⟨0, M + 2, .slice none 0 0, .slice none 0 0, by omega, ?_, ?_, ?_, ?_, ?_, ?_, ?_, ?_, ?_, ?_, ?_, ?_, ?_, ?_, .inl ⟨rfl, rfl, rfl⟩, ?_, Nat.le_refl _, rfl⟩
  rotate_left
  all_goals first | (simp only [↓R0, R1, simprocAttr, -Int.reduceAbs, t0, t4, t7, t8]; done) | (simp only [↓R0, R1, simprocAttr, -Int.reduceAbs, t0, t4, t7, t8]; rfl) | (refine ⟨x, ?_⟩; simp only [↓R0, R1, simprocAttr, -Int.reduceAbs, bB, bL, gM, gM1, gM2, gM3, gM4, gM5, gM6, hkN, hNk, X0, Y0, hkq, hkq']; done) | (refine ⟨xL, ?_⟩; simp only [↓R0, R1, simprocAttr, -Int.reduceAbs, bB, bL, gM, gM1, gM2, gM3, gM4, gM5, gM6, hkN, hNk, X0, Y0, hkq, hkq']; done) | (refine ⟨true, ?_⟩; simp only [↓R0, R1, simprocAttr, -Int.reduceAbs, bB, bL, gM, gM1, gM2, gM3, gM4, gM5, gM6, hkN, hNk]; done) | skip
  · intro q hq
    have nb := nbq q hq
    simp only [↓R0, R1, simprocAttr, -Int.reduceAbs, nb]
    exact hh q hq
  clear t0 t4 t5 t7 t8 t69 t70 X0 X1 Y0 Y1 bA bB nbq hkq hkq' bL st1 st2 stT tz ty wz wy c1' aq mq
  rintro c tm hp2 nx ⟨j, M2, sa, sb, hcj, t0, t4, t7, t8, t10, t11, t12, t13, t117, t118, ⟨x1, bB⟩, ⟨x2, bK⟩, ⟨x3, bM⟩, ⟨x4, bM1⟩, hT, hh2, hM2, hnx⟩
  rw [hnx]
  clear hnx nx
  have nbq : ∀ q, q < N → ∀ d, (M2 + d = q) = False := fun q hq d => eq_false (by omega)
  by_cases c2 : j < n
  · have c1'' : ((j : Int) < (n : Int)) = True := eq_true (by omega)
    have w1 : IntKind.i64.wrap ((j : Int) + 1) = ((j + 1 : Nat) : Int) := by rw [i64_in _ (by omega)]; omega
    obtain ⟨k1, f1, B1, rfl, h1, q1, q2⟩ := rq_at hl1 c2
    obtain ⟨k2, f2, B2, rfl, h2, q3, q4⟩ := rq_at hl2 c2
    have l1 := hN _ _ h1
    have l2 := hN _ _ h2
    have b1 : hget hp2 k1 = some B1 := by rw [hh2 k1 l1]; exact h1
    have b2 : hget hp2 k2 = some B2 := by rw [hh2 k2 l2]; exact h2
    have n1 := nbq k1 l1
    have n2 := nbq k2 l2
    have aqc : spQAdd [.agg ⟨(rqAt (eqAt l.reverse i0).coef j).cells⟩, .agg ⟨(rqAt (eqAt l.reverse j0).coef j).cells⟩] = some (.agg ⟨rE (FA j)⟩) := by
      rw [hFA]; exact addQQ ((so i0 hi).1 j c2) ((so j0 hj).1 j c2) (by omega) (by omega)
    have mqc : spQMul [.agg ⟨(rqAt (eqAt l.reverse i0).coef j).cells⟩, .agg ⟨bq.cells⟩] = some (.agg ⟨rE (FB j)⟩) := by
      rw [hFB]; exact mulQ ((so i0 hi).1 j c2) bok (by omega) (by omega)
    have u1 : (rqAt (eqAt l.reverse i0).coef j).cells.length = 3 := rfl
    have u2 : (rqAt (eqAt l.reverse i0).coef j).cells.all okCell = true := rfl
    have u3 : (rqAt (eqAt l.reverse j0).coef j).cells.length = 3 := rfl
    have u4 : (rqAt (eqAt l.reverse j0).coef j).cells.all okCell = true := rfl
    have gEt : ∀ v : Rat, (rE v).take 3 = rE v := fun _ => rfl
    have gEs : ∀ v : Rat, setR [.bool false, .string ⟨⟨[]⟩⟩, .string ⟨⟨[]⟩⟩] 0 (rE v) = rE v := fun _ => rfl
    have gs1 := gEs (FA j)
    have gs2 := gEs (FB j)
    have fa := fq_succ FA j
    have fb := fq_succ FB j
    have lfa : (rqs (fq FA j)).length = j * 3 := by rw [rqs_len, fq_len]
    have lfb : (rqs (fq FB j)).length = j * 3 := by rw [rqs_len, fq_len]
    have ofa := rqs_ok (fq FA j)
    have ofb := rqs_ok (fq FB j)
    have dj1 : ((j + 1) * 40 ≤ 140737488355328) = True := eq_true (by omega)
    have dj2 : (j + 1 ≤ j) = False := eq_false (by omega)
    have k1N : (N = k1) = False := eq_false (by omega)
    have k2N : (N = k2) = False := eq_false (by omega)
    generalize (rqAt (eqAt l.reverse i0).coef j).cells = C1 at *
    generalize (rqAt (eqAt l.reverse j0).coef j).cells = C2 at *
    generalize bq.cells = QC at *
    rcases hT with ⟨j0', rfl, rfl⟩ | ⟨j0', ka, kb, y1, y2, rfl, rfl, bka, bkb, rka, rkb, kab⟩
    · have P0 : (N = kL) = False := eq_false (by omega)
      have P1 : (N = M) = False := eq_false (by omega)
      have P2 : (N = M + 1) = False := eq_false (by omega)
      have P3 : (kL = N) = False := eq_false (by omega)
      have P4 : (kL = M) = False := eq_false (by omega)
      have P5 : (kL = M + 1) = False := eq_false (by omega)
      have P6 : (M = N) = False := eq_false (by omega)
      have P7 : (M = kL) = False := eq_false (by omega)
      have P8 : (M = M + 1) = False := eq_false (by omega)
      have P9 : (M + 1 = N) = False := eq_false (by omega)
      have P10 : (M + 1 = kL) = False := eq_false (by omega)
      have P11 : (M + 1 = M) = False := eq_false (by omega)
      have P12 : (N = k1) = False := eq_false (by omega)
      have P13 : (N = k2) = False := eq_false (by omega)
      have P14 : (kL = k1) = False := eq_false (by omega)
      have P15 : (kL = k2) = False := eq_false (by omega)
      have P16 : (M = k1) = False := eq_false (by omega)
      have P17 : (M = k2) = False := eq_false (by omega)
      have P18 : (M + 1 = k1) = False := eq_false (by omega)
      have P19 : (M + 1 = k2) = False := eq_false (by omega)
      have P20 : ∀ d, (M2 + d = N) = False := fun d => eq_false (by omega)
      have P21 : ∀ d, (N = M2 + d) = False := fun d => eq_false (by omega)
      have P22 : ∀ d, (M2 + d = kL) = False := fun d => eq_false (by omega)
      have P23 : ∀ d, (kL = M2 + d) = False := fun d => eq_false (by omega)
      have P24 : ∀ d, (M2 + d = M) = False := fun d => eq_false (by omega)
      have P25 : ∀ d, (M = M2 + d) = False := fun d => eq_false (by omega)
      have P26 : ∀ d, (M2 + d = M + 1) = False := fun d => eq_false (by omega)
      have P27 : ∀ d, (M + 1 = M2 + d) = False := fun d => eq_false (by omega)
      simp only [↓R0, R1, simprocAttr, -Int.reduceAbs, rdS, t0, t4, t7, t8, t10, t11, t12, t13, t117, t118, c1'', c2, hi, hj, bB, bK, bM, bM1, bl, s1, s2, d3, b1, b2, q1, q2, q3, q4, n1, n2, u1, u2, u3, u4, aqc, mqc, ql, qo, qt, gE, gEo, gEt, su5, mu5, suo, muo, sus, mus, w1, gs1, gs2, P0, P1, P2, P3, P4, P5, P6, P7, P8, P9, P10, P11, P12, P13, P14, P15, P16, P17, P18, P19, P20, P21, P22, P23, P24, P25, P26, P27, Nat.zero_add, Nat.zero_mul, List.nil_append]
      have ea : rqs (fq FA (j + 1)) = rE (FA j) := by subst j0'; exact (fq_succ FA 0).symm
      have eb : rqs (fq FB (j + 1)) = rE (FB j) := by subst j0'; exact (fq_succ FB 0).symm
      refine ⟨c - 1, by omega, j + 1, M2 + 4, .slice (some ⟨M2 + 1, 0, none⟩) 1 1, .slice (some ⟨M2 + 3, 0, none⟩) 1 1, by omega, rfl, ⟨_, rfl⟩, ⟨_, rfl⟩, ⟨_, rfl⟩, ⟨_, rfl⟩, .inr ⟨by omega, M2 + 1, M2 + 3, false, false, by rw [j0'], by rw [j0'], ?_, ?_, by omega, by omega, by omega⟩, fun q hq => ?_, by omega, rfl⟩
      · rw [ea]; simp only [↓R0, R1, simprocAttr, -Int.reduceAbs, P0, P1, P2, P3, P4, P5, P6, P7, P8, P9, P10, P11, P12, P13, P14, P15, P16, P17, P18, P19, P20, P21, P22, P23, P24, P25, P26, P27]
      · rw [eb]; simp only [↓R0, R1, simprocAttr, -Int.reduceAbs, P0, P1, P2, P3, P4, P5, P6, P7, P8, P9, P10, P11, P12, P13, P14, P15, P16, P17, P18, P19, P20, P21, P22, P23, P24, P25, P26, P27]
      · have nb := nbq q hq
        have nM : (M = q) = False := eq_false (by omega)
        have nM' : (M + 1 = q) = False := eq_false (by omega)
        simp only [↓R0, R1, simprocAttr, -Int.reduceAbs, nb, nM, nM']
        exact hh2 q hq
    · have kab' := fun e : kb = ka => kab e.symm
      have P0 : (N = kL) = False := eq_false (by omega)
      have P1 : (N = M) = False := eq_false (by omega)
      have P2 : (N = M + 1) = False := eq_false (by omega)
      have P3 : (N = ka) = False := eq_false (by omega)
      have P4 : (N = kb) = False := eq_false (by omega)
      have P5 : (kL = N) = False := eq_false (by omega)
      have P6 : (kL = M) = False := eq_false (by omega)
      have P7 : (kL = M + 1) = False := eq_false (by omega)
      have P8 : (kL = ka) = False := eq_false (by omega)
      have P9 : (kL = kb) = False := eq_false (by omega)
      have P10 : (M = N) = False := eq_false (by omega)
      have P11 : (M = kL) = False := eq_false (by omega)
      have P12 : (M = M + 1) = False := eq_false (by omega)
      have P13 : (M = ka) = False := eq_false (by omega)
      have P14 : (M = kb) = False := eq_false (by omega)
      have P15 : (M + 1 = N) = False := eq_false (by omega)
      have P16 : (M + 1 = kL) = False := eq_false (by omega)
      have P17 : (M + 1 = M) = False := eq_false (by omega)
      have P18 : (M + 1 = ka) = False := eq_false (by omega)
      have P19 : (M + 1 = kb) = False := eq_false (by omega)
      have P20 : (ka = N) = False := eq_false (by omega)
      have P21 : (ka = kL) = False := eq_false (by omega)
      have P22 : (ka = M) = False := eq_false (by omega)
      have P23 : (ka = M + 1) = False := eq_false (by omega)
      have P24 : (ka = kb) = False := eq_false (by omega)
      have P25 : (kb = N) = False := eq_false (by omega)
      have P26 : (kb = kL) = False := eq_false (by omega)
      have P27 : (kb = M) = False := eq_false (by omega)
      have P28 : (kb = M + 1) = False := eq_false (by omega)
      have P29 : (kb = ka) = False := eq_false (by omega)
      have P30 : (N = k1) = False := eq_false (by omega)
      have P31 : (N = k2) = False := eq_false (by omega)
      have P32 : (kL = k1) = False := eq_false (by omega)
      have P33 : (kL = k2) = False := eq_false (by omega)
      have P34 : (M = k1) = False := eq_false (by omega)
      have P35 : (M = k2) = False := eq_false (by omega)
      have P36 : (M + 1 = k1) = False := eq_false (by omega)
      have P37 : (M + 1 = k2) = False := eq_false (by omega)
      have P38 : (ka = k1) = False := eq_false (by omega)
      have P39 : (ka = k2) = False := eq_false (by omega)
      have P40 : (kb = k1) = False := eq_false (by omega)
      have P41 : (kb = k2) = False := eq_false (by omega)
      have P42 : ∀ d, (M2 + d = N) = False := fun d => eq_false (by omega)
      have P43 : ∀ d, (N = M2 + d) = False := fun d => eq_false (by omega)
      have P44 : ∀ d, (M2 + d = kL) = False := fun d => eq_false (by omega)
      have P45 : ∀ d, (kL = M2 + d) = False := fun d => eq_false (by omega)
      have P46 : ∀ d, (M2 + d = M) = False := fun d => eq_false (by omega)
      have P47 : ∀ d, (M = M2 + d) = False := fun d => eq_false (by omega)
      have P48 : ∀ d, (M2 + d = M + 1) = False := fun d => eq_false (by omega)
      have P49 : ∀ d, (M + 1 = M2 + d) = False := fun d => eq_false (by omega)
      have P50 : ∀ d, (M2 + d = ka) = False := fun d => eq_false (by omega)
      have P51 : ∀ d, (ka = M2 + d) = False := fun d => eq_false (by omega)
      have P52 : ∀ d, (M2 + d = kb) = False := fun d => eq_false (by omega)
      have P53 : ∀ d, (kb = M2 + d) = False := fun d => eq_false (by omega)
      simp only [↓R0, R1, simprocAttr, -Int.reduceAbs, rdS, t0, t4, t7, t8, t10, t11, t12, t13, t117, t118, c1'', c2, hi, hj, bB, bK, bM, bM1, bl, s1, s2, d3, b1, b2, q1, q2, q3, q4, n1, n2, u1, u2, u3, u4, aqc, mqc, ql, qo, qt, gE, gEo, gEt, su5, mu5, suo, muo, sus, mus, w1, gs1, gs2, fa, fb, lfa, lfb, ofa, ofb, dj1, dj2, bka, bkb, P0, P1, P2, P3, P4, P5, P6, P7, P8, P9, P10, P11, P12, P13, P14, P15, P16, P17, P18, P19, P20, P21, P22, P23, P24, P25, P26, P27, P28, P29, P30, P31, P32, P33, P34, P35, P36, P37, P38, P39, P40, P41, P42, P43, P44, P45, P46, P47, P48, P49, P50, P51, P52, P53, Nat.zero_add, Nat.zero_mul, List.nil_append]
      refine ⟨c - 1, by omega, j + 1, M2 + 4, .slice (some ⟨M2 + 1, 0, none⟩) (j + 1) (j + 1), .slice (some ⟨M2 + 3, 0, none⟩) (j + 1) (j + 1), by omega, rfl, ⟨_, rfl⟩, ⟨_, rfl⟩, ⟨_, rfl⟩, ⟨_, rfl⟩, .inr ⟨by omega, M2 + 1, M2 + 3, false, false, rfl, rfl, ?_, ?_, by omega, by omega, by omega⟩, fun q hq => ?_, by omega, rfl⟩
      · simp only [↓R0, R1, simprocAttr, -Int.reduceAbs, P0, P1, P2, P3, P4, P5, P6, P7, P8, P9, P10, P11, P12, P13, P14, P15, P16, P17, P18, P19, P20, P21, P22, P23, P24, P25, P26, P27, P28, P29, P30, P31, P32, P33, P34, P35, P36, P37, P38, P39, P40, P41, P42, P43, P44, P45, P46, P47, P48, P49, P50, P51, P52, P53]
      · simp only [↓R0, R1, simprocAttr, -Int.reduceAbs, P0, P1, P2, P3, P4, P5, P6, P7, P8, P9, P10, P11, P12, P13, P14, P15, P16, P17, P18, P19, P20, P21, P22, P23, P24, P25, P26, P27, P28, P29, P30, P31, P32, P33, P34, P35, P36, P37, P38, P39, P40, P41, P42, P43, P44, P45, P46, P47, P48, P49, P50, P51, P52, P53]
      · have nb := nbq q hq
        have nM : (M = q) = False := eq_false (by omega)
        have nM' : (M + 1 = q) = False := eq_false (by omega)
        have na : (ka = q) = False := eq_false (by omega)
        have nb' : (kb = q) = False := eq_false (by omega)
        simp only [↓R0, R1, simprocAttr, -Int.reduceAbs, nb, nM, nM', na, nb']
        exact hh2 q hq
  have ej : j = n := by omega
  rw [ej] at hT t118
  clear c2 hcj ej
  obtain ⟨⟨a9, ea9⟩, b9, eb9⟩ := hT.sl
  subst ea9
  subst eb9
  have c2'' : ((n : Int) < (n : Int)) = False := eq_false (by omega)
  have st5 : setR BL (i0 * 5) (.slice b9 n n :: MT) = _ := bset (.slice b9 n n :: MT) (by rw [mu5]; omega)
  have BLlen : (blkC (fun q => if q = i0 then setR (f (l.length - 1 - q)) 0 (.slice b9 n n :: MT) else f (l.length - 1 - q)) l.length).length = l.length * 5 := by rw [← st5, setR_length, bl]
  obtain ⟨BL2, hBL2⟩ : ∃ B, B = blkC (fun q => if q = i0 then setR (f (l.length - 1 - q)) 0 (.slice b9 n n :: MT) else f (l.length - 1 - q)) l.length := ⟨_, rfl⟩
  have st5 : setR BL (i0 * 5) (.slice b9 n n :: MT) = BL2 := by rw [hBL2]; exact st5
  rw [← hBL2] at BLlen
  have tS : (Value.slice a9 n n :: ST).take 5 = Value.slice a9 n n :: ST := List.take_of_length_le (by rw [su5]; exact Nat.le_refl _)
  have tM : (Value.slice b9 n n :: MT).take 5 = Value.slice b9 n n :: MT := List.take_of_length_le (by rw [mu5]; exact Nat.le_refl _)
  have lS := su5 (.slice a9 n n)
  have lM := mu5 (.slice b9 n n)
  have oS := suo a9 n n
  have oM := muo b9 n n
  have sS5 := sus (.slice a9 n n)
  have ovL : ((l.length + 1) * 72 ≤ 140737488355328) = True := eq_true (by omega)
  have nle : (l.length + 1 ≤ l.length) = False := eq_false (by omega)
  have P0 : (N = kL) = False := eq_false (by omega)
  have P1 : (N = M) = False := eq_false (by omega)
  have P2 : (N = M + 1) = False := eq_false (by omega)
  have P3 : (kL = N) = False := eq_false (by omega)
  have P4 : (kL = M) = False := eq_false (by omega)
  have P5 : (kL = M + 1) = False := eq_false (by omega)
  have P6 : (M = N) = False := eq_false (by omega)
  have P7 : (M = kL) = False := eq_false (by omega)
  have P8 : (M = M + 1) = False := eq_false (by omega)
  have P9 : (M + 1 = N) = False := eq_false (by omega)
  have P10 : (M + 1 = kL) = False := eq_false (by omega)
  have P11 : (M + 1 = M) = False := eq_false (by omega)
  have P12 : ∀ d, (M2 + d = N) = False := fun d => eq_false (by omega)
  have P13 : ∀ d, (N = M2 + d) = False := fun d => eq_false (by omega)
  have P14 : ∀ d, (M2 + d = kL) = False := fun d => eq_false (by omega)
  have P15 : ∀ d, (kL = M2 + d) = False := fun d => eq_false (by omega)
  have P16 : ∀ d, (M2 + d = M) = False := fun d => eq_false (by omega)
  have P17 : ∀ d, (M = M2 + d) = False := fun d => eq_false (by omega)
  have P18 : ∀ d, (M2 + d = M + 1) = False := fun d => eq_false (by omega)
  have P19 : ∀ d, (M + 1 = M2 + d) = False := fun d => eq_false (by omega)
  generalize hCS : Value.slice a9 n n :: ST = CS at *
  generalize hCM : Value.slice b9 n n :: MT = CM at *
  simp only [↓R0, R1, simprocAttr, -Int.reduceAbs, rdS, t0, t4, t7, t8, t10, t11, t12, t13, t117, t118, c2'', bK, bM, bM1, bl, BLlen, d3, hi, st5, tS, tM, lS, lM, oS, oM, sS5, ovL, nle, P0, P1, P2, P3, P4, P5, P6, P7, P8, P9, P10, P11, P12, P13, P14, P15, P16, P17, P18, P19, Nat.zero_add, Nat.zero_mul, List.nil_append]
  obtain ⟨HP0, hHP⟩ : ∃ H : Heap, ((M2 + 1, some ⟨28, 5, false, BL2 ++ CS⟩) :: (kL, none) :: (M2 + 0, some ⟨28, 5, true, CS⟩) :: (kL, some ⟨28, 5, x2, BL2⟩) :: hp2 : Heap) = H := ⟨_, rfl⟩
  rw [hHP]
  obtain ⟨M3, hM3⟩ : ∃ x, x = M2 + 2 := ⟨_, rfl⟩
  rw [← hM3]
  have g0 : hget HP0 (M2 + 1) = some ⟨28, 5, false, BL2 ++ CS⟩ := by rw [← hHP]; exact if_pos rfl
  have xH0 : ExtL N h HP0 := fun q hq => by
    have nb := nbq q hq
    have nk : (kL = q) = False := eq_false (by omega)
    rw [← hHP]
    simp only [↓R0, R1, simprocAttr, -Int.reduceAbs, nb, nk]
    exact hh2 q hq
  have xT : ∀ q, M + 2 ≤ q → q < M2 → hget HP0 q = hget hp2 q := fun q h1 h2 => by
    have nb : ∀ d, (M2 + d = q) = False := fun d => eq_false (by omega)
    have nk : (kL = q) = False := eq_false (by omega)
    rw [← hHP]
    simp only [↓R0, R1, simprocAttr, -Int.reduceAbs, nb, nk]
  have rowsAt : ∀ hp', ExtL M3 HP0 hp' → decRows hp' (.slice (some ⟨M2 + 1, 0, none⟩) (l.length + 1) (l.length + 1)) = some (ivL n bq.v i0 j0 l.reverse) := fun hp' he => by
    have lst := hT.list (hp' := hp') (fun q h1 h2 => by rw [he q (by omega)]; exact xT q h1 h2)
    have e0 : BL2 ++ CS = blkC (fun q => if q < l.length then (if q = i0 then setR (f (l.length - 1 - q)) 0 CM else f (l.length - 1 - q)) else CS) (l.length + 1) := by
      rw [hBL2, blkC]
      congr 1
      · exact blkC_congr fun q hq => by rw [if_pos hq]
      · rw [if_neg (Nat.lt_irrefl _)]
    refine rows_blk (by rw [he (M2 + 1) (by omega), g0, e0]) ivn fun q hq => ?_
    by_cases q1 : q < l.length
    · rw [if_pos q1]
      by_cases q2 : q = i0
      · rw [if_pos q2, ivA q q1, if_pos q2, muc, hMT]
        refine ⟨_, ?_, lst.2⟩
        rw [hCM]
        have l5 := F5 q q1
        have l5 : (f (l.length - 1 - q)).length = 5 := l5
        match f (l.length - 1 - q), l5, CM, lM with
        | [_, _, _, _, _], _, [_, _, _, _, _], _ => rfl
      · rw [if_neg q2, ivA q q1, if_neg q2]
        obtain ⟨a', c', e5, hl⟩ := gp q q1
        exact ⟨_, e5, ext_rats hN hl (ext_tr (by omega) xH0 he)⟩
    · rw [if_neg q1]
      obtain rfl : q = l.length := by omega
      rw [ivB, suc, hST]
      exact ⟨_, hCS.symm, lst.1⟩
  clear hT F5 Fo gp so bset su5 mu5 suo muo sus mus hSU ivA ivB ivn
  obtain ⟨a_1, D_1, mm_1, kc_1, gq_1, hV_1, bd_1⟩ := solve_call2 (b := M3) (ext_rows hN hx xH0) sys
  obtain ⟨M_1, hM_1⟩ : ∃ x, x = M3 + mm_1 := ⟨_, rfl⟩
  have eM_1 : M3 + mm_1 = M_1 + 0 := by omega
  rw [show M3 + mm_1 = M_1 by omega] at hV_1 bd_1
  generalize eHP_1 : D_1 ++ HP0 = HP_1 at *
  have ac_1 : ∀ (d : Nat) (tm : List (Nat × Value)) (V : Value) (K : St → Prop), @aft (some d) (some (V, D_1, mm_1)) ⟨(⟨tm, HP0, M3⟩, K)⟩ = K ⟨(d, V) :: tm, HP_1, M_1 + 0⟩ := fun _ _ _ _ => by rw [← eM_1, ← eHP_1]; exact propext Iff.rfl
  have xH_1 : ExtL N h HP_1 := extL_up (M := M3) (by omega) xH0 gq_1
  have xM_1 : ExtL M3 HP0 HP_1 := fun q hq => gq_1 q (by omega)
  obtain ⟨a_2, D_2, mm_2, kc_2, gq_2, hV_2, bd_2⟩ := solve_call2 (b := M_1 + 0) (rowsAt HP_1 xM_1) sysC
  obtain ⟨M_2, hM_2⟩ : ∃ x, x = M_1 + 0 + mm_2 := ⟨_, rfl⟩
  have eM_2 : M_1 + 0 + mm_2 = M_2 + 0 := by omega
  rw [show M_1 + 0 + mm_2 = M_2 by omega] at hV_2 bd_2
  generalize eHP_2 : D_2 ++ HP_1 = HP_2 at *
  have ac_2 : ∀ (d : Nat) (tm : List (Nat × Value)) (V : Value) (K : St → Prop), @aft (some d) (some (V, D_2, mm_2)) ⟨(⟨tm, HP_1, M_1 + 0⟩, K)⟩ = K ⟨(d, V) :: tm, HP_2, M_2 + 0⟩ := fun _ _ _ _ => by rw [← eM_2, ← eHP_2]; exact propext Iff.rfl
  have xH_2 : ExtL N h HP_2 := extL_up (M := M_1 + 0) (by omega) xH_1 gq_2
  have xM_2 : ExtL M3 HP0 HP_2 := extL_up (M := M_1 + 0) (by omega) xM_1 gq_2
  obtain ⟨a_3, D_3, mm_3, kc_3, gq_3, hV_3, bd_3⟩ := free_call2 (b := M_2 + 0) (ext_rows hN hx xH_2) sys
  obtain ⟨M_3, hM_3⟩ : ∃ x, x = M_2 + 0 + mm_3 := ⟨_, rfl⟩
  have eM_3 : M_2 + 0 + mm_3 = M_3 + 0 := by omega
  rw [show M_2 + 0 + mm_3 = M_3 by omega] at hV_3
  generalize eHP_3 : D_3 ++ HP_2 = HP_3 at *
  have ac_3 : ∀ (d : Nat) (tm : List (Nat × Value)) (V : Value) (K : St → Prop), @aft (some d) (some (V, D_3, mm_3)) ⟨(⟨tm, HP_2, M_2 + 0⟩, K)⟩ = K ⟨(d, V) :: tm, HP_3, M_3 + 0⟩ := fun _ _ _ _ => by rw [← eM_3, ← eHP_3]; exact propext Iff.rfl
  have xH_3 : ExtL N h HP_3 := extL_up (M := M_2 + 0) (by omega) xH_2 gq_3
  have xM_3 : ExtL M3 HP0 HP_3 := extL_up (M := M_2 + 0) (by omega) xM_2 gq_3
  obtain ⟨a_4, D_4, mm_4, kc_4, gq_4, hV_4, bd_4⟩ := free_call2 (b := M_3 + 0) (rowsAt HP_3 xM_3) sysC
  obtain ⟨M_4, hM_4⟩ : ∃ x, x = M_3 + 0 + mm_4 := ⟨_, rfl⟩
  have eM_4 : M_3 + 0 + mm_4 = M_4 + 0 := by omega
  rw [show M_3 + 0 + mm_4 = M_4 by omega] at hV_4
  generalize eHP_4 : D_4 ++ HP_3 = HP_4 at *
  have ac_4 : ∀ (d : Nat) (tm : List (Nat × Value)) (V : Value) (K : St → Prop), @aft (some d) (some (V, D_4, mm_4)) ⟨(⟨tm, HP_3, M_3 + 0⟩, K)⟩ = K ⟨(d, V) :: tm, HP_4, M_4 + 0⟩ := fun _ _ _ _ => by rw [← eM_4, ← eHP_4]; exact propext Iff.rfl
  have xH_4 : ExtL N h HP_4 := extL_up (M := M_3 + 0) (by omega) xH_3 gq_4
  have xM_4 : ExtL M3 HP0 HP_4 := extL_up (M := M_3 + 0) (by omega) xM_3 gq_4
  have rk1 : ∀ {hp' : Heap}, ExtL N h hp' → spRank [.int .i64 n, .slice (some ⟨k0, f0, none⟩) l.length cc] hp' = some (.int .i64 (rankL n l)) := fun he => rank_of (ext_rows hN hx he) sys
  have rk2 : ∀ {hp' : Heap}, ExtL M3 HP0 hp' → spRank [.int .i64 n, .slice (some ⟨M2 + 1, 0, none⟩) (l.length + 1) (l.length + 1)] hp' = some (.int .i64 (rankL n l)) := fun he => by rw [rank_of (rowsAt _ he) sysC, o4]
  have xHt : ExtL N h HP_4 = True := eq_true xH_4
  have xMt : ExtL M3 HP0 HP_4 = True := eq_true xM_4
  rw [o1, o2] at kc_2
  rw [o2] at hV_2
  rw [o3] at kc_4 hV_4
  have lf := freeVL_le (n := n) (l := l)
  have la := solL_le (n := n) (l := l)
  have sm : spSame24 [.slice a_1 (solveL n l).2.length (solveL n l).2.length, .slice a_2 (solveL n l).2.length (solveL n l).2.length] HP_4 = some (.bool true) :=
    same24_of (hV_1 _ (fun q hq => by rw [gq_4 q (by omega), gq_3 q (by omega), gq_2 q (by omega)])) (hV_2 _ (fun q hq => by rw [gq_4 q (by omega), gq_3 q (by omega)])) (by rw [vq_len]; omega)
  generalize freeVL n l = FV at *
  generalize (solveL n l).2.length = LA at *
  generalize (solveL n l).1 = CD at *
  simp only [↓R0, R1, simprocAttr, -Int.reduceAbs, rdS, fx, t0, t4, t7, t8, t10, t11, t12, t13, t117, t118, kc_1, ac_1, kc_2, ac_2, kc_3, ac_3, kc_4, ac_4, dn, Bool.not_true, Bool.not_false]
  refine lp_parts (fun c tm hp nx => ∃ (i : Nat), c + i = FV.length ∧ tmget tm 0 = .slice (some ⟨k0, f0, none⟩) l.length cc ∧ tmget tm 7 = .int .i64 n ∧ tmget tm 8 = .slice (some ⟨M2 + 1, 0, none⟩) (l.length + 1) (l.length + 1) ∧ tmget tm 15 = .slice a_1 LA LA ∧ tmget tm 16 = .int .i64 CD ∧ tmget tm 17 = .slice a_2 LA LA ∧ tmget tm 18 = .int .i64 CD ∧ tmget tm 19 = .slice a_3 FV.length FV.length ∧ tmget tm 20 = .slice a_4 FV.length FV.length ∧ tmget tm 191 = .int .i64 FV.length ∧ tmget tm 192 = .int .i64 i ∧ hp = HP_4 ∧ nx = M_4 + 0) ?_ FV.length
    ⟨0, by omega, ?_, ?_, ?_, ?_, ?_, ?_, ?_, ?_, ?_, ?_, ?_, rfl, rfl⟩
  rotate_left
  all_goals first | (simp only [↓R0, R1, simprocAttr, -Int.reduceAbs, t0, t4, t7, t8, t10, t11, t12, t13, t117, t118]; done) | (simp only [↓R0, R1, simprocAttr, -Int.reduceAbs, t0, t4, t7, t8, t10, t11, t12, t13, t117, t118]; rfl) | skip
  clear t0 t4 t7 t8 t10 t11 t12 t13 t117 t118 kc_1 ac_1 kc_2 ac_2 kc_3 ac_3 kc_4 ac_4
  rintro c tm hp2 nx ⟨i, hni, t0, t7, t8, t15, t16, t17, t18, t19, t20, t191, t192, rfl, hnx⟩
  rw [hnx]
  clear hnx nx
  by_cases c2 : i < FV.length
  · have c2' : ((i : Int) < (FV.length : Int)) = True := eq_true (by omega)
    have w1 : IntKind.i64.wrap ((i : Int) + 1) = ((i + 1 : Nat) : Int) := by rw [i64_in _ (by omega)]; omega
    obtain ⟨k1, f1, B1, rfl, b1, q1, q2⟩ := int_at (hV_3 _ (fun q hq => gq_4 q (by omega))) c2
    obtain ⟨k2, f2, B2, rfl, b2, q3, q4⟩ := int_at (hV_4 _ (fun q hq => rfl)) c2
    have q2' := q2
    rw [Nat.mul_one] at q2'
    have q4' := q4
    rw [Nat.mul_one] at q4'
    simp only [↓R0, R1, simprocAttr, -Int.reduceAbs, rdS, t0, t7, t8, t15, t16, t17, t18, t19, t20, t191, t192, c2, c2', b1, b2, q1, q2, q2', q3, q4, q4', dn, w1, Bool.not_true, Bool.not_false]
    exact ⟨c - 1, by omega, i + 1, by omega, rfl⟩
  have ei : i = FV.length := by omega
  subst ei
  have c2' : ((FV.length : Int) < (FV.length : Int)) = False := eq_false (by omega)
  by_cases z14 : CD = 14
  · have z14' : (CD = 14) = True := eq_true z14
    simp only [↓R0, R1, simprocAttr, -Int.reduceAbs, rdS, fx, t0, t7, t8, t15, t16, t17, t18, t19, t20, t191, t192, c2', sm, z14', Fin, isEnd, resL, res1]
    exact ⟨_, rfl, rfl, xH_4⟩
  · have z14' : (CD = 14) = False := eq_false z14
    simp only [↓R0, R1, simprocAttr, -Int.reduceAbs, rdS, fx, t0, t7, t8, t15, t16, t17, t18, t19, t20, t191, t192, c2', sm, z14', rk1, rk2, xHt, xMt, Fin, isEnd, resL, res1]
    exact ⟨_, rfl, rfl, xH_4⟩
end Go.Eng
end
section
set_option linter.unusedVariables false
set_option linter.unusedSimpArgs false
set_option linter.unusedSectionVars false
namespace Go.Eng.K
open Go.Eng
inductive Ki where
  | b | i (k : IntKind) | s
def kiFs (ty : TypeId → Option (List Ki)) (P : Program) : List Field → Nat → Option (List Ki)
  | [], _ => some []
  | f :: r, off =>
    if f.name ≠ "_" ∧ f.offset = off then
      match ty f.type, szOf P f.type with
      | some ks, some n => if ks.length = n then (kiFs ty P r (off + n)).map (ks ++ ·) else none
      | _, _ => none
    else none
def kiTy (P : Program) : Nat → TypeId → Option (List Ki)
  | 0, _ => none
  | d + 1, t =>
    match P.underlying t with
    | some .bool => some [.b]
    | some (.int k) => some [.i k]
    | some .string => some [.s]
    | some (.struct fs) => if P.stoodInHeld t then none else kiFs (kiTy P d) P fs.toList 0
    | some (.array len e) => match kiTy P d e, szOf P e with
      | some ks, some n => if ks.length = n then some (List.replicate len ks).flatten else none
      | _, _ => none
    | _ => none
def kmatch : List Ki → List Value → Prop
  | [], [] => True
  | .b :: ks, .bool _ :: r => kmatch ks r
  | .i k :: ks, .int k' n :: r => (k' = k ∧ (Lit.int k n).wf = true) ∧ kmatch ks r
  | .s :: ks, .string s :: r => s.size ≤ maxLen ∧ kmatch ks r
  | _, _ => False
theorem kmatch_append : ∀ {ks ks' : List Ki} {cs cs' : List Value}, kmatch ks cs → kmatch ks' cs' → kmatch (ks ++ ks') (cs ++ cs')
  | [], _, [], _, _, h => h
  | [], _, _ :: _, _, h, _ => h.elim
  | .b :: ks, ks', cs, cs', h, h' => by
    match cs, h with
    | .bool _ :: r, h => exact kmatch_append (ks := ks) h h'
  | .i k :: ks, ks', cs, cs', h, h' => by
    match cs, h with
    | .int _ _ :: r, h => exact ⟨h.1, kmatch_append (ks := ks) h.2 h'⟩
  | .s :: ks, ks', cs, cs', h, h' => by
    match cs, h with
    | .string _ :: r, h => exact ⟨h.1, kmatch_append (ks := ks) h.2 h'⟩
section
variable {H : Type} {enc : TypeId × Value → H} {P : Program}
theorem cellsOf_sz {t : TypeId} {n : Nat} (h : szOf P t = some n) : P.cellsOf t = n := by
  unfold Program.cellsOf; unfold szOf at h; rw [h]; rfl
def Plain (P : Program) (enc : TypeId × Value → H) (fuel : Nat) (t : TypeId) (ks : List Ki) : Prop :=
  ∀ (w : World) (base : Nat) (spare : Nat → Bool) (held : Bool) (cs : List Value) (x : DataW H × List MemPlace), DataW.trod enc P w base spare held fuel t cs = some x →
    kmatch ks cs ∧ x.2 = [] ∧ ∀ w' base' spare' held', DataW.trod enc P w' base' spare' held' fuel t cs = some x
theorem plain_fields {fuel : Nat} {ty : TypeId → Option (List Ki)} (hty : ∀ t ks n, ty t = some ks → szOf P t = some n → ks.length = n → Plain P enc fuel t ks) :
    ∀ (fs : List Field) (off : Nat) (ks : List Ki), kiFs ty P fs off = some ks → ∀ (w : World) (base : Nat) (spare : Nat → Bool) (held : Bool) (cs : List Value) (xs : List (DataW H × List MemPlace)),
      (fs.mapM fun f => DataW.trod enc P w base spare held fuel f.type ((cs.drop f.offset).take (P.cellsOf f.type))) = some xs → cs.length = off + ks.length →
      kmatch ks (cs.drop off) ∧ xs.flatMap (·.2) = [] ∧ ∀ w' base' spare' held', (fs.mapM fun f => DataW.trod enc P w' base' spare' held' fuel f.type ((cs.drop f.offset).take (P.cellsOf f.type))) = some xs
  | [], off, ks, h, w, base, spare, held, cs, xs, hm, hl => by
    simp only [kiFs, Option.some.injEq] at h
    subst h
    simp only [List.mapM_nil, Option.pure_def, Option.some.injEq] at hm
    subst hm
    simp only [List.length_nil, Nat.add_zero] at hl
    rw [List.drop_eq_nil_of_le (by omega)]
    exact ⟨trivial, rfl, fun _ _ _ _ => rfl⟩
  | f :: r, off, ks, h, w, base, spare, held, cs, xs, hm, hl => by
    simp only [kiFs] at h
    split at h
    case isFalse => cases h
    rename_i hc
    obtain ⟨_, hoff⟩ := hc
    split at h
    case h_2 => cases h
    rename_i ks0 n hk hn
    split at h
    case isFalse => cases h
    rename_i hlen
    rw [Option.map_eq_some_iff] at h
    obtain ⟨ks1, h1, rfl⟩ := h
    have hsz := cellsOf_sz hn
    simp only [List.mapM_cons, Option.bind_eq_bind, Option.bind_eq_some_iff, Option.pure_def, Option.some.injEq] at hm
    obtain ⟨y, hy, ys, hys, rfl⟩ := hm
    have hp := hty f.type ks0 n hk hn hlen w base spare held _ y hy
    obtain ⟨p1, p2, p3⟩ := hp
    simp only [List.length_append] at hl
    obtain ⟨q1, q2, q3⟩ := plain_fields hty r (off + n) ks1 h1 w base spare held cs ys hys (by omega)
    rw [hoff, hsz] at p1
    refine ⟨?_, ?_, ?_⟩
    · have e : cs.drop off = (cs.drop off).take n ++ cs.drop (off + n) := by
        rw [← List.drop_drop, List.take_append_drop]
      rw [e]
      exact kmatch_append p1 q1
    · simp only [List.flatMap_cons, p2, q2, List.nil_append]
    · intro w' base' spare' held'
      simp only [List.mapM_cons, Option.bind_eq_bind, Option.bind_eq_some_iff, Option.pure_def, Option.some.injEq]
      exact ⟨y, p3 w' base' spare' held', ys, q3 w' base' spare' held', rfl⟩
theorem plain_elems {fuel : Nat} {e : TypeId} {ks : List Ki} {n : Nat} (hn : szOf P e = some n) (hl : ks.length = n) (he : Plain P enc fuel e ks) :
    ∀ (m i0 : Nat) (w : World) (base : Nat) (spare : Nat → Bool) (held : Bool) (cs : List Value) (xs : List (DataW H × List MemPlace)),
      ((List.range' i0 m).mapM fun i => DataW.trod enc P w base spare held fuel e ((cs.drop (i * P.cellsOf e)).take (P.cellsOf e))) = some xs → cs.length = (i0 + m) * n →
      kmatch (List.replicate m ks).flatten (cs.drop (i0 * n)) ∧ xs.flatMap (·.2) = [] ∧ ∀ w' base' spare' held', ((List.range' i0 m).mapM fun i => DataW.trod enc P w' base' spare' held' fuel e ((cs.drop (i * P.cellsOf e)).take (P.cellsOf e))) = some xs
  | 0, i0, w, base, spare, held, cs, xs, hm, hlen => by
    simp only [List.range'_zero, List.mapM_nil, Option.pure_def, Option.some.injEq] at hm
    subst hm
    simp only [Nat.add_zero] at hlen
    rw [List.drop_eq_nil_of_le (by omega)]
    exact ⟨trivial, rfl, fun _ _ _ _ => by simp⟩
  | m + 1, i0, w, base, spare, held, cs, xs, hm, hlen => by
    have hsz := cellsOf_sz hn
    simp only [List.range'_succ, List.mapM_cons, Option.bind_eq_bind, Option.bind_eq_some_iff, Option.pure_def, Option.some.injEq] at hm
    obtain ⟨y, hy, ys, hys, rfl⟩ := hm
    obtain ⟨p1, p2, p3⟩ := he w base spare held _ y hy
    obtain ⟨q1, q2, q3⟩ := plain_elems hn hl he m (i0 + 1) w base spare held cs ys hys (by rw [hlen]; congr 1; omega)
    rw [hsz] at p1
    refine ⟨?_, ?_, ?_⟩
    · rw [List.replicate_succ, List.flatten_cons]
      have e : cs.drop (i0 * n) = (cs.drop (i0 * n)).take n ++ cs.drop ((i0 + 1) * n) := by
        rw [Nat.succ_mul, ← List.drop_drop, List.take_append_drop]
      rw [e]
      exact kmatch_append p1 q1
    · simp only [List.flatMap_cons, p2, q2, List.nil_append]
    · intro w' base' spare' held'
      simp only [List.range'_succ, List.mapM_cons, Option.bind_eq_bind, Option.bind_eq_some_iff, Option.pure_def, Option.some.injEq]
      exact ⟨y, p3 w' base' spare' held', ys, q3 w' base' spare' held', rfl⟩
theorem plain_ty : ∀ (fuel d : Nat) (t : TypeId) (ks : List Ki) (n : Nat), kiTy P d t = some ks → szOf P t = some n → ks.length = n → Plain P enc fuel t ks
  | 0, d, t, ks, n, h, hn, hl => by intro w base spare held cs x hx; simp [DataW.trod] at hx
  | fuel + 1, 0, t, ks, n, h, hn, hl => by simp [kiTy] at h
  | fuel + 1, d + 1, t, ks, n, h, hn, hl => by
    intro w base spare held cs x hx
    unfold kiTy at h
    unfold DataW.trod at hx ⊢
    split at h
    · rename_i hu
      cases h
      rw [hu] at hx ⊢
      match cs, hx with
      | [.bool b], hx => simp only [Option.some.injEq] at hx; subst hx; exact ⟨trivial, rfl, fun _ _ _ _ => rfl⟩
    · rename_i k hu
      cases h
      rw [hu] at hx ⊢
      match cs, hx with
      | [.int k' m], hx =>
        simp only at hx
        split at hx
        · rename_i hc
          simp only [Option.some.injEq] at hx; subst hx
          exact ⟨⟨hc, trivial⟩, rfl, fun _ _ _ _ => by simp only; rw [if_pos hc]⟩
        · cases hx
    · rename_i hu
      cases h
      rw [hu] at hx ⊢
      match cs, hx with
      | [.string s], hx =>
        simp only at hx
        split at hx
        · rename_i hc
          simp only [Option.some.injEq] at hx; subst hx
          exact ⟨⟨hc, trivial⟩, rfl, fun _ _ _ _ => by simp only; rw [if_pos hc]⟩
        · cases hx
    · rename_i fs hu
      split at h
      · cases h
      rw [hu] at hx ⊢
      simp only at hx ⊢
      split at hx
      case isFalse => cases hx
      rename_i hlen
      rw [Option.map_eq_some_iff] at hx
      obtain ⟨xs, hxs, rfl⟩ := hx
      rw [cellsOf_sz hn, ← hl] at hlen
      obtain ⟨p1, p2, p3⟩ := plain_fields (fuel := fuel) (fun t ks n h1 h2 h3 => plain_ty fuel d t ks n h1 h2 h3) fs.toList 0 ks h w base spare held cs xs hxs (by omega)
      refine ⟨by simpa using p1, p2, fun w' base' spare' held' => ?_⟩
      rw [if_pos (by rw [cellsOf_sz hn, ← hl, hlen]), p3]; rfl
    · rename_i len e hu
      split at h
      case h_2 => cases h
      rename_i ks0 m hk hm
      split at h
      case isFalse => cases h
      rename_i hlm
      simp only [Option.some.injEq] at h
      subst h
      rw [hu] at hx ⊢
      simp only at hx ⊢
      split at hx
      case isFalse => cases hx
      rename_i hlen
      rw [Option.map_eq_some_iff] at hx
      obtain ⟨xs, hxs, rfl⟩ := hx
      rw [cellsOf_sz hn, ← hl] at hlen
      rw [List.range_eq_range'] at hxs
      have hfl : ((List.replicate len ks0).flatten).length = len * m := by rw [List.length_flatten]; simp [hlm]
      obtain ⟨p1, p2, p3⟩ := plain_elems hm hlm (plain_ty fuel d e ks0 m hk hm hlm) len 0 w base spare held cs xs hxs (by rw [hlen, hfl, Nat.zero_add])
      refine ⟨by simpa using p1, p2, fun w' base' spare' held' => ?_⟩
      rw [if_pos (by rw [cellsOf_sz hn, ← hl, hlen]), List.range_eq_range', p3]; rfl
    · cases h
theorem trod_plain {w : World} {t : TypeId} {v : Value} {d : DataW H} {ps : List MemPlace} {ks : List Ki} {n : Nat} {base : Nat} {spare : Nat → Bool} {held : Bool}
    (hf : kiTy P 20 t = some ks) (hs : szOf P t = some n) (hl : ks.length = n) (h : DataW.Trod enc P w base spare held t v d ps) :
    kmatch ks v.cells.toList ∧ ps = [] ∧ ∀ w' base' spare' held', DataW.Trod enc P w' base' spare' held' t v d ps := by
  obtain ⟨fuel, h⟩ := h
  obtain ⟨p1, p2, p3⟩ := plain_ty fuel 20 t ks n hf hs hl w base spare held _ _ h
  exact ⟨p1, p2, fun w' base' spare' held' => ⟨fuel, p3 w' base' spare' held'⟩⟩
end
theorem agg_of {v : Value} {cs : List Value} (h : v.cells.toList = cs) (h2 : 2 ≤ cs.length) : v = .agg ⟨cs⟩ := by
  rw [vcells_eq] at h
  cases v <;> simp [vcells] at h <;> subst h <;> first | rfl | simp at h2
theorem wf_u8 {n : Int} (h : (Lit.int .u8 n).wf = true) : 0 ≤ n ∧ n ≤ 255 := by simpa [Lit.wf, IntKind.min, IntKind.max, IntKind.signed, IntKind.bits] using h
end Go.Eng.K
end
section
set_option linter.unusedVariables false
set_option linter.unusedSimpArgs false
set_option linter.unusedSectionVars false
namespace Go.Eng.K
open Go.Eng
theorem vr_ex (β : Emb) : ∀ v : Value, ∃ a, VR β a v := by
  have key : ∀ (n : Nat) (v : Value), SizeOf.sizeOf v < n → ∃ a, VR β a v := by
    intro n
    induction n with
    | zero => intro v h; omega
    | succ n ih =>
      intro v h
      have list : ∀ l : List Value, (∀ x ∈ l, SizeOf.sizeOf x < n) → ∃ bs, VRs β bs l := by
        intro l
        induction l with
        | nil => intro _; exact ⟨[], .nil⟩
        | cons x r ihl =>
          intro hx
          obtain ⟨a, ha⟩ := ih x (hx x (List.mem_cons_self ..))
          obtain ⟨bs, hs⟩ := ihl (fun y hy => hx y (List.mem_cons_of_mem _ hy))
          exact ⟨a :: bs, .cons _ _ _ _ ha hs⟩
      by_cases ho : okCell v = true
      · exact ⟨.chan none, .junk none v ho⟩
      · match v, ho, h with
        | .agg ⟨l⟩, _, h =>
          obtain ⟨bs, hs⟩ := list l (fun x hx => by
            have := List.sizeOf_lt_of_mem hx
            simp only [Value.agg.sizeOf_spec, Array.mk.sizeOf_spec] at h
            omega)
          exact ⟨.agg ⟨bs⟩, .agg _ _ hs⟩
        | .tuple ⟨l⟩, _, h =>
          obtain ⟨bs, hs⟩ := list l (fun x hx => by
            have := List.sizeOf_lt_of_mem hx
            simp only [Value.tuple.sizeOf_spec, Array.mk.sizeOf_spec] at h
            omega)
          exact ⟨.tuple ⟨bs⟩, .tup _ _ hs⟩
  exact fun v => key (SizeOf.sizeOf v + 1) v (Nat.lt_succ_self _)
def mirE (W : World) : Emb := fun k => if k < W.heap.size then some ⟨k, 0, []⟩ else none
open Classical in
noncomputable def absV (W : World) (v : Value) : Value :=
  match v with
  | .slice (some a) len cap =>
    if len = 0 then .slice (some ⟨0, 0, some 1⟩) 0 0
    else if a.spot = none ∧ a.block < W.heap.size then .slice (some a) len cap
    else Classical.choose (vr_ex (mirE W) (.slice (some a) len cap))
  | v => if isBase v = true then v else Classical.choose (vr_ex (mirE W) v)
theorem absV_vr (W : World) (v : Value) : VR (mirE W) (absV W v) v := by
  unfold absV
  split
  · rename_i a len cap
    split
    · rename_i h; subst h; exact .sle _ _
    · split
      · rename_i h
        obtain ⟨b, off, s⟩ := a
        obtain ⟨h1, h2⟩ := h
        simp only at h1 h2
        subst h1
        exact VR.sl b off len cap ⟨b, 0, []⟩ (by unfold mirE; rw [if_pos h2])
      · exact Classical.choose_spec (vr_ex (mirE W) _)
  · split
    · rename_i h; exact .base _ h
    · exact Classical.choose_spec (vr_ex (mirE W) _)
theorem absV_base {W : World} {v : Value} (h : isBase v = true) : absV W v = v := by
  unfold absV
  split
  · simp [isBase] at h
  · rw [if_pos h]
theorem absV_map (W : World) : ∀ l : List Value, VRs (mirE W) (l.map (absV W)) l
  | [] => .nil
  | v :: r => .cons _ _ _ _ (absV_vr W v) (absV_map W r)
theorem absV_bases {W : World} : ∀ {l : List Value}, l.all isBase = true → l.map (absV W) = l
  | [], _ => rfl
  | v :: r, h => by
    simp only [List.all_cons, Bool.and_eq_true] at h
    rw [List.map_cons, absV_base h.1, absV_bases h.2]
noncomputable def mirB (W : World) (b : Nat) : Option Blk :=
  match W.heap[b]? with
  | some (.cells c elem _) => some ⟨elem, 0, true, c.toList.map (absV W)⟩
  | _ => none
noncomputable def mirror (W : World) : Heap := (List.range W.heap.size).map fun b => (b, mirB W b)
theorem hget_map {f : Nat → Option Blk} {k : Nat} : ∀ (l : List Nat), hget (l.map fun b => (b, f b)) k = if k ∈ l then f k else none
  | [] => rfl
  | b :: r => by
    simp only [List.map_cons, hget]
    by_cases e : b = k
    · subst e; simp
    · rw [if_neg e, hget_map r]
      simp [Ne.symm e]
theorem mir_get (W : World) (k : Nat) : hget (mirror W) k = mirB W k := by
  unfold mirror
  rw [hget_map]
  by_cases h : k < W.heap.size
  · rw [if_pos (List.mem_range.2 h)]
  · rw [if_neg (by simpa using h)]
    unfold mirB
    rw [Array.getElem?_eq_none (by omega)]
theorem mir_blk {W : World} {k : Nat} {blk : Blk} (h : hget (mirror W) k = some blk) : k < W.heap.size ∧ ∃ C fr, W.heap[k]? = some (.cells ⟨C⟩ blk.elem fr) ∧ blk.sz = 0 ∧ blk.cells = C.map (absV W) := by
  rw [mir_get] at h
  unfold mirB at h
  split at h
  · rename_i c elem fr hk
    cases h
    refine ⟨?_, c.toList, fr, hk, rfl, rfl⟩
    rcases Nat.lt_or_ge k W.heap.size with h | h
    · exact h
    · rw [Array.getElem?_eq_none h] at hk; cases hk
  · cases h
theorem mir_wr {W : World} {k : Nat} : ¬ wr (mirror W) k := fun ⟨blk, h1, h2⟩ => by
  obtain ⟨_, C, fr, _, h3, _⟩ := mir_blk h1
  exact h2 h3
theorem mir_rel (W : World) : Rel (mirE W) (mirror W) W := by
  refine ⟨fun k blk hk => ?_, fun k k' L L' _ b => absurd b mir_wr, fun k L h => ?_⟩
  · obtain ⟨h1, C, fr, h2, h3, h4⟩ := mir_blk hk
    refine ⟨⟨k, 0, []⟩, C, fr, by unfold mirE; rw [if_pos h1], by simpa using h2, fun h => absurd h3 h, by rw [h4]; exact absV_map W C, by simp, fun _ => rfl⟩
  · unfold mirE at h
    split at h
    · rename_i hk; cases h; exact hk
    · cases h
theorem mir_calls {P : Program} {f : Nat} {S : List Value → Heap → Nat → Option Out} (hS : SpecOK P f S) {W : World} {aargs args : List Value} {v : Value} (h : S aargs (mirror W) W.heap.size = some (v, [], 0))
    (ha : VRs (mirE W) aargs args) (hv : isBase v = true) :
    Calls P f ⟨args⟩ W fun e W' => e = .returned v ∧ W'.os = W.os ∧ W'.output = W.output ∧ ∀ b, b < W.heap.size → W'.heap[b]? = W.heap[b]? := by
  have h := hS.ok aargs (mirror W) W.heap.size (v, [], 0) h (mirE W) W args ha (mir_rel W) (fun k h1 h2 => by simp only at h2; omega)
    ⟨W.heap.size, fun k hk => by
      rcases Nat.lt_or_ge k W.heap.size with h | h
      · exact h
      · exact absurd (by unfold mirE; rw [if_neg (by omega)]) hk⟩
  refine h.mono ?_
  rintro e W' ⟨β', v', he, hvr, hrel, hfr, _⟩
  exact ⟨by rw [he, hvr.base_left hv], hfr.os, hfr.out, fun b hb => hfr.keep b hb (fun k L hk => absurd hk mir_wr)⟩
theorem kept_of {W W' : World} (h1 : W'.os = W.os) (h2 : W'.output = W.output) (h3 : ∀ b, b < W.heap.size → W'.heap[b]? = W.heap[b]?) : W.keptBut W' (fun _ => False) := by
  refine ⟨h1, h2, fun i hi => ?_⟩
  rw [h3 i hi]
  cases W.heap[i]? with
  | none => rfl
  | some o =>
    cases o with
    | cells c t fr => exact ⟨rfl, rfl, rfl, fun _ _ => rfl⟩
    | map es cl => exact .inr ⟨rfl, rfl⟩
    | _ => rfl
section
variable {H : Type} {enc : TypeId × Value → H} {P : Program}
theorem trodAll_old {W W' : World} (hs : ∀ b, b < W.heap.size → W'.heap[b]? = W.heap[b]?) {base : Nat} {sp : Nat → Bool} {held : Bool} :
    ∀ {ts : List TypeId} {vs : List Value} {ds : List (DataW H)} {ps : List MemPlace}, DataW.TrodAll enc P W base sp held ts vs ds ps → DataW.TrodAll enc P W' base sp held ts vs ds ps
  | [], [], [], _, h => h
  | t :: ts, v :: vs, d :: ds, ps, ⟨p, q, ⟨n, h1⟩, h2, e⟩ => by
    have lt := DataW.trod_lt n _ _ _ h1
    refine ⟨p, q, ⟨n, DataW.trod_carry n _ _ _ h1 (fun x hx => ?_)⟩, trodAll_old hs h2, e⟩
    have hb := lt x hx
    cases x with
    | cell b off => simp only [MemPlace.block] at hb; simp only [World.sameAt, World.cell?, hs b hb]
    | map b => simp only [MemPlace.block] at hb; simp only [World.sameAt, hs b hb]
  | [], [], _ :: _, _, h => h.elim
  | [], _ :: _, _, _, h => by cases h
  | _ :: _, [], _, _, h => by cases h
  | _ :: _, _ :: _, [], _, h => by cases h
theorem args_again {W W' : World} (hl : laidOutB P = true) (hm : mapsRowed P = true) (hz : ((List.range P.types.size).all fun t => match P.underlying t with | some (.slice e) => decide (0 < P.cellsOf e) | _ => true) = true)
    (hs : ∀ b, b < W.heap.size → W'.heap[b]? = W.heap[b]?) {ts : List TypeId} (ht : ts.all (fun t => decide (t < P.types.size)) = true) {vs : List Value} {ds : List (DataW H)} {ps : List MemPlace} (h : DataW.TrodAll enc P W 0 (fun _ => true) true ts vs ds ps) :
    DataW.TrodAll enc P W' 0 (fun b => decide (b < W.heap.size)) true ts vs ds ps := by
  refine DataW.TrodAll.respare (kids_rows hl hm) (slices_full_of P hz) (fun t h => of_decide_eq_true (List.all_eq_true.1 ht t h)) (trodAll_old hs h) (fun p hp => ?_)
  exact decide_eq_true (DataW.TrodAll.lt h p hp)
theorem mir_at {W : World} {a : Addr} {n : Nat} {cs : List Value} (hn : 0 < n) (h : W.cells? 0 a n = some cs) :
    a.spot = none ∧ a.block < W.heap.size ∧ ∃ blk, hget (mirror W) a.block = some blk ∧ a.off + n ≤ blk.cells.length ∧ (blk.cells.drop a.off).take n = cs.map (absV W) := by
  obtain ⟨_, hlen, hc⟩ := World.cells?_some h
  have h0 := hc 0 hn
  rw [List.getElem?_eq_getElem (by omega)] at h0
  have e0 : a.add 0 = a := rfl
  rw [e0] at h0
  unfold World.cell? at h0
  split at h0
  case h_2 => cases h0
  rename_i c elem fr hk
  split at h0
  case isTrue => cases h0
  rename_i hsp
  have hspot : a.spot = none := by cases h : a.spot with | none => rfl | some s => rw [h] at hsp; simp at hsp
  have hlt : a.block < W.heap.size := by
    rcases Nat.lt_or_ge a.block W.heap.size with h | h
    · exact h
    · rw [Array.getElem?_eq_none h] at hk; cases hk
  have cell : ∀ i, i < n → c.toList[a.off + i]? = cs[i]? := fun i hi => by
    have := hc i hi
    rw [← this]
    have ea : a.add i = ⟨a.block, a.off + i, none⟩ := by
      unfold Addr.add
      split
      · rename_i h0; subst h0; cases a; simp_all
      · rfl
    rw [ea]
    simp only [World.cell?, hk]
    simp
  have hle : a.off + n ≤ c.toList.length := by
    have := cell (n - 1) (by omega)
    rw [List.getElem?_eq_getElem (by omega : n - 1 < cs.length)] at this
    have := (List.getElem?_eq_some_iff.1 this).1
    omega
  refine ⟨hspot, hlt, ⟨elem, 0, true, c.toList.map (absV W)⟩, ?_, by simpa using hle, ?_⟩
  · rw [mir_get]; unfold mirB; rw [hk]
  · refine List.ext_getElem? fun i => ?_
    rw [List.getElem?_take]
    by_cases hi : i < n
    · rw [if_pos hi, List.getElem?_drop, List.getElem?_map, List.getElem?_map, cell i hi]
    · rw [if_neg hi, List.getElem?_eq_none (by simp; omega)]
theorem many_ex {α : Type} {sz : Nat} {dec : List Value → Option α} : ∀ (l : Nat) (cs : List Value), (∀ i, i < l → ∃ x, dec ((cs.drop (i * sz)).take sz) = some x) → ∃ xs, many sz dec l cs = some xs
  | 0, cs, _ => ⟨[], rfl⟩
  | l + 1, cs, h => by
    obtain ⟨x, hx⟩ := h 0 (by omega)
    simp only [Nat.zero_mul, List.drop_zero] at hx
    obtain ⟨xs, hxs⟩ := many_ex l (cs.drop sz) (fun i hi => by
      obtain ⟨y, hy⟩ := h (i + 1) (by omega)
      refine ⟨y, ?_⟩
      rw [List.drop_drop, ← hy, Nat.succ_mul, Nat.add_comm (i * sz) sz])
    refine ⟨x :: xs, ?_⟩
    unfold many
    simp only [hx, hxs]
theorem mir_list {W : World} {α : Type} {dec : List Value → Option α} {t e : TypeId} {n fuel : Nat} {held : Bool} {sv : Value} {x : DataW H × List MemPlace} (ht : P.underlying t = some (.slice e)) (hsz : P.cellsOf e = n) (hn : 0 < n)
    (h : DataW.trod enc P W 0 (fun _ => true) held fuel t [sv] = some x)
    (hdec : ∀ (m : Nat) (cs : List Value) (y : DataW H × List MemPlace), DataW.trod enc P W 0 (fun _ => true) held m e cs = some y → ∃ z, dec (cs.map (absV W)) = some z) :
    ∃ xs, listAt n dec (mirror W) (absV W sv) = some xs ∧ xs.length ≤ maxLen := by
  rcases Go.Deep.open_slice ht h with ⟨h1, _⟩ | ⟨a, len, cap, m, k, D, Pl, h1, _, hl, hm, hmm, _, hx⟩
  · simp only [List.cons.injEq, and_true] at h1
    subst h1
    exact ⟨[], by rw [absV_base rfl]; rfl, by simp⟩
  · simp only [List.cons.injEq, and_true] at h1
    subst h1
    simp only [if_true] at hmm
    subst hmm
    rw [hsz] at hx
    by_cases h0 : len = 0
    · subst h0
      exact ⟨[], by unfold absV; simp only [if_true]; rfl, by simp⟩
    · obtain ⟨c0, hc0, _⟩ := hx 0 (by omega)
      rw [Nat.zero_mul] at hc0
      obtain ⟨s1, s2, blk, s3, _, _⟩ := mir_at hn hc0
      have ev : absV W (.slice (some a) len m) = .slice (some a) len m := by unfold absV; simp only; rw [if_neg h0, if_pos ⟨s1, s2⟩]
      obtain ⟨b, off, sp⟩ := a
      replace s1 : sp = none := s1
      replace s3 : hget (mirror W) b = some blk := s3
      subst s1
      have cell : ∀ i, i < len → ∃ cs, off + i * n + n ≤ blk.cells.length ∧ (blk.cells.drop (off + i * n)).take n = cs.map (absV W) ∧ ∃ y, DataW.trod enc P W 0 (fun _ => true) held k e cs = some y := fun i hi => by
        obtain ⟨cs, hc, hy⟩ := hx i (by omega)
        obtain ⟨q1, q2, blk', q3, q4, q5⟩ := mir_at hn hc
        have ea : (⟨b, off, none⟩ : Addr).add (i * n) = ⟨b, off + i * n, none⟩ := add_none _ _ _
        rw [ea] at q3 q4 q5
        replace q3 : hget (mirror W) b = some blk' := q3
        replace q4 : off + i * n + n ≤ blk'.cells.length := q4
        replace q5 : (blk'.cells.drop (off + i * n)).take n = cs.map (absV W) := q5
        rw [s3] at q3; cases q3
        exact ⟨cs, q4, q5, _, hy⟩
      have hle : off + len * n ≤ blk.cells.length := by
        obtain ⟨_, q, _⟩ := cell (len - 1) (by omega)
        obtain ⟨l', rfl⟩ : ∃ l', len = l' + 1 := ⟨len - 1, by omega⟩
        simp only [Nat.add_sub_cancel] at q
        rw [Nat.succ_mul]; omega
      have la : lay n (mirror W) (.slice (some ⟨b, off, none⟩) len m) = some ((blk.cells.drop off).take (len * n)) := by
        obtain ⟨l', rfl⟩ : ∃ l', len = l' + 1 := ⟨len - 1, by omega⟩
        unfold lay
        simp only [s3]
        rw [if_pos ⟨hl, hle⟩]
      obtain ⟨xs, hxs⟩ := many_ex (sz := n) (dec := dec) len ((blk.cells.drop off).take (len * n)) (fun i hi => by
        obtain ⟨cs, q1, q2, y, q3⟩ := cell i hi
        obtain ⟨z, hz⟩ := hdec k cs y q3
        refine ⟨z, ?_⟩
        rw [List.drop_take, List.take_take, List.drop_drop]
        have : n ≤ len * n - i * n := by rw [← Nat.sub_mul]; exact Nat.le_mul_of_pos_left _ (by omega)
        rw [Nat.min_eq_left this, q2]
        exact hz)
      refine ⟨xs, ?_, ?_⟩
      · rw [ev]
        unfold listAt
        rw [la]
        exact hxs
      · rw [(many_get hxs).1]; omega
theorem kmatch_base : ∀ {ks : List Ki} {cs : List Value}, kmatch ks cs → cs.all isBase = true
  | [], [], _ => rfl
  | .b :: ks, cs, h => by
    match cs, h with
    | .bool _ :: r, h => simp only [List.all_cons, isBase, Bool.true_and]; exact kmatch_base (ks := ks) h
  | .i k :: ks, cs, h => by
    match cs, h with
    | .int _ _ :: r, h => simp only [List.all_cons, isBase, Bool.true_and]; exact kmatch_base (ks := ks) h.2
  | .s :: ks, cs, h => by
    match cs, h with
    | .string _ :: r, h => simp only [List.all_cons, isBase, Bool.true_and]; exact kmatch_base (ks := ks) h.2
end
end Go.Eng.K
end
section
set_option linter.unusedVariables false
set_option linter.unusedSimpArgs false
set_option linter.unusedSectionVars false
namespace Go.Eng
structure Pt where
  (s1 : Bool) (l1 : List UInt8) (s2 : Bool) (l2 : List UInt8) (s3 : Bool) (l3 : List UInt8) (s4 : Bool) (l4 : List UInt8)
deriving DecidableEq
namespace Pt
def cells (p : Pt) : List Value := [.bool p.s1, .string ⟨⟨p.l1⟩⟩, .bool p.s2, .string ⟨⟨p.l2⟩⟩, .bool p.s3, .string ⟨⟨p.l3⟩⟩, .bool p.s4, .string ⟨⟨p.l4⟩⟩]
def x (p : Pt) : Int := sv p.s1 p.l1
def y (p : Pt) : Int := sv p.s2 p.l2
def z (p : Pt) : Int := sv p.s3 p.l3
def w (p : Pt) : Int := sv p.s4 p.l4
def cmp (p q : Pt) : Int := cmp4 p.x p.y p.z p.w q.x q.y q.z q.w
def on (p q r : Pt) : Prop := flt p.x p.y p.z p.w q.x q.y q.z q.w r.x r.y r.z r.w
instance {p q r : Pt} : Decidable (on p q r) := by unfold on; infer_instance
def ok (p : Pt) : Prop := (p.l1.length ≤ 65536 ∧ p.l2.length ≤ 65536 ∧ p.l3.length ≤ 65536 ∧ p.l4.length ≤ 65536) ∧ 0 < p.w
instance {p : Pt} : Decidable p.ok := by unfold ok; infer_instance
def hi (p q : Pt) : Pt := if 0 < cmp p q then p else q
end Pt
end Go.Eng
end
section
set_option linter.unusedVariables false
set_option linter.unusedSimpArgs false
set_option linter.unusedSectionVars false
namespace Go.Eng
namespace Pt
def dflt : Pt := ⟨false, [], false, [], false, [], false, []⟩
def sz (k : Nat) (p : Pt) : Prop := p.l1.length ≤ k ∧ p.l2.length ≤ k ∧ p.l3.length ≤ k ∧ p.l4.length ≤ k
instance {k : Nat} {p : Pt} : Decidable (p.sz k) := by unfold sz; infer_instance
def c1 (p : Pt) : List Value := [.bool p.s1, .string ⟨⟨p.l1⟩⟩]
def c2 (p : Pt) : List Value := [.bool p.s2, .string ⟨⟨p.l2⟩⟩]
def c3 (p : Pt) : List Value := [.bool p.s3, .string ⟨⟨p.l3⟩⟩]
theorem g1 (p : Pt) : p.cells.take 2 = p.c1 := rfl
theorem g2 (p : Pt) : (p.cells.drop 2).take 2 = p.c2 := rfl
theorem g3 (p : Pt) : (p.cells.drop 4).take 2 = p.c3 := rfl
end Pt
def ptAt (l : List Pt) (i : Nat) : Pt := (l[i]?).getD Pt.dflt
def awx (a b : Pt) : Int := b.x * a.w - a.x * b.w
def awy (a b : Pt) : Int := b.y * a.w - a.y * b.w
def awz (a b : Pt) : Int := b.z * a.w - a.z * b.w
def lftZ (P a b x : Pt) : Int :=
  0 + P.x * (awy a b * awz a x - awz a b * awy a x) + P.y * (awz a b * awx a x - awx a b * awz a x) + P.z * (awx a b * awy a x - awy a b * awx a x)
def turnsP (P : Pt) (l : List Pt) : Prop := ∀ i, i < l.length → ∀ j, j < l.length → j ≠ i → j ≠ (i + 1) % l.length → 0 < lftZ P (ptAt l i) (ptAt l ((i + 1) % l.length)) (ptAt l j)
instance {P : Pt} {l : List Pt} : Decidable (turnsP P l) := by unfold turnsP; infer_instance
end Go.Eng
end
section
set_option linter.unusedVariables false
set_option linter.unusedSimpArgs false
set_option linter.unusedSectionVars false
namespace Go.Eng.K
open Go.Eng
section
variable {H : Type} {enc : TypeId × Value → H} {P : Program}
theorem trod_struct {w : World} {base : Nat} {spare : Nat → Bool} {held : Bool} {fuel : Nat} {t : TypeId} {cs : List Value} {x : DataW H × List MemPlace} {fs : Array Field} (hu : P.underlying t = some (.struct fs))
    (h : DataW.trod enc P w base spare held fuel t cs = some x) :
    cs.length = P.cellsOf t ∧ ∃ fuel' xs, fs.toList.mapM (fun f => DataW.trod enc P w base spare held fuel' f.type ((cs.drop f.offset).take (P.cellsOf f.type))) = some xs ∧ x = (.agg (xs.map (·.1)), xs.flatMap (·.2)) := by
  cases fuel with
  | zero => simp [DataW.trod] at h
  | succ fuel =>
    unfold DataW.trod at h
    rw [hu] at h
    simp only at h
    split at h
    case isFalse => cases h
    rename_i hl
    rw [Option.map_eq_some_iff] at h
    obtain ⟨xs, hx, rfl⟩ := h
    exact ⟨hl, fuel, xs, hx, rfl⟩
def sumL : List Nat → Nat
  | [] => 0
  | x :: r => x + sumL r
variable (bulk : DataW H → Nat) (b1 : ∀ b : List UInt8, b.length ≤ bulk (.lit (.string b))) (b2 : ∀ ps : List (DataW H), sumL (ps.map bulk) ≤ bulk (.agg ps))
include b1 b2 in
include b1 b2 in
end
end Go.Eng.K
end
section
set_option linter.unusedVariables false
set_option linter.unusedSimpArgs false
set_option linter.unusedSectionVars false
namespace Go.Eng.K
open Go.Eng Go.WideShapes
section
variable {H : Type} {enc : TypeId × Value → H} {P : Program}
theorem km_q {cs : List Value} (h : kmatch [.b, .s, .s] cs) : ∃ q : RQ, cs = q.cells := by
  match cs, h with
  | [.bool s, .string ⟨⟨n⟩⟩, .string ⟨⟨d⟩⟩], _ => exact ⟨⟨s, n, d⟩, rfl⟩
theorem km_i {k : IntKind} {cs : List Value} (h : kmatch [.i k] cs) : ∃ n, cs = [.int k n] := by
  match cs, h with
  | [.int k' n], h => obtain ⟨⟨rfl, _⟩, _⟩ := h; exact ⟨n, rfl⟩
theorem km_uu {cs : List Value} (h : kmatch [.i .u8, .i .u8] cs) : ∃ a b, cs = [.int .u8 a, .int .u8 b] ∧ (0 ≤ a ∧ a ≤ 255) ∧ (0 ≤ b ∧ b ≤ 255) := by
  match cs, h with
  | [.int ka a, .int kb b], h =>
    obtain ⟨⟨rfl, ha⟩, ⟨rfl, hb⟩, _⟩ := h
    exact ⟨a, b, rfl, wf_u8 ha, wf_u8 hb⟩
theorem rats_trod {W : World} {fuel : Nat} {tv tq : TypeId} {sv : Value} {x : DataW H × List MemPlace} (hv : P.underlying tv = some (.slice tq)) (hq : kiTy P 20 tq = some [.b, .s, .s]) (hs : szOf P tq = some 3)
    (h : DataW.trod enc P W 0 (fun _ => true) true fuel tv [sv] = some x) : ∃ l, listAt 3 dec1 (mirror W) (absV W sv) = some l ∧ l.length ≤ maxLen :=
  mir_list (dec := dec1) (n := 3) hv (cellsOf_sz hs) (by omega) h (fun m cs y hy => by
    obtain ⟨km, _, _⟩ := plain_ty m 20 tq _ 3 hq hs rfl W 0 _ true _ y hy
    obtain ⟨q, eq⟩ := km_q km
    rw [absV_bases (kmatch_base km), eq]
    exact ⟨q, rfl⟩)
theorem five {l : List Value} (h : l.length = 5) : ∃ a b c d e, l = [a, b, c, d, e] := by
  match l, h with
  | [a, b, c, d, e], _ => exact ⟨a, b, c, d, e, rfl⟩
theorem open_eqs {W : World} {base : Nat} {t te tc tq ti : TypeId} {n1 n2 n3 g1 g2 g3 q1 q2 q3 : String} {b1 b2 b3 c1 c2 c3 : _} {v : Value} {d : DataW H} {ps : List MemPlace} (ht : P.underlying t = some (.slice te))
    (hu : P.underlying te = some (.struct #[⟨n1, tc, 0, b1, g1, q1, c1⟩, ⟨n2, tq, 1, b2, g2, q2, c2⟩, ⟨n3, ti, 4, b3, g3, q3, c3⟩])) (hce : P.cellsOf te = 5) (hv : P.underlying tc = some (.slice tq)) (hcc : P.cellsOf tc = 1)
    (hq : kiTy P 20 tq = some [.b, .s, .s]) (hs : szOf P tq = some 3) (hi : kiTy P 20 ti = some [.i .i64]) (hsi : szOf P ti = some 1)
    (hval : Value.okWide P W .any base t v) (h : DataW.Trod enc P W 0 (fun _ => true) true t v d ps) : ∃ l, decRows (mirror W) (absV W v) = some l ∧ l.length ≤ maxLen := by
  obtain ⟨a, len, cap, rfl⟩ := okWide_slice ht hval
  obtain ⟨fuel, h⟩ := h
  unfold decRows
  refine mir_list (dec := decEq (mirror W)) (n := 5) ht hce (by omega) h (fun m cs y hy => ?_)
  obtain ⟨hl, fuel', xs, hx, _⟩ := trod_struct hu hy
  rw [hce] at hl
  simp only [List.mapM_cons, List.mapM_nil, Option.bind_eq_bind, Option.bind_eq_some_iff, Option.pure_def, Option.some.injEq] at hx
  obtain ⟨y1, hy1, ys, ⟨y2, hy2, zs, ⟨y3, hy3, _⟩, _⟩, _⟩ := hx
  have e3 : P.cellsOf tq = 3 := cellsOf_sz hs
  have e1 : P.cellsOf ti = 1 := cellsOf_sz hsi
  rw [hcc] at hy1
  rw [e3] at hy2
  rw [e1] at hy3
  obtain ⟨k0, k1, k2, k3, k4, rfl⟩ := five hl
  have hy1 : DataW.trod enc P W 0 (fun _ => true) true fuel' tc [k0] = some y1 := hy1
  have hy2 : DataW.trod enc P W 0 (fun _ => true) true fuel' tq [k1, k2, k3] = some y2 := hy2
  have hy3 : DataW.trod enc P W 0 (fun _ => true) true fuel' ti [k4] = some y3 := hy3
  obtain ⟨l, hl1, _⟩ := rats_trod hv hq hs hy1
  obtain ⟨km, _, _⟩ := plain_ty fuel' 20 tq _ 3 hq hs rfl W 0 _ true _ y2 hy2
  obtain ⟨q, eq⟩ := km_q km
  obtain ⟨ki, _, _⟩ := plain_ty fuel' 20 ti _ 1 hi hsi rfl W 0 _ true _ y3 hy3
  obtain ⟨n, en⟩ := km_i ki
  simp only [RQ.cells, List.cons.injEq, and_true] at eq en
  obtain ⟨rfl, rfl, rfl⟩ := eq
  subst en
  refine ⟨⟨l, q, n⟩, ?_⟩
  simp only [List.map_cons, List.map_nil]
  rw [absV_base (v := .bool q.s) rfl, absV_base (v := .string ⟨⟨q.n⟩⟩) rfl, absV_base (v := .string ⟨⟨q.d⟩⟩) rfl, absV_base (v := .int .i64 n) rfl]
  exact decEq_of (e := ⟨l, q, n⟩) hl1
end
end Go.Eng.K
end
