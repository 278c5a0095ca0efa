/-
  A part of the proof: the machine, the contracts of the functions and the plain laws, merged from smaller texts.
-/
import Derived.Test.YtmhjnlcmmokniaaGreatDoorRs4
section
set_option linter.unusedVariables false
set_option linter.unusedSimpArgs false
set_option linter.unusedSectionVars false
set_option maxRecDepth 20000
namespace Go.Eng
open Go Go.Proofs Go.IntWalk
def smallQ (q : RQ) : Prop := q.n.length ≤ 4 ∧ q.d.length ≤ 4
instance {q : RQ} : Decidable (smallQ q) := by unfold smallQ; infer_instance
def smallE (e : EqR) : Prop := e.coef.length ≤ 10 ∧ ∀ q ∈ e.coef ++ [e.rhs], smallQ q
instance {e : EqR} : Decidable (smallE e) := by unfold smallE; infer_instance
def smallS (n : Int) (l : List EqR) : Prop := ¬ (8 < n ∧ n ≤ 100) ∧ ¬ (10 < l.length ∧ l.length ≤ 100) ∧ ∀ e ∈ l, smallE e
instance {n : Int} {l : List EqR} : Decidable (smallS n l) := by unfold smallS; infer_instance
theorem smallS.sys {n : Int} {l : List EqR} (h : smallS n l) : SysOK n l := fun c => by
  unfold chkL at c
  split at c
  · cases c
  rename_i h1
  split at c
  case isFalse => cases c
  rename_i h2
  obtain ⟨a, b, d⟩ := h
  refine ⟨by omega, by omega, by omega, fun e he => by have := h2 e he; omega, fun e he => ?_⟩
  obtain ⟨_, h4⟩ := d e he
  have f : ∀ q, smallQ q → q.ok 399 := fun q hq => ⟨by have := hq.1; omega, by have := hq.2; omega⟩
  exact ⟨fun q hq => f q (h4 q (List.mem_append_left _ hq)), f _ (h4 _ (List.mem_append_right _ (List.mem_singleton.2 rfl)))⟩
theorem src_any {h : Heap} {a : Option Addr} {n c : Nat} {l : List RQ} (e : listAt 3 dec1 h (.slice a n c) = some l) : srcOf h 3 n a = some (rqs l) := by
  cases a with
  | some ad => exact src_of e
  | none =>
    obtain ⟨rfl, rfl⟩ := nil_list e
    have hl : l = [] := by
      obtain ⟨a', c', x⟩ := listAt_sl e
      injection x with _ x2 _
      exact List.eq_nil_of_length_eq_zero x2.symm
    subst hl
    rfl
def spGreat : List Value → Heap → Option Value
  | [.int .i64 n, sl], h => match decRows h sl with
    | some l => if l.length ≤ 9223372036854775807 then some (.int .i64 (if smallS n l then 0 else 1)) else none
    | none => none
  | _, _ => none
def c4 : ICode :=
  (.seq (.reg [qq 4 (.mv (ci 0))]) (.seq (.seq (.reg [qq 9 (.mv (.t 0)), qq 10 (.bin .gtr (.t 9) (ci 8)), qq 11 (.mv (.t 10)), ⟨(some 12), (some (11, true)), (.mv (.t 0))⟩, ⟨(some 13), (some (11, true)), (.bin .leq (.t 12) (ci 100))⟩, qq 14 (.pick (.t 11) (.t 13) (.c (.bool false))), qq 15 (.mv (.t 14)), ⟨(some 16), (some (15, false)), (.mv (.t 1))⟩, ⟨(some 17), (some (15, false)), (.lensl (.t 16))⟩, ⟨(some 18), (some (15, false)), (.bin .gtr (.t 17) (ci 10))⟩, ⟨(some 19), (some (15, false)), (.mv (.t 18))⟩, ⟨(some 20), (some (19, true)), (.mv (.t 1))⟩, ⟨(some 21), (some (19, true)), (.lensl (.t 20))⟩, ⟨(some 22), (some (19, true)), (.bin .leq (.t 21) (ci 100))⟩, ⟨(some 23), (some (15, false)), (.pick (.t 19) (.t 22) (.c (.bool false)))⟩, qq 24 (.pick (.t 15) (.c (.bool true)) (.t 23))]) (.cond (.t 24) (.seq (.reg [qq 4 (.mv (ci 1))]) .ret) .skip)) (.seq (.seq (.reg [qq 25 (.mv (.t 1)), qq 26 (.lensl (.t 25)), qq 27 (.mv (ci 0))]) (.block 0 (.loop (.seq (.reg [qq 28 (.bin .lss (.t 27) (.t 26))]) (.seq (.cond (.t 28) .skip (.exit 0)) (.seq (.block 1 (.seq (.reg [qq 29 (.ixsl 5 (.t 25) (.t 27)), qq 30 (.load true 5 (.t 29)), qq 6 (.alloc 37 5 [(.slice none 0 0), (.bool false), e0, e0, (.int .i64 0)]), qn (.store 5 (.t 6) (.t 30))]) (.seq (.seq (.reg [qq 31 (.faddr 0 (.t 6)), qq 32 (.load false 1 (.t 31)), qq 33 (.lensl (.t 32)), qq 34 (.bin .gtr (.t 33) (ci 10))]) (.cond (.t 34) (.seq (.reg [qq 4 (.mv (ci 1))]) .ret) .skip)) (.seq (.dreg [qu 35 (.bslice 35 3 0 [] []), qu 36 (.faddr 0 (.t 6)), qv 37 [0] (.load false 1 (.t 36)), qu 38 (.app 35 3 40 (.t 35) (.t 37)), qu 39 (.faddr 1 (.t 6)), qv 40 [0, 3] (.load true 3 (.t 39)), qu 41 (.bslice 35 3 1 [(.bool false), e0, e0] [(0, 3, (.t 40))]), qu 42 (.app 35 3 40 (.t 38) (.t 41)), qu 43 (.lensl (.t 42)), qu 44 (.mv (ci 0))]) (.block 2 (.loop (.seq (.reg [qq 45 (.bin .lss (.t 44) (.t 43))]) (.seq (.cond (.t 45) .skip (.exit 2)) (.seq (.block 3 (.seq (.reg [qq 46 (.ixsl 3 (.t 42) (.t 44)), qq 47 (.load true 3 (.t 46)), qq 8 (.alloc 35 3 [(.bool false), e0, e0]), qn (.store 3 (.t 8) (.t 47))]) (.seq (.reg [qq 48 (.faddr 1 (.t 8)), qq 49 (.load false 1 (.t 48)), qq 50 (.lens (.t 49)), qq 51 (.bin .gtr (.t 50) (ci 4)), qq 52 (.mv (.t 51)), ⟨(some 53), (some (52, false)), (.faddr 2 (.t 8))⟩, ⟨(some 54), (some (52, false)), (.load false 1 (.t 53))⟩, ⟨(some 55), (some (52, false)), (.lens (.t 54))⟩, ⟨(some 56), (some (52, false)), (.bin .gtr (.t 55) (ci 4))⟩, qq 57 (.pick (.t 52) (.c (.bool true)) (.t 56))]) (.cond (.t 57) (.seq (.reg [qq 4 (.mv (ci 1))]) .ret) .skip)))) (.reg [qq 58 (.bin .add (.t 44) (ci 1)), qq 44 (.mv (.t 58))])))))))))) (.reg [qq 59 (.bin .add (.t 27) (ci 1)), qq 27 (.mv (.t 59))]))))))) (.seq (.reg [qq 4 (.mv (ci 0))]) .ret))))
theorem tr4 : trFun Tryz.prog 4 = some ⟨60, [.t 4], c4⟩ := by kernel_rfl
set_option maxHeartbeats 16000000 in
theorem ok_lGreat24 : SpecOK Tryz.prog 4 (rdS spGreat) := by
  refine rd_run (env_nil _) mixed tr4 ?_ ?_
  · intro args h h' v hle e
    unfold spGreat at e ⊢
    split at e
    · split at e
      · rename_i l hb
        simp only [decRows_mono hle hb]; exact e
      · cases e
    · cases e
  intro args v h N hG hN
  unfold spGreat at hG
  split at hG
  case h_2 => cases hG
  rename_i n sl
  split at hG
  case h_2 => cases hG
  rename_i l hx
  split at hG
  case isFalse => cases hG
  rename_i hm
  cases hG
  obtain ⟨a, cc, rfl⟩ := listAt_sl (dec := decEq h) hx
  refine ⟨by rfl, by simp, ?_⟩
  by_cases b1 : 8 < n ∧ n ≤ 100
  · rw [if_neg (fun e : smallS n l => e.1 b1)]
    have g1 : (n > 8) = True := eq_true b1.1
    have g2 : (n ≤ 100) = True := eq_true b1.2
    simp only [c4, G0, Nat.reduceAdd]
    simp only [↓R0, R1, simprocAttr, -Int.reduceAbs, g1, g2, Fin, isEnd, resL, res1]
    exact ⟨_, rfl, rfl, fun k hk => by simp only [ne_nb hk, if_false]⟩
  by_cases b2 : 10 < l.length ∧ l.length ≤ 100
  · rw [if_neg (fun e : smallS n l => e.2.1 b2)]
    have g3 : ((l.length : Int) > 10) = True := eq_true (by omega)
    have g4 : ((l.length : Int) ≤ 100) = True := eq_true (by omega)
    have g4' : (l.length ≤ 100) = True := eq_true b2.2
    rcases (by omega : n ≤ 8 ∨ n > 100) with hn | hn
    · have g1 : (n > 8) = False := eq_false (by omega)
      simp only [c4, G0, Nat.reduceAdd]
      simp only [↓R0, R1, simprocAttr, -Int.reduceAbs, g1, g3, g4, g4', Fin, isEnd, resL, res1]
      exact ⟨_, rfl, rfl, fun k hk => by simp only [ne_nb hk, if_false]⟩
    · have g1 : (n > 8) = True := eq_true (by omega)
      have g2 : (n ≤ 100) = False := eq_false (by omega)
      simp only [c4, G0, Nat.reduceAdd]
      simp only [↓R0, R1, simprocAttr, -Int.reduceAbs, g1, g2, g3, g4, g4', Fin, isEnd, resL, res1]
      exact ⟨_, rfl, rfl, fun k hk => by simp only [ne_nb hk, if_false]⟩
  have sS : smallS n l ↔ ∀ e ∈ l, smallE e := ⟨fun h => h.2.2, fun h => ⟨b1, b2, h⟩⟩
  have ev : (if smallS n l then (0 : Int) else 1) = if ∀ e ∈ l, smallE e then 0 else 1 := by
    by_cases z : smallS n l
    · rw [if_pos z, if_pos (sS.1 z)]
    · rw [if_neg z, if_neg (fun y => z (sS.2 y))]
  rw [ev]
  rcases (by omega : n ≤ 8 ∨ n > 100) with hn | hn
  · rcases (by omega : l.length ≤ 10 ∨ l.length > 100) with hl | hl
    · have g1 : (n > 8) = False := eq_false (by omega)
      have g2 : (n ≤ 100) = True := eq_true (by omega)
      have g3 : ((l.length : Int) > 10) = False := eq_false (by omega)
      have g4 : ((l.length : Int) ≤ 100) = True := eq_true (by omega)
      have g5 : (l.length ≤ 100) = True := eq_true (by omega)
      simp only [c4, G0, Nat.reduceAdd]
      simp only [↓R0, R1, simprocAttr, -Int.reduceAbs, g1, g2, g3, g4, g5]
      refine lp_parts (fun c tm hp nx => ∃ (i M : Nat), c + i = l.length ∧ tmget tm 25 = .slice a l.length cc ∧ tmget tm 26 = .int .i64 l.length ∧ tmget tm 27 = .int .i64 i ∧ (∀ j e, j < i → l[j]? = some e → smallE e) ∧ (∀ q, q < N → hget hp q = hget h q) ∧ N ≤ M ∧ nx = M + 0) ?_ l.length
        ⟨0, N, by omega, ?_, ?_, ?_, fun j e hj => absurd hj (Nat.not_lt_zero j), fun q _ => rfl, Nat.le_refl _, rfl⟩
      rotate_left
      all_goals first | (simp only [↓R0, R1, simprocAttr, -Int.reduceAbs]; done) | (simp only [↓R0, R1, simprocAttr, -Int.reduceAbs]; rfl) | skip
      rintro c tm hp nx ⟨i, M, hc, t25, t26, t27, hall, hh, hM, hnx⟩
      rw [hnx]
      clear hnx nx
      by_cases c1 : i < l.length
      case neg =>
        have e : i = l.length := by omega
        subst e
        have c1' : ((l.length : Int) < (l.length : Int)) = False := eq_false (by omega)
        have all : ∀ e ∈ l, smallE e := fun e he => by
          obtain ⟨j, hj⟩ := List.getElem?_of_mem he
          exact hall j e (List.getElem?_eq_some_iff.1 hj).1 hj
        rw [if_pos all]
        simp only [↓R0, R1, simprocAttr, -Int.reduceAbs, t25, t26, t27, c1', Fin, isEnd, resL, res1]
        exact ⟨_, rfl, rfl, hh⟩
      obtain ⟨k, off, blk, a', n', c', ea, hb, q1, q2, hn', hl'⟩ := eq_at hx c1
      subst ea
      have hk := hN _ _ hb
      have hbb : hget hp k = some blk := by rw [hh k hk]; exact hb
      have nk : ∀ j, (M + j = k) = False := fun j => eq_false (by omega)
      have c1' : ((i : Int) < (l.length : Int)) = True := eq_true (by omega)
      have wi1 : IntKind.i64.wrap ((i : Int) + 1) = ((i + 1 : Nat) : Int) := by rw [i64_in _ (by omega)]; omega
      have ee := eqAt_some c1
      have e5l : (Value.slice a' n' c' :: (eqAt l i).tl).length = 5 := rfl
      have e5o : (Value.slice a' n' c' :: (eqAt l i).tl).all okCell = true := rfl
      have e50 : (Value.slice a' n' c' :: (eqAt l i).tl)[0]? = some (.slice a' n' c') := rfl
      have e51 : ((Value.slice a' n' c' :: (eqAt l i).tl).drop 1).take 3 = (eqAt l i).rhs.cells := rfl
      have e5s : setR [.slice none 0 0, .bool false, .string ⟨⟨[]⟩⟩, .string ⟨⟨[]⟩⟩, .int .i64 0] 0 (Value.slice a' n' c' :: (eqAt l i).tl) = Value.slice a' n' c' :: (eqAt l i).tl := rfl
      generalize Value.slice a' n' c' :: (eqAt l i).tl = C5 at *
      by_cases big : (eqAt l i).coef.length > 10
      · have big' : ((n' : Int) > 10) = True := eq_true (by omega)
        rw [if_neg (fun h => by have := (h _ (eqAt_mem c1)).1; omega)]
        simp only [↓R0, R1, simprocAttr, -Int.reduceAbs, t25, t26, t27, c1, c1', hbb, q1, q2, nk, e5l, e5o, e50, e5s, big', Fin, isEnd, resL, res1]
        refine ⟨_, rfl, rfl, fun q hq => ?_⟩
        have nb : ∀ d, (M + d = q) = False := fun d => eq_false (by omega)
        simp only [↓R0, R1, simprocAttr, -Int.reduceAbs, nb]
        exact hh q hq
      have big' : ((n' : Int) > 10) = False := eq_false (by omega)
      have xM := fun j b hp' => extL_ge (show N ≤ M by omega) j b h hp'
      have xh : ExtL N h hp := hh
      have sr : ∀ {hp' : Heap}, ExtL N h hp' → srcOf hp' 3 n' a' = some (rqs (eqAt l i).coef) := fun he => src_any (listAt_mono (fun q b e => by rw [he q (hN _ _ e)]; exact e) (fun _ _ e => e) hl')
      have l1 : ((eqAt l i).coef ++ [(eqAt l i).rhs]).length = n' + 1 := by rw [List.length_append, ← hn']; rfl
      have rl := rqs_len ((eqAt l i).coef ++ [(eqAt l i).rhs])
      rw [l1] at rl
      have rok := rqs_ok (eqAt l i).coef
      have rlc := rqs_len (eqAt l i).coef
      rw [← hn'] at rlc
      have rap := rqs_app (eqAt l i).coef (eqAt l i).rhs
      have rone : n' = 0 → (eqAt l i).rhs.cells = rqs ((eqAt l i).coef ++ [(eqAt l i).rhs]) := fun e => by
        rw [List.eq_nil_of_length_eq_zero (hn'.symm.trans e)]; exact rqs_one _
      have rat : ∀ j q, ((eqAt l i).coef ++ [(eqAt l i).rhs])[j]? = some q → ((rqs ((eqAt l i).coef ++ [(eqAt l i).rhs])).drop (j * 3)).take 3 = q.cells := fun j q h => rqs_at _ j q h
      have rhl : (eqAt l i).rhs.cells.length = 3 := rfl
      have rho : (eqAt l i).rhs.cells.all okCell = true := rfl
      have rht : (eqAt l i).rhs.cells.take 3 = (eqAt l i).rhs.cells := rfl
      have rhs0 : setR [.bool false, .string ⟨⟨[]⟩⟩, .string ⟨⟨[]⟩⟩] 0 (eqAt l i).rhs.cells = (eqAt l i).rhs.cells := rfl
      have sE : smallE (eqAt l i) ↔ ∀ q ∈ (eqAt l i).coef ++ [(eqAt l i).rhs], smallQ q := ⟨fun h => h.2, fun h => ⟨by omega, h⟩⟩
      by_cases z : n' = 0
      · have rone' := rone z
        rw [rone'] at e51 rhl rho rht rhs0
        clear rone' rap
        have z' : (n' = 0) = True := eq_true z
        generalize rqs ((eqAt l i).coef ++ [(eqAt l i).rhs]) = RL at *
        generalize rqs (eqAt l i).coef = RC at *
        simp only [↓R0, R1, simprocAttr, -Int.reduceAbs, t25, t26, t27, c1, c1', hbb, q1, q2, nk, e5l, e5o, e50, e51, e5s, big', sr, xM, xh, rok, rlc, rhl, rho, rht, rhs0, Nat.zero_add, Nat.zero_mul, List.nil_append, z']
        refine lp_parts (fun d tm hp2 nx => ∃ (j M2 : Nat), d + j = n' + 1 ∧ tmget tm 25 = .slice (some ⟨k, off, none⟩) l.length cc ∧ tmget tm 26 = .int .i64 l.length ∧ tmget tm 27 = .int .i64 i ∧
            tmget tm 42 = .slice (some ⟨M + 3, 0, none⟩) (n' + 1) (n' + 1) ∧ tmget tm 43 = .int .i64 ((n' + 1 : Nat) : Int) ∧ tmget tm 44 = .int .i64 j ∧ hget hp2 (M + 3) = some ⟨35, 3, false, RL⟩ ∧ (∀ j' q, j' < j → ((eqAt l i).coef ++ [(eqAt l i).rhs])[j']? = some q → smallQ q) ∧ (∀ q, q < M → hget hp2 q = hget hp q) ∧ M + 4 ≤ M2 ∧ nx = M2 + 0) ?_ (n' + 1)
          ⟨0, M + 4, by omega, ?_, ?_, ?_, ?_, ?_, ?_, ?_, fun j q hj => absurd hj (Nat.not_lt_zero j), ?_, Nat.le_refl _, rfl⟩
        rotate_left
        all_goals first | (simp only [↓R0, R1, simprocAttr, -Int.reduceAbs, t25, t26, t27]; done) | (simp only [↓R0, R1, simprocAttr, -Int.reduceAbs, t25, t26, t27]; rfl) | (simp only [↓R0, R1, simprocAttr, -Int.reduceAbs, t25, t26, t27, z]; done) | (simp only [↓R0, R1, simprocAttr, -Int.reduceAbs, t25, t26, t27, z]; rfl) | skip
        · intro q hq
          have nb : ∀ j, (M + j = q) = False := fun j => eq_false (by omega)
          simp only [↓R0, R1, simprocAttr, -Int.reduceAbs, nb]
        rintro d tm hp2 nx ⟨j, M2, hd, t25, t26, t27, t42, t43, t44, br, hall2, hh2, hM2, hnx⟩
        rw [hnx]
        clear hnx nx
        have X0 : (M = M2) = False := eq_false (by omega)
        have Y0 : ∀ d, (M2 + d = M) = False := fun d => eq_false (by omega)
        have V0 : ∀ d, (M = M2 + d) = False := fun d => eq_false (by omega)
        have U0 : (M2 = M) = False := eq_false (by omega)
        have X1 : (M + 1 = M2) = False := eq_false (by omega)
        have Y1 : ∀ d, (M2 + d = M + 1) = False := fun d => eq_false (by omega)
        have V1 : ∀ d, (M + 1 = M2 + d) = False := fun d => eq_false (by omega)
        have U1 : (M2 = M + 1) = False := eq_false (by omega)
        have X2 : (M + 2 = M2) = False := eq_false (by omega)
        have Y2 : ∀ d, (M2 + d = M + 2) = False := fun d => eq_false (by omega)
        have V2 : ∀ d, (M + 2 = M2 + d) = False := fun d => eq_false (by omega)
        have U2 : (M2 = M + 2) = False := eq_false (by omega)
        have X3 : (M + 3 = M2) = False := eq_false (by omega)
        have Y3 : ∀ d, (M2 + d = M + 3) = False := fun d => eq_false (by omega)
        have V3 : ∀ d, (M + 3 = M2 + d) = False := fun d => eq_false (by omega)
        have U3 : (M2 = M + 3) = False := eq_false (by omega)
        have wj : IntKind.i64.wrap ((j : Int) + 1) = ((j + 1 : Nat) : Int) := by rw [i64_in _ (by omega)]; omega
        have nbq : ∀ q, q < N → ∀ d, (M2 + d = q) = False := fun q hq d => eq_false (by omega)
        by_cases cj : j < n' + 1
        case neg =>
          have ej : j = n' + 1 := by omega
          subst ej
          have cj' : (((n' + 1 : Nat) : Int) < ((n' + 1 : Nat) : Int)) = False := eq_false (by omega)
          have sm : smallE (eqAt l i) := sE.2 fun q hq => by
            obtain ⟨j', hj'⟩ := List.getElem?_of_mem hq
            have := (List.getElem?_eq_some_iff.1 hj').1
            exact hall2 j' q (by omega) hj'
          simp only [↓R0, R1, simprocAttr, -Int.reduceAbs, t25, t26, t27, t42, t43, t44, cj', wi1]
          refine ⟨c - 1, by omega, i + 1, M2, by omega, rfl, fun j e hj he => ?_, fun q hq => by rw [hh2 q (by omega)]; exact hh q hq, by omega, rfl⟩
          by_cases x : j = i
          · subst x; rw [ee] at he; cases he; exact sm
          · exact hall j e (by omega) he
        have cj' : ((j : Int) < ((n' + 1 : Nat) : Int)) = True := eq_true (by omega)
        obtain ⟨q, hq⟩ : ∃ q, ((eqAt l i).coef ++ [(eqAt l i).rhs])[j]? = some q := ⟨_, List.getElem?_eq_getElem (by omega)⟩
        have gt := rat j q hq
        have g3 : j * 3 + 3 ≤ (n' + 1) * 3 := by omega
        have ql : q.cells.length = 3 := rfl
        have qo : q.cells.all okCell = true := rfl
        have qs : setR [.bool false, .string ⟨⟨[]⟩⟩, .string ⟨⟨[]⟩⟩] 0 q.cells = q.cells := rfl
        have qc1 : q.cells[1]? = some (.string ⟨⟨q.n⟩⟩) := rfl
        have qc2 : q.cells[2]? = some (.string ⟨⟨q.d⟩⟩) := rfl
        have bad : ¬ smallQ q → ¬ ∀ e ∈ l, smallE e := fun h1 h2 => h1 (sE.1 (h2 _ (eqAt_mem c1)) q (List.mem_of_getElem? hq))
        generalize q.cells = QC at *
        by_cases s1 : q.n.length > 4
        · have s1' : ((q.n.length : Int) > 4) = True := eq_true (by omega)
          rw [if_neg (bad (fun h => by have := h.1; omega))]
          simp only [↓R0, R1, simprocAttr, -Int.reduceAbs, t25, t26, t27, t42, t43, t44, br, cj, cj', gt, g3, rl, ql, qo, qs, qc1, qc2, s1', X0, Y0, V0, U0, X1, Y1, V1, U1, X2, Y2, V2, U2, X3, Y3, V3, U3, Fin, isEnd, resL, res1]
          refine ⟨_, rfl, rfl, fun q hq => ?_⟩
          have nb := nbq q hq
          simp only [↓R0, R1, simprocAttr, -Int.reduceAbs, nb]
          rw [hh2 q (by omega)]; exact hh q hq
        have s1' : ((q.n.length : Int) > 4) = False := eq_false (by omega)
        by_cases s2 : q.d.length > 4
        · have s2' : ((q.d.length : Int) > 4) = True := eq_true (by omega)
          rw [if_neg (bad (fun h => by have := h.2; omega))]
          simp only [↓R0, R1, simprocAttr, -Int.reduceAbs, t25, t26, t27, t42, t43, t44, br, cj, cj', gt, g3, rl, ql, qo, qs, qc1, qc2, s1', s2', X0, Y0, V0, U0, X1, Y1, V1, U1, X2, Y2, V2, U2, X3, Y3, V3, U3, Fin, isEnd, resL, res1]
          refine ⟨_, rfl, rfl, fun q hq => ?_⟩
          have nb := nbq q hq
          simp only [↓R0, R1, simprocAttr, -Int.reduceAbs, nb]
          rw [hh2 q (by omega)]; exact hh q hq
        have s2' : ((q.d.length : Int) > 4) = False := eq_false (by omega)
        simp only [↓R0, R1, simprocAttr, -Int.reduceAbs, t25, t26, t27, t42, t43, t44, br, cj, cj', gt, g3, rl, ql, qo, qs, qc1, qc2, s1', s2', wj, X0, Y0, V0, U0, X1, Y1, V1, U1, X2, Y2, V2, U2, X3, Y3, V3, U3]
        refine ⟨d - 1, by omega, j + 1, M2 + 1, by omega, rfl, fun j' q' hj' hq' => ?_, fun x hx => ?_, by omega, rfl⟩
        · by_cases x : j' = j
          · subst x; rw [hq] at hq'; cases hq'; exact ⟨by omega, by omega⟩
          · exact hall2 j' q' (by omega) hq'
        · have nb : ∀ d, (M2 + d = x) = False := fun d => eq_false (by omega)
          simp only [↓R0, R1, simprocAttr, -Int.reduceAbs, nb]
          exact hh2 x hx
      · have z' : (n' = 0) = False := eq_false z
        have z2 : (n' ≤ 0) = False := eq_false (by omega)
        have ov0 : (n' * 40 ≤ 140737488355328) = True := eq_true (by omega)
        have nlc : (n' + 1 ≤ n') = False := eq_false (by omega)
        have ov : ((n' + 1) * 40 ≤ 140737488355328) = True := eq_true (by omega)
        generalize rqs ((eqAt l i).coef ++ [(eqAt l i).rhs]) = RL at *
        generalize rqs (eqAt l i).coef = RC at *
        generalize (eqAt l i).rhs.cells = RH at *
        simp only [↓R0, R1, simprocAttr, -Int.reduceAbs, t25, t26, t27, c1, c1', hbb, q1, q2, nk, e5l, e5o, e50, e51, e5s, big', sr, xM, xh, rok, rlc, rhl, rho, rht, rhs0, Nat.zero_add, Nat.zero_mul, List.nil_append, z', z2, ov0, nlc, ov, rap]
        refine lp_parts (fun d tm hp2 nx => ∃ (j M2 : Nat), d + j = n' + 1 ∧ tmget tm 25 = .slice (some ⟨k, off, none⟩) l.length cc ∧ tmget tm 26 = .int .i64 l.length ∧ tmget tm 27 = .int .i64 i ∧
            tmget tm 42 = .slice (some ⟨M + 4, 0, none⟩) (n' + 1) (n' + 1) ∧ tmget tm 43 = .int .i64 ((n' + 1 : Nat) : Int) ∧ tmget tm 44 = .int .i64 j ∧ hget hp2 (M + 4) = some ⟨35, 3, false, RL⟩ ∧ (∀ j' q, j' < j → ((eqAt l i).coef ++ [(eqAt l i).rhs])[j']? = some q → smallQ q) ∧ (∀ q, q < M → hget hp2 q = hget hp q) ∧ M + 5 ≤ M2 ∧ nx = M2 + 0) ?_ (n' + 1)
          ⟨0, M + 5, by omega, ?_, ?_, ?_, ?_, ?_, ?_, ?_, fun j q hj => absurd hj (Nat.not_lt_zero j), ?_, Nat.le_refl _, rfl⟩
        rotate_left
        all_goals first | (simp only [↓R0, R1, simprocAttr, -Int.reduceAbs, t25, t26, t27]; done) | (simp only [↓R0, R1, simprocAttr, -Int.reduceAbs, t25, t26, t27]; rfl) | (simp only [↓R0, R1, simprocAttr, -Int.reduceAbs, t25, t26, t27, z]; done) | (simp only [↓R0, R1, simprocAttr, -Int.reduceAbs, t25, t26, t27, z]; rfl) | skip
        · intro q hq
          have nb : ∀ j, (M + j = q) = False := fun j => eq_false (by omega)
          simp only [↓R0, R1, simprocAttr, -Int.reduceAbs, nb]
        rintro d tm hp2 nx ⟨j, M2, hd, t25, t26, t27, t42, t43, t44, br, hall2, hh2, hM2, hnx⟩
        rw [hnx]
        clear hnx nx
        have X0 : (M = M2) = False := eq_false (by omega)
        have Y0 : ∀ d, (M2 + d = M) = False := fun d => eq_false (by omega)
        have V0 : ∀ d, (M = M2 + d) = False := fun d => eq_false (by omega)
        have U0 : (M2 = M) = False := eq_false (by omega)
        have X1 : (M + 1 = M2) = False := eq_false (by omega)
        have Y1 : ∀ d, (M2 + d = M + 1) = False := fun d => eq_false (by omega)
        have V1 : ∀ d, (M + 1 = M2 + d) = False := fun d => eq_false (by omega)
        have U1 : (M2 = M + 1) = False := eq_false (by omega)
        have X2 : (M + 2 = M2) = False := eq_false (by omega)
        have Y2 : ∀ d, (M2 + d = M + 2) = False := fun d => eq_false (by omega)
        have V2 : ∀ d, (M + 2 = M2 + d) = False := fun d => eq_false (by omega)
        have U2 : (M2 = M + 2) = False := eq_false (by omega)
        have X3 : (M + 3 = M2) = False := eq_false (by omega)
        have Y3 : ∀ d, (M2 + d = M + 3) = False := fun d => eq_false (by omega)
        have V3 : ∀ d, (M + 3 = M2 + d) = False := fun d => eq_false (by omega)
        have U3 : (M2 = M + 3) = False := eq_false (by omega)
        have X4 : (M + 4 = M2) = False := eq_false (by omega)
        have Y4 : ∀ d, (M2 + d = M + 4) = False := fun d => eq_false (by omega)
        have V4 : ∀ d, (M + 4 = M2 + d) = False := fun d => eq_false (by omega)
        have U4 : (M2 = M + 4) = False := eq_false (by omega)
        have wj : IntKind.i64.wrap ((j : Int) + 1) = ((j + 1 : Nat) : Int) := by rw [i64_in _ (by omega)]; omega
        have nbq : ∀ q, q < N → ∀ d, (M2 + d = q) = False := fun q hq d => eq_false (by omega)
        by_cases cj : j < n' + 1
        case neg =>
          have ej : j = n' + 1 := by omega
          subst ej
          have cj' : (((n' + 1 : Nat) : Int) < ((n' + 1 : Nat) : Int)) = False := eq_false (by omega)
          have sm : smallE (eqAt l i) := sE.2 fun q hq => by
            obtain ⟨j', hj'⟩ := List.getElem?_of_mem hq
            have := (List.getElem?_eq_some_iff.1 hj').1
            exact hall2 j' q (by omega) hj'
          simp only [↓R0, R1, simprocAttr, -Int.reduceAbs, t25, t26, t27, t42, t43, t44, cj', wi1]
          refine ⟨c - 1, by omega, i + 1, M2, by omega, rfl, fun j e hj he => ?_, fun q hq => by rw [hh2 q (by omega)]; exact hh q hq, by omega, rfl⟩
          by_cases x : j = i
          · subst x; rw [ee] at he; cases he; exact sm
          · exact hall j e (by omega) he
        have cj' : ((j : Int) < ((n' + 1 : Nat) : Int)) = True := eq_true (by omega)
        obtain ⟨q, hq⟩ : ∃ q, ((eqAt l i).coef ++ [(eqAt l i).rhs])[j]? = some q := ⟨_, List.getElem?_eq_getElem (by omega)⟩
        have gt := rat j q hq
        have g3 : j * 3 + 3 ≤ (n' + 1) * 3 := by omega
        have ql : q.cells.length = 3 := rfl
        have qo : q.cells.all okCell = true := rfl
        have qs : setR [.bool false, .string ⟨⟨[]⟩⟩, .string ⟨⟨[]⟩⟩] 0 q.cells = q.cells := rfl
        have qc1 : q.cells[1]? = some (.string ⟨⟨q.n⟩⟩) := rfl
        have qc2 : q.cells[2]? = some (.string ⟨⟨q.d⟩⟩) := rfl
        have bad : ¬ smallQ q → ¬ ∀ e ∈ l, smallE e := fun h1 h2 => h1 (sE.1 (h2 _ (eqAt_mem c1)) q (List.mem_of_getElem? hq))
        generalize q.cells = QC at *
        by_cases s1 : q.n.length > 4
        · have s1' : ((q.n.length : Int) > 4) = True := eq_true (by omega)
          rw [if_neg (bad (fun h => by have := h.1; omega))]
          simp only [↓R0, R1, simprocAttr, -Int.reduceAbs, t25, t26, t27, t42, t43, t44, br, cj, cj', gt, g3, rl, ql, qo, qs, qc1, qc2, s1', X0, Y0, V0, U0, X1, Y1, V1, U1, X2, Y2, V2, U2, X3, Y3, V3, U3, X4, Y4, V4, U4, Fin, isEnd, resL, res1]
          refine ⟨_, rfl, rfl, fun q hq => ?_⟩
          have nb := nbq q hq
          simp only [↓R0, R1, simprocAttr, -Int.reduceAbs, nb]
          rw [hh2 q (by omega)]; exact hh q hq
        have s1' : ((q.n.length : Int) > 4) = False := eq_false (by omega)
        by_cases s2 : q.d.length > 4
        · have s2' : ((q.d.length : Int) > 4) = True := eq_true (by omega)
          rw [if_neg (bad (fun h => by have := h.2; omega))]
          simp only [↓R0, R1, simprocAttr, -Int.reduceAbs, t25, t26, t27, t42, t43, t44, br, cj, cj', gt, g3, rl, ql, qo, qs, qc1, qc2, s1', s2', X0, Y0, V0, U0, X1, Y1, V1, U1, X2, Y2, V2, U2, X3, Y3, V3, U3, X4, Y4, V4, U4, Fin, isEnd, resL, res1]
          refine ⟨_, rfl, rfl, fun q hq => ?_⟩
          have nb := nbq q hq
          simp only [↓R0, R1, simprocAttr, -Int.reduceAbs, nb]
          rw [hh2 q (by omega)]; exact hh q hq
        have s2' : ((q.d.length : Int) > 4) = False := eq_false (by omega)
        simp only [↓R0, R1, simprocAttr, -Int.reduceAbs, t25, t26, t27, t42, t43, t44, br, cj, cj', gt, g3, rl, ql, qo, qs, qc1, qc2, s1', s2', wj, X0, Y0, V0, U0, X1, Y1, V1, U1, X2, Y2, V2, U2, X3, Y3, V3, U3, X4, Y4, V4, U4]
        refine ⟨d - 1, by omega, j + 1, M2 + 1, by omega, rfl, fun j' q' hj' hq' => ?_, fun x hx => ?_, by omega, rfl⟩
        · by_cases x : j' = j
          · subst x; rw [hq] at hq'; cases hq'; exact ⟨by omega, by omega⟩
          · exact hall2 j' q' (by omega) hq'
        · have nb : ∀ d, (M2 + d = x) = False := fun d => eq_false (by omega)
          simp only [↓R0, R1, simprocAttr, -Int.reduceAbs, nb]
          exact hh2 x hx
    · have g1 : (n > 8) = False := eq_false (by omega)
      have g2 : (n ≤ 100) = True := eq_true (by omega)
      have g3 : ((l.length : Int) > 10) = True := eq_true (by omega)
      have g4 : ((l.length : Int) ≤ 100) = False := eq_false (by omega)
      have g5 : (l.length ≤ 100) = False := eq_false (by omega)
      simp only [c4, G0, Nat.reduceAdd]
      simp only [↓R0, R1, simprocAttr, -Int.reduceAbs, g1, g2, g3, g4, g5]
      refine lp_parts (fun c tm hp nx => ∃ (i M : Nat), c + i = l.length ∧ tmget tm 25 = .slice a l.length cc ∧ tmget tm 26 = .int .i64 l.length ∧ tmget tm 27 = .int .i64 i ∧ (∀ j e, j < i → l[j]? = some e → smallE e) ∧ (∀ q, q < N → hget hp q = hget h q) ∧ N ≤ M ∧ nx = M + 0) ?_ l.length
        ⟨0, N, by omega, ?_, ?_, ?_, fun j e hj => absurd hj (Nat.not_lt_zero j), fun q _ => rfl, Nat.le_refl _, rfl⟩
      rotate_left
      all_goals first | (simp only [↓R0, R1, simprocAttr, -Int.reduceAbs]; done) | (simp only [↓R0, R1, simprocAttr, -Int.reduceAbs]; rfl) | skip
      rintro c tm hp nx ⟨i, M, hc, t25, t26, t27, hall, hh, hM, hnx⟩
      rw [hnx]
      clear hnx nx
      by_cases c1 : i < l.length
      case neg =>
        have e : i = l.length := by omega
        subst e
        have c1' : ((l.length : Int) < (l.length : Int)) = False := eq_false (by omega)
        have all : ∀ e ∈ l, smallE e := fun e he => by
          obtain ⟨j, hj⟩ := List.getElem?_of_mem he
          exact hall j e (List.getElem?_eq_some_iff.1 hj).1 hj
        rw [if_pos all]
        simp only [↓R0, R1, simprocAttr, -Int.reduceAbs, t25, t26, t27, c1', Fin, isEnd, resL, res1]
        exact ⟨_, rfl, rfl, hh⟩
      obtain ⟨k, off, blk, a', n', c', ea, hb, q1, q2, hn', hl'⟩ := eq_at hx c1
      subst ea
      have hk := hN _ _ hb
      have hbb : hget hp k = some blk := by rw [hh k hk]; exact hb
      have nk : ∀ j, (M + j = k) = False := fun j => eq_false (by omega)
      have c1' : ((i : Int) < (l.length : Int)) = True := eq_true (by omega)
      have wi1 : IntKind.i64.wrap ((i : Int) + 1) = ((i + 1 : Nat) : Int) := by rw [i64_in _ (by omega)]; omega
      have ee := eqAt_some c1
      have e5l : (Value.slice a' n' c' :: (eqAt l i).tl).length = 5 := rfl
      have e5o : (Value.slice a' n' c' :: (eqAt l i).tl).all okCell = true := rfl
      have e50 : (Value.slice a' n' c' :: (eqAt l i).tl)[0]? = some (.slice a' n' c') := rfl
      have e51 : ((Value.slice a' n' c' :: (eqAt l i).tl).drop 1).take 3 = (eqAt l i).rhs.cells := rfl
      have e5s : setR [.slice none 0 0, .bool false, .string ⟨⟨[]⟩⟩, .string ⟨⟨[]⟩⟩, .int .i64 0] 0 (Value.slice a' n' c' :: (eqAt l i).tl) = Value.slice a' n' c' :: (eqAt l i).tl := rfl
      generalize Value.slice a' n' c' :: (eqAt l i).tl = C5 at *
      by_cases big : (eqAt l i).coef.length > 10
      · have big' : ((n' : Int) > 10) = True := eq_true (by omega)
        rw [if_neg (fun h => by have := (h _ (eqAt_mem c1)).1; omega)]
        simp only [↓R0, R1, simprocAttr, -Int.reduceAbs, t25, t26, t27, c1, c1', hbb, q1, q2, nk, e5l, e5o, e50, e5s, big', Fin, isEnd, resL, res1]
        refine ⟨_, rfl, rfl, fun q hq => ?_⟩
        have nb : ∀ d, (M + d = q) = False := fun d => eq_false (by omega)
        simp only [↓R0, R1, simprocAttr, -Int.reduceAbs, nb]
        exact hh q hq
      have big' : ((n' : Int) > 10) = False := eq_false (by omega)
      have xM := fun j b hp' => extL_ge (show N ≤ M by omega) j b h hp'
      have xh : ExtL N h hp := hh
      have sr : ∀ {hp' : Heap}, ExtL N h hp' → srcOf hp' 3 n' a' = some (rqs (eqAt l i).coef) := fun he => src_any (listAt_mono (fun q b e => by rw [he q (hN _ _ e)]; exact e) (fun _ _ e => e) hl')
      have l1 : ((eqAt l i).coef ++ [(eqAt l i).rhs]).length = n' + 1 := by rw [List.length_append, ← hn']; rfl
      have rl := rqs_len ((eqAt l i).coef ++ [(eqAt l i).rhs])
      rw [l1] at rl
      have rok := rqs_ok (eqAt l i).coef
      have rlc := rqs_len (eqAt l i).coef
      rw [← hn'] at rlc
      have rap := rqs_app (eqAt l i).coef (eqAt l i).rhs
      have rone : n' = 0 → (eqAt l i).rhs.cells = rqs ((eqAt l i).coef ++ [(eqAt l i).rhs]) := fun e => by
        rw [List.eq_nil_of_length_eq_zero (hn'.symm.trans e)]; exact rqs_one _
      have rat : ∀ j q, ((eqAt l i).coef ++ [(eqAt l i).rhs])[j]? = some q → ((rqs ((eqAt l i).coef ++ [(eqAt l i).rhs])).drop (j * 3)).take 3 = q.cells := fun j q h => rqs_at _ j q h
      have rhl : (eqAt l i).rhs.cells.length = 3 := rfl
      have rho : (eqAt l i).rhs.cells.all okCell = true := rfl
      have rht : (eqAt l i).rhs.cells.take 3 = (eqAt l i).rhs.cells := rfl
      have rhs0 : setR [.bool false, .string ⟨⟨[]⟩⟩, .string ⟨⟨[]⟩⟩] 0 (eqAt l i).rhs.cells = (eqAt l i).rhs.cells := rfl
      have sE : smallE (eqAt l i) ↔ ∀ q ∈ (eqAt l i).coef ++ [(eqAt l i).rhs], smallQ q := ⟨fun h => h.2, fun h => ⟨by omega, h⟩⟩
      by_cases z : n' = 0
      · have rone' := rone z
        rw [rone'] at e51 rhl rho rht rhs0
        clear rone' rap
        have z' : (n' = 0) = True := eq_true z
        generalize rqs ((eqAt l i).coef ++ [(eqAt l i).rhs]) = RL at *
        generalize rqs (eqAt l i).coef = RC at *
        simp only [↓R0, R1, simprocAttr, -Int.reduceAbs, t25, t26, t27, c1, c1', hbb, q1, q2, nk, e5l, e5o, e50, e51, e5s, big', sr, xM, xh, rok, rlc, rhl, rho, rht, rhs0, Nat.zero_add, Nat.zero_mul, List.nil_append, z']
        refine lp_parts (fun d tm hp2 nx => ∃ (j M2 : Nat), d + j = n' + 1 ∧ tmget tm 25 = .slice (some ⟨k, off, none⟩) l.length cc ∧ tmget tm 26 = .int .i64 l.length ∧ tmget tm 27 = .int .i64 i ∧
            tmget tm 42 = .slice (some ⟨M + 3, 0, none⟩) (n' + 1) (n' + 1) ∧ tmget tm 43 = .int .i64 ((n' + 1 : Nat) : Int) ∧ tmget tm 44 = .int .i64 j ∧ hget hp2 (M + 3) = some ⟨35, 3, false, RL⟩ ∧ (∀ j' q, j' < j → ((eqAt l i).coef ++ [(eqAt l i).rhs])[j']? = some q → smallQ q) ∧ (∀ q, q < M → hget hp2 q = hget hp q) ∧ M + 4 ≤ M2 ∧ nx = M2 + 0) ?_ (n' + 1)
          ⟨0, M + 4, by omega, ?_, ?_, ?_, ?_, ?_, ?_, ?_, fun j q hj => absurd hj (Nat.not_lt_zero j), ?_, Nat.le_refl _, rfl⟩
        rotate_left
        all_goals first | (simp only [↓R0, R1, simprocAttr, -Int.reduceAbs, t25, t26, t27]; done) | (simp only [↓R0, R1, simprocAttr, -Int.reduceAbs, t25, t26, t27]; rfl) | (simp only [↓R0, R1, simprocAttr, -Int.reduceAbs, t25, t26, t27, z]; done) | (simp only [↓R0, R1, simprocAttr, -Int.reduceAbs, t25, t26, t27, z]; rfl) | skip
        · intro q hq
          have nb : ∀ j, (M + j = q) = False := fun j => eq_false (by omega)
          simp only [↓R0, R1, simprocAttr, -Int.reduceAbs, nb]
        rintro d tm hp2 nx ⟨j, M2, hd, t25, t26, t27, t42, t43, t44, br, hall2, hh2, hM2, hnx⟩
        rw [hnx]
        clear hnx nx
        have X0 : (M = M2) = False := eq_false (by omega)
        have Y0 : ∀ d, (M2 + d = M) = False := fun d => eq_false (by omega)
        have V0 : ∀ d, (M = M2 + d) = False := fun d => eq_false (by omega)
        have U0 : (M2 = M) = False := eq_false (by omega)
        have X1 : (M + 1 = M2) = False := eq_false (by omega)
        have Y1 : ∀ d, (M2 + d = M + 1) = False := fun d => eq_false (by omega)
        have V1 : ∀ d, (M + 1 = M2 + d) = False := fun d => eq_false (by omega)
        have U1 : (M2 = M + 1) = False := eq_false (by omega)
        have X2 : (M + 2 = M2) = False := eq_false (by omega)
        have Y2 : ∀ d, (M2 + d = M + 2) = False := fun d => eq_false (by omega)
        have V2 : ∀ d, (M + 2 = M2 + d) = False := fun d => eq_false (by omega)
        have U2 : (M2 = M + 2) = False := eq_false (by omega)
        have X3 : (M + 3 = M2) = False := eq_false (by omega)
        have Y3 : ∀ d, (M2 + d = M + 3) = False := fun d => eq_false (by omega)
        have V3 : ∀ d, (M + 3 = M2 + d) = False := fun d => eq_false (by omega)
        have U3 : (M2 = M + 3) = False := eq_false (by omega)
        have wj : IntKind.i64.wrap ((j : Int) + 1) = ((j + 1 : Nat) : Int) := by rw [i64_in _ (by omega)]; omega
        have nbq : ∀ q, q < N → ∀ d, (M2 + d = q) = False := fun q hq d => eq_false (by omega)
        by_cases cj : j < n' + 1
        case neg =>
          have ej : j = n' + 1 := by omega
          subst ej
          have cj' : (((n' + 1 : Nat) : Int) < ((n' + 1 : Nat) : Int)) = False := eq_false (by omega)
          have sm : smallE (eqAt l i) := sE.2 fun q hq => by
            obtain ⟨j', hj'⟩ := List.getElem?_of_mem hq
            have := (List.getElem?_eq_some_iff.1 hj').1
            exact hall2 j' q (by omega) hj'
          simp only [↓R0, R1, simprocAttr, -Int.reduceAbs, t25, t26, t27, t42, t43, t44, cj', wi1]
          refine ⟨c - 1, by omega, i + 1, M2, by omega, rfl, fun j e hj he => ?_, fun q hq => by rw [hh2 q (by omega)]; exact hh q hq, by omega, rfl⟩
          by_cases x : j = i
          · subst x; rw [ee] at he; cases he; exact sm
          · exact hall j e (by omega) he
        have cj' : ((j : Int) < ((n' + 1 : Nat) : Int)) = True := eq_true (by omega)
        obtain ⟨q, hq⟩ : ∃ q, ((eqAt l i).coef ++ [(eqAt l i).rhs])[j]? = some q := ⟨_, List.getElem?_eq_getElem (by omega)⟩
        have gt := rat j q hq
        have g3 : j * 3 + 3 ≤ (n' + 1) * 3 := by omega
        have ql : q.cells.length = 3 := rfl
        have qo : q.cells.all okCell = true := rfl
        have qs : setR [.bool false, .string ⟨⟨[]⟩⟩, .string ⟨⟨[]⟩⟩] 0 q.cells = q.cells := rfl
        have qc1 : q.cells[1]? = some (.string ⟨⟨q.n⟩⟩) := rfl
        have qc2 : q.cells[2]? = some (.string ⟨⟨q.d⟩⟩) := rfl
        have bad : ¬ smallQ q → ¬ ∀ e ∈ l, smallE e := fun h1 h2 => h1 (sE.1 (h2 _ (eqAt_mem c1)) q (List.mem_of_getElem? hq))
        generalize q.cells = QC at *
        by_cases s1 : q.n.length > 4
        · have s1' : ((q.n.length : Int) > 4) = True := eq_true (by omega)
          rw [if_neg (bad (fun h => by have := h.1; omega))]
          simp only [↓R0, R1, simprocAttr, -Int.reduceAbs, t25, t26, t27, t42, t43, t44, br, cj, cj', gt, g3, rl, ql, qo, qs, qc1, qc2, s1', X0, Y0, V0, U0, X1, Y1, V1, U1, X2, Y2, V2, U2, X3, Y3, V3, U3, Fin, isEnd, resL, res1]
          refine ⟨_, rfl, rfl, fun q hq => ?_⟩
          have nb := nbq q hq
          simp only [↓R0, R1, simprocAttr, -Int.reduceAbs, nb]
          rw [hh2 q (by omega)]; exact hh q hq
        have s1' : ((q.n.length : Int) > 4) = False := eq_false (by omega)
        by_cases s2 : q.d.length > 4
        · have s2' : ((q.d.length : Int) > 4) = True := eq_true (by omega)
          rw [if_neg (bad (fun h => by have := h.2; omega))]
          simp only [↓R0, R1, simprocAttr, -Int.reduceAbs, t25, t26, t27, t42, t43, t44, br, cj, cj', gt, g3, rl, ql, qo, qs, qc1, qc2, s1', s2', X0, Y0, V0, U0, X1, Y1, V1, U1, X2, Y2, V2, U2, X3, Y3, V3, U3, Fin, isEnd, resL, res1]
          refine ⟨_, rfl, rfl, fun q hq => ?_⟩
          have nb := nbq q hq
          simp only [↓R0, R1, simprocAttr, -Int.reduceAbs, nb]
          rw [hh2 q (by omega)]; exact hh q hq
        have s2' : ((q.d.length : Int) > 4) = False := eq_false (by omega)
        simp only [↓R0, R1, simprocAttr, -Int.reduceAbs, t25, t26, t27, t42, t43, t44, br, cj, cj', gt, g3, rl, ql, qo, qs, qc1, qc2, s1', s2', wj, X0, Y0, V0, U0, X1, Y1, V1, U1, X2, Y2, V2, U2, X3, Y3, V3, U3]
        refine ⟨d - 1, by omega, j + 1, M2 + 1, by omega, rfl, fun j' q' hj' hq' => ?_, fun x hx => ?_, by omega, rfl⟩
        · by_cases x : j' = j
          · subst x; rw [hq] at hq'; cases hq'; exact ⟨by omega, by omega⟩
          · exact hall2 j' q' (by omega) hq'
        · have nb : ∀ d, (M2 + d = x) = False := fun d => eq_false (by omega)
          simp only [↓R0, R1, simprocAttr, -Int.reduceAbs, nb]
          exact hh2 x hx
      · have z' : (n' = 0) = False := eq_false z
        have z2 : (n' ≤ 0) = False := eq_false (by omega)
        have ov0 : (n' * 40 ≤ 140737488355328) = True := eq_true (by omega)
        have nlc : (n' + 1 ≤ n') = False := eq_false (by omega)
        have ov : ((n' + 1) * 40 ≤ 140737488355328) = True := eq_true (by omega)
        generalize rqs ((eqAt l i).coef ++ [(eqAt l i).rhs]) = RL at *
        generalize rqs (eqAt l i).coef = RC at *
        generalize (eqAt l i).rhs.cells = RH at *
        simp only [↓R0, R1, simprocAttr, -Int.reduceAbs, t25, t26, t27, c1, c1', hbb, q1, q2, nk, e5l, e5o, e50, e51, e5s, big', sr, xM, xh, rok, rlc, rhl, rho, rht, rhs0, Nat.zero_add, Nat.zero_mul, List.nil_append, z', z2, ov0, nlc, ov, rap]
        refine lp_parts (fun d tm hp2 nx => ∃ (j M2 : Nat), d + j = n' + 1 ∧ tmget tm 25 = .slice (some ⟨k, off, none⟩) l.length cc ∧ tmget tm 26 = .int .i64 l.length ∧ tmget tm 27 = .int .i64 i ∧
            tmget tm 42 = .slice (some ⟨M + 4, 0, none⟩) (n' + 1) (n' + 1) ∧ tmget tm 43 = .int .i64 ((n' + 1 : Nat) : Int) ∧ tmget tm 44 = .int .i64 j ∧ hget hp2 (M + 4) = some ⟨35, 3, false, RL⟩ ∧ (∀ j' q, j' < j → ((eqAt l i).coef ++ [(eqAt l i).rhs])[j']? = some q → smallQ q) ∧ (∀ q, q < M → hget hp2 q = hget hp q) ∧ M + 5 ≤ M2 ∧ nx = M2 + 0) ?_ (n' + 1)
          ⟨0, M + 5, by omega, ?_, ?_, ?_, ?_, ?_, ?_, ?_, fun j q hj => absurd hj (Nat.not_lt_zero j), ?_, Nat.le_refl _, rfl⟩
        rotate_left
        all_goals first | (simp only [↓R0, R1, simprocAttr, -Int.reduceAbs, t25, t26, t27]; done) | (simp only [↓R0, R1, simprocAttr, -Int.reduceAbs, t25, t26, t27]; rfl) | (simp only [↓R0, R1, simprocAttr, -Int.reduceAbs, t25, t26, t27, z]; done) | (simp only [↓R0, R1, simprocAttr, -Int.reduceAbs, t25, t26, t27, z]; rfl) | skip
        · intro q hq
          have nb : ∀ j, (M + j = q) = False := fun j => eq_false (by omega)
          simp only [↓R0, R1, simprocAttr, -Int.reduceAbs, nb]
        rintro d tm hp2 nx ⟨j, M2, hd, t25, t26, t27, t42, t43, t44, br, hall2, hh2, hM2, hnx⟩
        rw [hnx]
        clear hnx nx
        have X0 : (M = M2) = False := eq_false (by omega)
        have Y0 : ∀ d, (M2 + d = M) = False := fun d => eq_false (by omega)
        have V0 : ∀ d, (M = M2 + d) = False := fun d => eq_false (by omega)
        have U0 : (M2 = M) = False := eq_false (by omega)
        have X1 : (M + 1 = M2) = False := eq_false (by omega)
        have Y1 : ∀ d, (M2 + d = M + 1) = False := fun d => eq_false (by omega)
        have V1 : ∀ d, (M + 1 = M2 + d) = False := fun d => eq_false (by omega)
        have U1 : (M2 = M + 1) = False := eq_false (by omega)
        have X2 : (M + 2 = M2) = False := eq_false (by omega)
        have Y2 : ∀ d, (M2 + d = M + 2) = False := fun d => eq_false (by omega)
        have V2 : ∀ d, (M + 2 = M2 + d) = False := fun d => eq_false (by omega)
        have U2 : (M2 = M + 2) = False := eq_false (by omega)
        have X3 : (M + 3 = M2) = False := eq_false (by omega)
        have Y3 : ∀ d, (M2 + d = M + 3) = False := fun d => eq_false (by omega)
        have V3 : ∀ d, (M + 3 = M2 + d) = False := fun d => eq_false (by omega)
        have U3 : (M2 = M + 3) = False := eq_false (by omega)
        have X4 : (M + 4 = M2) = False := eq_false (by omega)
        have Y4 : ∀ d, (M2 + d = M + 4) = False := fun d => eq_false (by omega)
        have V4 : ∀ d, (M + 4 = M2 + d) = False := fun d => eq_false (by omega)
        have U4 : (M2 = M + 4) = False := eq_false (by omega)
        have wj : IntKind.i64.wrap ((j : Int) + 1) = ((j + 1 : Nat) : Int) := by rw [i64_in _ (by omega)]; omega
        have nbq : ∀ q, q < N → ∀ d, (M2 + d = q) = False := fun q hq d => eq_false (by omega)
        by_cases cj : j < n' + 1
        case neg =>
          have ej : j = n' + 1 := by omega
          subst ej
          have cj' : (((n' + 1 : Nat) : Int) < ((n' + 1 : Nat) : Int)) = False := eq_false (by omega)
          have sm : smallE (eqAt l i) := sE.2 fun q hq => by
            obtain ⟨j', hj'⟩ := List.getElem?_of_mem hq
            have := (List.getElem?_eq_some_iff.1 hj').1
            exact hall2 j' q (by omega) hj'
          simp only [↓R0, R1, simprocAttr, -Int.reduceAbs, t25, t26, t27, t42, t43, t44, cj', wi1]
          refine ⟨c - 1, by omega, i + 1, M2, by omega, rfl, fun j e hj he => ?_, fun q hq => by rw [hh2 q (by omega)]; exact hh q hq, by omega, rfl⟩
          by_cases x : j = i
          · subst x; rw [ee] at he; cases he; exact sm
          · exact hall j e (by omega) he
        have cj' : ((j : Int) < ((n' + 1 : Nat) : Int)) = True := eq_true (by omega)
        obtain ⟨q, hq⟩ : ∃ q, ((eqAt l i).coef ++ [(eqAt l i).rhs])[j]? = some q := ⟨_, List.getElem?_eq_getElem (by omega)⟩
        have gt := rat j q hq
        have g3 : j * 3 + 3 ≤ (n' + 1) * 3 := by omega
        have ql : q.cells.length = 3 := rfl
        have qo : q.cells.all okCell = true := rfl
        have qs : setR [.bool false, .string ⟨⟨[]⟩⟩, .string ⟨⟨[]⟩⟩] 0 q.cells = q.cells := rfl
        have qc1 : q.cells[1]? = some (.string ⟨⟨q.n⟩⟩) := rfl
        have qc2 : q.cells[2]? = some (.string ⟨⟨q.d⟩⟩) := rfl
        have bad : ¬ smallQ q → ¬ ∀ e ∈ l, smallE e := fun h1 h2 => h1 (sE.1 (h2 _ (eqAt_mem c1)) q (List.mem_of_getElem? hq))
        generalize q.cells = QC at *
        by_cases s1 : q.n.length > 4
        · have s1' : ((q.n.length : Int) > 4) = True := eq_true (by omega)
          rw [if_neg (bad (fun h => by have := h.1; omega))]
          simp only [↓R0, R1, simprocAttr, -Int.reduceAbs, t25, t26, t27, t42, t43, t44, br, cj, cj', gt, g3, rl, ql, qo, qs, qc1, qc2, s1', X0, Y0, V0, U0, X1, Y1, V1, U1, X2, Y2, V2, U2, X3, Y3, V3, U3, X4, Y4, V4, U4, Fin, isEnd, resL, res1]
          refine ⟨_, rfl, rfl, fun q hq => ?_⟩
          have nb := nbq q hq
          simp only [↓R0, R1, simprocAttr, -Int.reduceAbs, nb]
          rw [hh2 q (by omega)]; exact hh q hq
        have s1' : ((q.n.length : Int) > 4) = False := eq_false (by omega)
        by_cases s2 : q.d.length > 4
        · have s2' : ((q.d.length : Int) > 4) = True := eq_true (by omega)
          rw [if_neg (bad (fun h => by have := h.2; omega))]
          simp only [↓R0, R1, simprocAttr, -Int.reduceAbs, t25, t26, t27, t42, t43, t44, br, cj, cj', gt, g3, rl, ql, qo, qs, qc1, qc2, s1', s2', X0, Y0, V0, U0, X1, Y1, V1, U1, X2, Y2, V2, U2, X3, Y3, V3, U3, X4, Y4, V4, U4, Fin, isEnd, resL, res1]
          refine ⟨_, rfl, rfl, fun q hq => ?_⟩
          have nb := nbq q hq
          simp only [↓R0, R1, simprocAttr, -Int.reduceAbs, nb]
          rw [hh2 q (by omega)]; exact hh q hq
        have s2' : ((q.d.length : Int) > 4) = False := eq_false (by omega)
        simp only [↓R0, R1, simprocAttr, -Int.reduceAbs, t25, t26, t27, t42, t43, t44, br, cj, cj', gt, g3, rl, ql, qo, qs, qc1, qc2, s1', s2', wj, X0, Y0, V0, U0, X1, Y1, V1, U1, X2, Y2, V2, U2, X3, Y3, V3, U3, X4, Y4, V4, U4]
        refine ⟨d - 1, by omega, j + 1, M2 + 1, by omega, rfl, fun j' q' hj' hq' => ?_, fun x hx => ?_, by omega, rfl⟩
        · by_cases x : j' = j
          · subst x; rw [hq] at hq'; cases hq'; exact ⟨by omega, by omega⟩
          · exact hall2 j' q' (by omega) hq'
        · have nb : ∀ d, (M2 + d = x) = False := fun d => eq_false (by omega)
          simp only [↓R0, R1, simprocAttr, -Int.reduceAbs, nb]
          exact hh2 x hx
  · rcases (by omega : l.length ≤ 10 ∨ l.length > 100) with hl | hl
    · have g1 : (n > 8) = True := eq_true (by omega)
      have g2 : (n ≤ 100) = False := eq_false (by omega)
      have g3 : ((l.length : Int) > 10) = False := eq_false (by omega)
      have g4 : ((l.length : Int) ≤ 100) = True := eq_true (by omega)
      have g5 : (l.length ≤ 100) = True := eq_true (by omega)
      simp only [c4, G0, Nat.reduceAdd]
      simp only [↓R0, R1, simprocAttr, -Int.reduceAbs, g1, g2, g3, g4, g5]
      refine lp_parts (fun c tm hp nx => ∃ (i M : Nat), c + i = l.length ∧ tmget tm 25 = .slice a l.length cc ∧ tmget tm 26 = .int .i64 l.length ∧ tmget tm 27 = .int .i64 i ∧ (∀ j e, j < i → l[j]? = some e → smallE e) ∧ (∀ q, q < N → hget hp q = hget h q) ∧ N ≤ M ∧ nx = M + 0) ?_ l.length
        ⟨0, N, by omega, ?_, ?_, ?_, fun j e hj => absurd hj (Nat.not_lt_zero j), fun q _ => rfl, Nat.le_refl _, rfl⟩
      rotate_left
      all_goals first | (simp only [↓R0, R1, simprocAttr, -Int.reduceAbs]; done) | (simp only [↓R0, R1, simprocAttr, -Int.reduceAbs]; rfl) | skip
      rintro c tm hp nx ⟨i, M, hc, t25, t26, t27, hall, hh, hM, hnx⟩
      rw [hnx]
      clear hnx nx
      by_cases c1 : i < l.length
      case neg =>
        have e : i = l.length := by omega
        subst e
        have c1' : ((l.length : Int) < (l.length : Int)) = False := eq_false (by omega)
        have all : ∀ e ∈ l, smallE e := fun e he => by
          obtain ⟨j, hj⟩ := List.getElem?_of_mem he
          exact hall j e (List.getElem?_eq_some_iff.1 hj).1 hj
        rw [if_pos all]
        simp only [↓R0, R1, simprocAttr, -Int.reduceAbs, t25, t26, t27, c1', Fin, isEnd, resL, res1]
        exact ⟨_, rfl, rfl, hh⟩
      obtain ⟨k, off, blk, a', n', c', ea, hb, q1, q2, hn', hl'⟩ := eq_at hx c1
      subst ea
      have hk := hN _ _ hb
      have hbb : hget hp k = some blk := by rw [hh k hk]; exact hb
      have nk : ∀ j, (M + j = k) = False := fun j => eq_false (by omega)
      have c1' : ((i : Int) < (l.length : Int)) = True := eq_true (by omega)
      have wi1 : IntKind.i64.wrap ((i : Int) + 1) = ((i + 1 : Nat) : Int) := by rw [i64_in _ (by omega)]; omega
      have ee := eqAt_some c1
      have e5l : (Value.slice a' n' c' :: (eqAt l i).tl).length = 5 := rfl
      have e5o : (Value.slice a' n' c' :: (eqAt l i).tl).all okCell = true := rfl
      have e50 : (Value.slice a' n' c' :: (eqAt l i).tl)[0]? = some (.slice a' n' c') := rfl
      have e51 : ((Value.slice a' n' c' :: (eqAt l i).tl).drop 1).take 3 = (eqAt l i).rhs.cells := rfl
      have e5s : setR [.slice none 0 0, .bool false, .string ⟨⟨[]⟩⟩, .string ⟨⟨[]⟩⟩, .int .i64 0] 0 (Value.slice a' n' c' :: (eqAt l i).tl) = Value.slice a' n' c' :: (eqAt l i).tl := rfl
      generalize Value.slice a' n' c' :: (eqAt l i).tl = C5 at *
      by_cases big : (eqAt l i).coef.length > 10
      · have big' : ((n' : Int) > 10) = True := eq_true (by omega)
        rw [if_neg (fun h => by have := (h _ (eqAt_mem c1)).1; omega)]
        simp only [↓R0, R1, simprocAttr, -Int.reduceAbs, t25, t26, t27, c1, c1', hbb, q1, q2, nk, e5l, e5o, e50, e5s, big', Fin, isEnd, resL, res1]
        refine ⟨_, rfl, rfl, fun q hq => ?_⟩
        have nb : ∀ d, (M + d = q) = False := fun d => eq_false (by omega)
        simp only [↓R0, R1, simprocAttr, -Int.reduceAbs, nb]
        exact hh q hq
      have big' : ((n' : Int) > 10) = False := eq_false (by omega)
      have xM := fun j b hp' => extL_ge (show N ≤ M by omega) j b h hp'
      have xh : ExtL N h hp := hh
      have sr : ∀ {hp' : Heap}, ExtL N h hp' → srcOf hp' 3 n' a' = some (rqs (eqAt l i).coef) := fun he => src_any (listAt_mono (fun q b e => by rw [he q (hN _ _ e)]; exact e) (fun _ _ e => e) hl')
      have l1 : ((eqAt l i).coef ++ [(eqAt l i).rhs]).length = n' + 1 := by rw [List.length_append, ← hn']; rfl
      have rl := rqs_len ((eqAt l i).coef ++ [(eqAt l i).rhs])
      rw [l1] at rl
      have rok := rqs_ok (eqAt l i).coef
      have rlc := rqs_len (eqAt l i).coef
      rw [← hn'] at rlc
      have rap := rqs_app (eqAt l i).coef (eqAt l i).rhs
      have rone : n' = 0 → (eqAt l i).rhs.cells = rqs ((eqAt l i).coef ++ [(eqAt l i).rhs]) := fun e => by
        rw [List.eq_nil_of_length_eq_zero (hn'.symm.trans e)]; exact rqs_one _
      have rat : ∀ j q, ((eqAt l i).coef ++ [(eqAt l i).rhs])[j]? = some q → ((rqs ((eqAt l i).coef ++ [(eqAt l i).rhs])).drop (j * 3)).take 3 = q.cells := fun j q h => rqs_at _ j q h
      have rhl : (eqAt l i).rhs.cells.length = 3 := rfl
      have rho : (eqAt l i).rhs.cells.all okCell = true := rfl
      have rht : (eqAt l i).rhs.cells.take 3 = (eqAt l i).rhs.cells := rfl
      have rhs0 : setR [.bool false, .string ⟨⟨[]⟩⟩, .string ⟨⟨[]⟩⟩] 0 (eqAt l i).rhs.cells = (eqAt l i).rhs.cells := rfl
      have sE : smallE (eqAt l i) ↔ ∀ q ∈ (eqAt l i).coef ++ [(eqAt l i).rhs], smallQ q := ⟨fun h => h.2, fun h => ⟨by omega, h⟩⟩
      by_cases z : n' = 0
      · have rone' := rone z
        rw [rone'] at e51 rhl rho rht rhs0
        clear rone' rap
        have z' : (n' = 0) = True := eq_true z
        generalize rqs ((eqAt l i).coef ++ [(eqAt l i).rhs]) = RL at *
        generalize rqs (eqAt l i).coef = RC at *
        simp only [↓R0, R1, simprocAttr, -Int.reduceAbs, t25, t26, t27, c1, c1', hbb, q1, q2, nk, e5l, e5o, e50, e51, e5s, big', sr, xM, xh, rok, rlc, rhl, rho, rht, rhs0, Nat.zero_add, Nat.zero_mul, List.nil_append, z']
        refine lp_parts (fun d tm hp2 nx => ∃ (j M2 : Nat), d + j = n' + 1 ∧ tmget tm 25 = .slice (some ⟨k, off, none⟩) l.length cc ∧ tmget tm 26 = .int .i64 l.length ∧ tmget tm 27 = .int .i64 i ∧
            tmget tm 42 = .slice (some ⟨M + 3, 0, none⟩) (n' + 1) (n' + 1) ∧ tmget tm 43 = .int .i64 ((n' + 1 : Nat) : Int) ∧ tmget tm 44 = .int .i64 j ∧ hget hp2 (M + 3) = some ⟨35, 3, false, RL⟩ ∧ (∀ j' q, j' < j → ((eqAt l i).coef ++ [(eqAt l i).rhs])[j']? = some q → smallQ q) ∧ (∀ q, q < M → hget hp2 q = hget hp q) ∧ M + 4 ≤ M2 ∧ nx = M2 + 0) ?_ (n' + 1)
          ⟨0, M + 4, by omega, ?_, ?_, ?_, ?_, ?_, ?_, ?_, fun j q hj => absurd hj (Nat.not_lt_zero j), ?_, Nat.le_refl _, rfl⟩
        rotate_left
        all_goals first | (simp only [↓R0, R1, simprocAttr, -Int.reduceAbs, t25, t26, t27]; done) | (simp only [↓R0, R1, simprocAttr, -Int.reduceAbs, t25, t26, t27]; rfl) | (simp only [↓R0, R1, simprocAttr, -Int.reduceAbs, t25, t26, t27, z]; done) | (simp only [↓R0, R1, simprocAttr, -Int.reduceAbs, t25, t26, t27, z]; rfl) | skip
        · intro q hq
          have nb : ∀ j, (M + j = q) = False := fun j => eq_false (by omega)
          simp only [↓R0, R1, simprocAttr, -Int.reduceAbs, nb]
        rintro d tm hp2 nx ⟨j, M2, hd, t25, t26, t27, t42, t43, t44, br, hall2, hh2, hM2, hnx⟩
        rw [hnx]
        clear hnx nx
        have X0 : (M = M2) = False := eq_false (by omega)
        have Y0 : ∀ d, (M2 + d = M) = False := fun d => eq_false (by omega)
        have V0 : ∀ d, (M = M2 + d) = False := fun d => eq_false (by omega)
        have U0 : (M2 = M) = False := eq_false (by omega)
        have X1 : (M + 1 = M2) = False := eq_false (by omega)
        have Y1 : ∀ d, (M2 + d = M + 1) = False := fun d => eq_false (by omega)
        have V1 : ∀ d, (M + 1 = M2 + d) = False := fun d => eq_false (by omega)
        have U1 : (M2 = M + 1) = False := eq_false (by omega)
        have X2 : (M + 2 = M2) = False := eq_false (by omega)
        have Y2 : ∀ d, (M2 + d = M + 2) = False := fun d => eq_false (by omega)
        have V2 : ∀ d, (M + 2 = M2 + d) = False := fun d => eq_false (by omega)
        have U2 : (M2 = M + 2) = False := eq_false (by omega)
        have X3 : (M + 3 = M2) = False := eq_false (by omega)
        have Y3 : ∀ d, (M2 + d = M + 3) = False := fun d => eq_false (by omega)
        have V3 : ∀ d, (M + 3 = M2 + d) = False := fun d => eq_false (by omega)
        have U3 : (M2 = M + 3) = False := eq_false (by omega)
        have wj : IntKind.i64.wrap ((j : Int) + 1) = ((j + 1 : Nat) : Int) := by rw [i64_in _ (by omega)]; omega
        have nbq : ∀ q, q < N → ∀ d, (M2 + d = q) = False := fun q hq d => eq_false (by omega)
        by_cases cj : j < n' + 1
        case neg =>
          have ej : j = n' + 1 := by omega
          subst ej
          have cj' : (((n' + 1 : Nat) : Int) < ((n' + 1 : Nat) : Int)) = False := eq_false (by omega)
          have sm : smallE (eqAt l i) := sE.2 fun q hq => by
            obtain ⟨j', hj'⟩ := List.getElem?_of_mem hq
            have := (List.getElem?_eq_some_iff.1 hj').1
            exact hall2 j' q (by omega) hj'
          simp only [↓R0, R1, simprocAttr, -Int.reduceAbs, t25, t26, t27, t42, t43, t44, cj', wi1]
          refine ⟨c - 1, by omega, i + 1, M2, by omega, rfl, fun j e hj he => ?_, fun q hq => by rw [hh2 q (by omega)]; exact hh q hq, by omega, rfl⟩
          by_cases x : j = i
          · subst x; rw [ee] at he; cases he; exact sm
          · exact hall j e (by omega) he
        have cj' : ((j : Int) < ((n' + 1 : Nat) : Int)) = True := eq_true (by omega)
        obtain ⟨q, hq⟩ : ∃ q, ((eqAt l i).coef ++ [(eqAt l i).rhs])[j]? = some q := ⟨_, List.getElem?_eq_getElem (by omega)⟩
        have gt := rat j q hq
        have g3 : j * 3 + 3 ≤ (n' + 1) * 3 := by omega
        have ql : q.cells.length = 3 := rfl
        have qo : q.cells.all okCell = true := rfl
        have qs : setR [.bool false, .string ⟨⟨[]⟩⟩, .string ⟨⟨[]⟩⟩] 0 q.cells = q.cells := rfl
        have qc1 : q.cells[1]? = some (.string ⟨⟨q.n⟩⟩) := rfl
        have qc2 : q.cells[2]? = some (.string ⟨⟨q.d⟩⟩) := rfl
        have bad : ¬ smallQ q → ¬ ∀ e ∈ l, smallE e := fun h1 h2 => h1 (sE.1 (h2 _ (eqAt_mem c1)) q (List.mem_of_getElem? hq))
        generalize q.cells = QC at *
        by_cases s1 : q.n.length > 4
        · have s1' : ((q.n.length : Int) > 4) = True := eq_true (by omega)
          rw [if_neg (bad (fun h => by have := h.1; omega))]
          simp only [↓R0, R1, simprocAttr, -Int.reduceAbs, t25, t26, t27, t42, t43, t44, br, cj, cj', gt, g3, rl, ql, qo, qs, qc1, qc2, s1', X0, Y0, V0, U0, X1, Y1, V1, U1, X2, Y2, V2, U2, X3, Y3, V3, U3, Fin, isEnd, resL, res1]
          refine ⟨_, rfl, rfl, fun q hq => ?_⟩
          have nb := nbq q hq
          simp only [↓R0, R1, simprocAttr, -Int.reduceAbs, nb]
          rw [hh2 q (by omega)]; exact hh q hq
        have s1' : ((q.n.length : Int) > 4) = False := eq_false (by omega)
        by_cases s2 : q.d.length > 4
        · have s2' : ((q.d.length : Int) > 4) = True := eq_true (by omega)
          rw [if_neg (bad (fun h => by have := h.2; omega))]
          simp only [↓R0, R1, simprocAttr, -Int.reduceAbs, t25, t26, t27, t42, t43, t44, br, cj, cj', gt, g3, rl, ql, qo, qs, qc1, qc2, s1', s2', X0, Y0, V0, U0, X1, Y1, V1, U1, X2, Y2, V2, U2, X3, Y3, V3, U3, Fin, isEnd, resL, res1]
          refine ⟨_, rfl, rfl, fun q hq => ?_⟩
          have nb := nbq q hq
          simp only [↓R0, R1, simprocAttr, -Int.reduceAbs, nb]
          rw [hh2 q (by omega)]; exact hh q hq
        have s2' : ((q.d.length : Int) > 4) = False := eq_false (by omega)
        simp only [↓R0, R1, simprocAttr, -Int.reduceAbs, t25, t26, t27, t42, t43, t44, br, cj, cj', gt, g3, rl, ql, qo, qs, qc1, qc2, s1', s2', wj, X0, Y0, V0, U0, X1, Y1, V1, U1, X2, Y2, V2, U2, X3, Y3, V3, U3]
        refine ⟨d - 1, by omega, j + 1, M2 + 1, by omega, rfl, fun j' q' hj' hq' => ?_, fun x hx => ?_, by omega, rfl⟩
        · by_cases x : j' = j
          · subst x; rw [hq] at hq'; cases hq'; exact ⟨by omega, by omega⟩
          · exact hall2 j' q' (by omega) hq'
        · have nb : ∀ d, (M2 + d = x) = False := fun d => eq_false (by omega)
          simp only [↓R0, R1, simprocAttr, -Int.reduceAbs, nb]
          exact hh2 x hx
      · have z' : (n' = 0) = False := eq_false z
        have z2 : (n' ≤ 0) = False := eq_false (by omega)
        have ov0 : (n' * 40 ≤ 140737488355328) = True := eq_true (by omega)
        have nlc : (n' + 1 ≤ n') = False := eq_false (by omega)
        have ov : ((n' + 1) * 40 ≤ 140737488355328) = True := eq_true (by omega)
        generalize rqs ((eqAt l i).coef ++ [(eqAt l i).rhs]) = RL at *
        generalize rqs (eqAt l i).coef = RC at *
        generalize (eqAt l i).rhs.cells = RH at *
        simp only [↓R0, R1, simprocAttr, -Int.reduceAbs, t25, t26, t27, c1, c1', hbb, q1, q2, nk, e5l, e5o, e50, e51, e5s, big', sr, xM, xh, rok, rlc, rhl, rho, rht, rhs0, Nat.zero_add, Nat.zero_mul, List.nil_append, z', z2, ov0, nlc, ov, rap]
        refine lp_parts (fun d tm hp2 nx => ∃ (j M2 : Nat), d + j = n' + 1 ∧ tmget tm 25 = .slice (some ⟨k, off, none⟩) l.length cc ∧ tmget tm 26 = .int .i64 l.length ∧ tmget tm 27 = .int .i64 i ∧
            tmget tm 42 = .slice (some ⟨M + 4, 0, none⟩) (n' + 1) (n' + 1) ∧ tmget tm 43 = .int .i64 ((n' + 1 : Nat) : Int) ∧ tmget tm 44 = .int .i64 j ∧ hget hp2 (M + 4) = some ⟨35, 3, false, RL⟩ ∧ (∀ j' q, j' < j → ((eqAt l i).coef ++ [(eqAt l i).rhs])[j']? = some q → smallQ q) ∧ (∀ q, q < M → hget hp2 q = hget hp q) ∧ M + 5 ≤ M2 ∧ nx = M2 + 0) ?_ (n' + 1)
          ⟨0, M + 5, by omega, ?_, ?_, ?_, ?_, ?_, ?_, ?_, fun j q hj => absurd hj (Nat.not_lt_zero j), ?_, Nat.le_refl _, rfl⟩
        rotate_left
        all_goals first | (simp only [↓R0, R1, simprocAttr, -Int.reduceAbs, t25, t26, t27]; done) | (simp only [↓R0, R1, simprocAttr, -Int.reduceAbs, t25, t26, t27]; rfl) | (simp only [↓R0, R1, simprocAttr, -Int.reduceAbs, t25, t26, t27, z]; done) | (simp only [↓R0, R1, simprocAttr, -Int.reduceAbs, t25, t26, t27, z]; rfl) | skip
        · intro q hq
          have nb : ∀ j, (M + j = q) = False := fun j => eq_false (by omega)
          simp only [↓R0, R1, simprocAttr, -Int.reduceAbs, nb]
        rintro d tm hp2 nx ⟨j, M2, hd, t25, t26, t27, t42, t43, t44, br, hall2, hh2, hM2, hnx⟩
        rw [hnx]
        clear hnx nx
        have X0 : (M = M2) = False := eq_false (by omega)
        have Y0 : ∀ d, (M2 + d = M) = False := fun d => eq_false (by omega)
        have V0 : ∀ d, (M = M2 + d) = False := fun d => eq_false (by omega)
        have U0 : (M2 = M) = False := eq_false (by omega)
        have X1 : (M + 1 = M2) = False := eq_false (by omega)
        have Y1 : ∀ d, (M2 + d = M + 1) = False := fun d => eq_false (by omega)
        have V1 : ∀ d, (M + 1 = M2 + d) = False := fun d => eq_false (by omega)
        have U1 : (M2 = M + 1) = False := eq_false (by omega)
        have X2 : (M + 2 = M2) = False := eq_false (by omega)
        have Y2 : ∀ d, (M2 + d = M + 2) = False := fun d => eq_false (by omega)
        have V2 : ∀ d, (M + 2 = M2 + d) = False := fun d => eq_false (by omega)
        have U2 : (M2 = M + 2) = False := eq_false (by omega)
        have X3 : (M + 3 = M2) = False := eq_false (by omega)
        have Y3 : ∀ d, (M2 + d = M + 3) = False := fun d => eq_false (by omega)
        have V3 : ∀ d, (M + 3 = M2 + d) = False := fun d => eq_false (by omega)
        have U3 : (M2 = M + 3) = False := eq_false (by omega)
        have X4 : (M + 4 = M2) = False := eq_false (by omega)
        have Y4 : ∀ d, (M2 + d = M + 4) = False := fun d => eq_false (by omega)
        have V4 : ∀ d, (M + 4 = M2 + d) = False := fun d => eq_false (by omega)
        have U4 : (M2 = M + 4) = False := eq_false (by omega)
        have wj : IntKind.i64.wrap ((j : Int) + 1) = ((j + 1 : Nat) : Int) := by rw [i64_in _ (by omega)]; omega
        have nbq : ∀ q, q < N → ∀ d, (M2 + d = q) = False := fun q hq d => eq_false (by omega)
        by_cases cj : j < n' + 1
        case neg =>
          have ej : j = n' + 1 := by omega
          subst ej
          have cj' : (((n' + 1 : Nat) : Int) < ((n' + 1 : Nat) : Int)) = False := eq_false (by omega)
          have sm : smallE (eqAt l i) := sE.2 fun q hq => by
            obtain ⟨j', hj'⟩ := List.getElem?_of_mem hq
            have := (List.getElem?_eq_some_iff.1 hj').1
            exact hall2 j' q (by omega) hj'
          simp only [↓R0, R1, simprocAttr, -Int.reduceAbs, t25, t26, t27, t42, t43, t44, cj', wi1]
          refine ⟨c - 1, by omega, i + 1, M2, by omega, rfl, fun j e hj he => ?_, fun q hq => by rw [hh2 q (by omega)]; exact hh q hq, by omega, rfl⟩
          by_cases x : j = i
          · subst x; rw [ee] at he; cases he; exact sm
          · exact hall j e (by omega) he
        have cj' : ((j : Int) < ((n' + 1 : Nat) : Int)) = True := eq_true (by omega)
        obtain ⟨q, hq⟩ : ∃ q, ((eqAt l i).coef ++ [(eqAt l i).rhs])[j]? = some q := ⟨_, List.getElem?_eq_getElem (by omega)⟩
        have gt := rat j q hq
        have g3 : j * 3 + 3 ≤ (n' + 1) * 3 := by omega
        have ql : q.cells.length = 3 := rfl
        have qo : q.cells.all okCell = true := rfl
        have qs : setR [.bool false, .string ⟨⟨[]⟩⟩, .string ⟨⟨[]⟩⟩] 0 q.cells = q.cells := rfl
        have qc1 : q.cells[1]? = some (.string ⟨⟨q.n⟩⟩) := rfl
        have qc2 : q.cells[2]? = some (.string ⟨⟨q.d⟩⟩) := rfl
        have bad : ¬ smallQ q → ¬ ∀ e ∈ l, smallE e := fun h1 h2 => h1 (sE.1 (h2 _ (eqAt_mem c1)) q (List.mem_of_getElem? hq))
        generalize q.cells = QC at *
        by_cases s1 : q.n.length > 4
        · have s1' : ((q.n.length : Int) > 4) = True := eq_true (by omega)
          rw [if_neg (bad (fun h => by have := h.1; omega))]
          simp only [↓R0, R1, simprocAttr, -Int.reduceAbs, t25, t26, t27, t42, t43, t44, br, cj, cj', gt, g3, rl, ql, qo, qs, qc1, qc2, s1', X0, Y0, V0, U0, X1, Y1, V1, U1, X2, Y2, V2, U2, X3, Y3, V3, U3, X4, Y4, V4, U4, Fin, isEnd, resL, res1]
          refine ⟨_, rfl, rfl, fun q hq => ?_⟩
          have nb := nbq q hq
          simp only [↓R0, R1, simprocAttr, -Int.reduceAbs, nb]
          rw [hh2 q (by omega)]; exact hh q hq
        have s1' : ((q.n.length : Int) > 4) = False := eq_false (by omega)
        by_cases s2 : q.d.length > 4
        · have s2' : ((q.d.length : Int) > 4) = True := eq_true (by omega)
          rw [if_neg (bad (fun h => by have := h.2; omega))]
          simp only [↓R0, R1, simprocAttr, -Int.reduceAbs, t25, t26, t27, t42, t43, t44, br, cj, cj', gt, g3, rl, ql, qo, qs, qc1, qc2, s1', s2', X0, Y0, V0, U0, X1, Y1, V1, U1, X2, Y2, V2, U2, X3, Y3, V3, U3, X4, Y4, V4, U4, Fin, isEnd, resL, res1]
          refine ⟨_, rfl, rfl, fun q hq => ?_⟩
          have nb := nbq q hq
          simp only [↓R0, R1, simprocAttr, -Int.reduceAbs, nb]
          rw [hh2 q (by omega)]; exact hh q hq
        have s2' : ((q.d.length : Int) > 4) = False := eq_false (by omega)
        simp only [↓R0, R1, simprocAttr, -Int.reduceAbs, t25, t26, t27, t42, t43, t44, br, cj, cj', gt, g3, rl, ql, qo, qs, qc1, qc2, s1', s2', wj, X0, Y0, V0, U0, X1, Y1, V1, U1, X2, Y2, V2, U2, X3, Y3, V3, U3, X4, Y4, V4, U4]
        refine ⟨d - 1, by omega, j + 1, M2 + 1, by omega, rfl, fun j' q' hj' hq' => ?_, fun x hx => ?_, by omega, rfl⟩
        · by_cases x : j' = j
          · subst x; rw [hq] at hq'; cases hq'; exact ⟨by omega, by omega⟩
          · exact hall2 j' q' (by omega) hq'
        · have nb : ∀ d, (M2 + d = x) = False := fun d => eq_false (by omega)
          simp only [↓R0, R1, simprocAttr, -Int.reduceAbs, nb]
          exact hh2 x hx
    · have g1 : (n > 8) = True := eq_true (by omega)
      have g2 : (n ≤ 100) = False := eq_false (by omega)
      have g3 : ((l.length : Int) > 10) = True := eq_true (by omega)
      have g4 : ((l.length : Int) ≤ 100) = False := eq_false (by omega)
      have g5 : (l.length ≤ 100) = False := eq_false (by omega)
      simp only [c4, G0, Nat.reduceAdd]
      simp only [↓R0, R1, simprocAttr, -Int.reduceAbs, g1, g2, g3, g4, g5]
      refine lp_parts (fun c tm hp nx => ∃ (i M : Nat), c + i = l.length ∧ tmget tm 25 = .slice a l.length cc ∧ tmget tm 26 = .int .i64 l.length ∧ tmget tm 27 = .int .i64 i ∧ (∀ j e, j < i → l[j]? = some e → smallE e) ∧ (∀ q, q < N → hget hp q = hget h q) ∧ N ≤ M ∧ nx = M + 0) ?_ l.length
        ⟨0, N, by omega, ?_, ?_, ?_, fun j e hj => absurd hj (Nat.not_lt_zero j), fun q _ => rfl, Nat.le_refl _, rfl⟩
      rotate_left
      all_goals first | (simp only [↓R0, R1, simprocAttr, -Int.reduceAbs]; done) | (simp only [↓R0, R1, simprocAttr, -Int.reduceAbs]; rfl) | skip
      rintro c tm hp nx ⟨i, M, hc, t25, t26, t27, hall, hh, hM, hnx⟩
      rw [hnx]
      clear hnx nx
      by_cases c1 : i < l.length
      case neg =>
        have e : i = l.length := by omega
        subst e
        have c1' : ((l.length : Int) < (l.length : Int)) = False := eq_false (by omega)
        have all : ∀ e ∈ l, smallE e := fun e he => by
          obtain ⟨j, hj⟩ := List.getElem?_of_mem he
          exact hall j e (List.getElem?_eq_some_iff.1 hj).1 hj
        rw [if_pos all]
        simp only [↓R0, R1, simprocAttr, -Int.reduceAbs, t25, t26, t27, c1', Fin, isEnd, resL, res1]
        exact ⟨_, rfl, rfl, hh⟩
      obtain ⟨k, off, blk, a', n', c', ea, hb, q1, q2, hn', hl'⟩ := eq_at hx c1
      subst ea
      have hk := hN _ _ hb
      have hbb : hget hp k = some blk := by rw [hh k hk]; exact hb
      have nk : ∀ j, (M + j = k) = False := fun j => eq_false (by omega)
      have c1' : ((i : Int) < (l.length : Int)) = True := eq_true (by omega)
      have wi1 : IntKind.i64.wrap ((i : Int) + 1) = ((i + 1 : Nat) : Int) := by rw [i64_in _ (by omega)]; omega
      have ee := eqAt_some c1
      have e5l : (Value.slice a' n' c' :: (eqAt l i).tl).length = 5 := rfl
      have e5o : (Value.slice a' n' c' :: (eqAt l i).tl).all okCell = true := rfl
      have e50 : (Value.slice a' n' c' :: (eqAt l i).tl)[0]? = some (.slice a' n' c') := rfl
      have e51 : ((Value.slice a' n' c' :: (eqAt l i).tl).drop 1).take 3 = (eqAt l i).rhs.cells := rfl
      have e5s : setR [.slice none 0 0, .bool false, .string ⟨⟨[]⟩⟩, .string ⟨⟨[]⟩⟩, .int .i64 0] 0 (Value.slice a' n' c' :: (eqAt l i).tl) = Value.slice a' n' c' :: (eqAt l i).tl := rfl
      generalize Value.slice a' n' c' :: (eqAt l i).tl = C5 at *
      by_cases big : (eqAt l i).coef.length > 10
      · have big' : ((n' : Int) > 10) = True := eq_true (by omega)
        rw [if_neg (fun h => by have := (h _ (eqAt_mem c1)).1; omega)]
        simp only [↓R0, R1, simprocAttr, -Int.reduceAbs, t25, t26, t27, c1, c1', hbb, q1, q2, nk, e5l, e5o, e50, e5s, big', Fin, isEnd, resL, res1]
        refine ⟨_, rfl, rfl, fun q hq => ?_⟩
        have nb : ∀ d, (M + d = q) = False := fun d => eq_false (by omega)
        simp only [↓R0, R1, simprocAttr, -Int.reduceAbs, nb]
        exact hh q hq
      have big' : ((n' : Int) > 10) = False := eq_false (by omega)
      have xM := fun j b hp' => extL_ge (show N ≤ M by omega) j b h hp'
      have xh : ExtL N h hp := hh
      have sr : ∀ {hp' : Heap}, ExtL N h hp' → srcOf hp' 3 n' a' = some (rqs (eqAt l i).coef) := fun he => src_any (listAt_mono (fun q b e => by rw [he q (hN _ _ e)]; exact e) (fun _ _ e => e) hl')
      have l1 : ((eqAt l i).coef ++ [(eqAt l i).rhs]).length = n' + 1 := by rw [List.length_append, ← hn']; rfl
      have rl := rqs_len ((eqAt l i).coef ++ [(eqAt l i).rhs])
      rw [l1] at rl
      have rok := rqs_ok (eqAt l i).coef
      have rlc := rqs_len (eqAt l i).coef
      rw [← hn'] at rlc
      have rap := rqs_app (eqAt l i).coef (eqAt l i).rhs
      have rone : n' = 0 → (eqAt l i).rhs.cells = rqs ((eqAt l i).coef ++ [(eqAt l i).rhs]) := fun e => by
        rw [List.eq_nil_of_length_eq_zero (hn'.symm.trans e)]; exact rqs_one _
      have rat : ∀ j q, ((eqAt l i).coef ++ [(eqAt l i).rhs])[j]? = some q → ((rqs ((eqAt l i).coef ++ [(eqAt l i).rhs])).drop (j * 3)).take 3 = q.cells := fun j q h => rqs_at _ j q h
      have rhl : (eqAt l i).rhs.cells.length = 3 := rfl
      have rho : (eqAt l i).rhs.cells.all okCell = true := rfl
      have rht : (eqAt l i).rhs.cells.take 3 = (eqAt l i).rhs.cells := rfl
      have rhs0 : setR [.bool false, .string ⟨⟨[]⟩⟩, .string ⟨⟨[]⟩⟩] 0 (eqAt l i).rhs.cells = (eqAt l i).rhs.cells := rfl
      have sE : smallE (eqAt l i) ↔ ∀ q ∈ (eqAt l i).coef ++ [(eqAt l i).rhs], smallQ q := ⟨fun h => h.2, fun h => ⟨by omega, h⟩⟩
      by_cases z : n' = 0
      · have rone' := rone z
        rw [rone'] at e51 rhl rho rht rhs0
        clear rone' rap
        have z' : (n' = 0) = True := eq_true z
        generalize rqs ((eqAt l i).coef ++ [(eqAt l i).rhs]) = RL at *
        generalize rqs (eqAt l i).coef = RC at *
        simp only [↓R0, R1, simprocAttr, -Int.reduceAbs, t25, t26, t27, c1, c1', hbb, q1, q2, nk, e5l, e5o, e50, e51, e5s, big', sr, xM, xh, rok, rlc, rhl, rho, rht, rhs0, Nat.zero_add, Nat.zero_mul, List.nil_append, z']
        refine lp_parts (fun d tm hp2 nx => ∃ (j M2 : Nat), d + j = n' + 1 ∧ tmget tm 25 = .slice (some ⟨k, off, none⟩) l.length cc ∧ tmget tm 26 = .int .i64 l.length ∧ tmget tm 27 = .int .i64 i ∧
            tmget tm 42 = .slice (some ⟨M + 3, 0, none⟩) (n' + 1) (n' + 1) ∧ tmget tm 43 = .int .i64 ((n' + 1 : Nat) : Int) ∧ tmget tm 44 = .int .i64 j ∧ hget hp2 (M + 3) = some ⟨35, 3, false, RL⟩ ∧ (∀ j' q, j' < j → ((eqAt l i).coef ++ [(eqAt l i).rhs])[j']? = some q → smallQ q) ∧ (∀ q, q < M → hget hp2 q = hget hp q) ∧ M + 4 ≤ M2 ∧ nx = M2 + 0) ?_ (n' + 1)
          ⟨0, M + 4, by omega, ?_, ?_, ?_, ?_, ?_, ?_, ?_, fun j q hj => absurd hj (Nat.not_lt_zero j), ?_, Nat.le_refl _, rfl⟩
        rotate_left
        all_goals first | (simp only [↓R0, R1, simprocAttr, -Int.reduceAbs, t25, t26, t27]; done) | (simp only [↓R0, R1, simprocAttr, -Int.reduceAbs, t25, t26, t27]; rfl) | (simp only [↓R0, R1, simprocAttr, -Int.reduceAbs, t25, t26, t27, z]; done) | (simp only [↓R0, R1, simprocAttr, -Int.reduceAbs, t25, t26, t27, z]; rfl) | skip
        · intro q hq
          have nb : ∀ j, (M + j = q) = False := fun j => eq_false (by omega)
          simp only [↓R0, R1, simprocAttr, -Int.reduceAbs, nb]
        rintro d tm hp2 nx ⟨j, M2, hd, t25, t26, t27, t42, t43, t44, br, hall2, hh2, hM2, hnx⟩
        rw [hnx]
        clear hnx nx
        have X0 : (M = M2) = False := eq_false (by omega)
        have Y0 : ∀ d, (M2 + d = M) = False := fun d => eq_false (by omega)
        have V0 : ∀ d, (M = M2 + d) = False := fun d => eq_false (by omega)
        have U0 : (M2 = M) = False := eq_false (by omega)
        have X1 : (M + 1 = M2) = False := eq_false (by omega)
        have Y1 : ∀ d, (M2 + d = M + 1) = False := fun d => eq_false (by omega)
        have V1 : ∀ d, (M + 1 = M2 + d) = False := fun d => eq_false (by omega)
        have U1 : (M2 = M + 1) = False := eq_false (by omega)
        have X2 : (M + 2 = M2) = False := eq_false (by omega)
        have Y2 : ∀ d, (M2 + d = M + 2) = False := fun d => eq_false (by omega)
        have V2 : ∀ d, (M + 2 = M2 + d) = False := fun d => eq_false (by omega)
        have U2 : (M2 = M + 2) = False := eq_false (by omega)
        have X3 : (M + 3 = M2) = False := eq_false (by omega)
        have Y3 : ∀ d, (M2 + d = M + 3) = False := fun d => eq_false (by omega)
        have V3 : ∀ d, (M + 3 = M2 + d) = False := fun d => eq_false (by omega)
        have U3 : (M2 = M + 3) = False := eq_false (by omega)
        have wj : IntKind.i64.wrap ((j : Int) + 1) = ((j + 1 : Nat) : Int) := by rw [i64_in _ (by omega)]; omega
        have nbq : ∀ q, q < N → ∀ d, (M2 + d = q) = False := fun q hq d => eq_false (by omega)
        by_cases cj : j < n' + 1
        case neg =>
          have ej : j = n' + 1 := by omega
          subst ej
          have cj' : (((n' + 1 : Nat) : Int) < ((n' + 1 : Nat) : Int)) = False := eq_false (by omega)
          have sm : smallE (eqAt l i) := sE.2 fun q hq => by
            obtain ⟨j', hj'⟩ := List.getElem?_of_mem hq
            have := (List.getElem?_eq_some_iff.1 hj').1
            exact hall2 j' q (by omega) hj'
          simp only [↓R0, R1, simprocAttr, -Int.reduceAbs, t25, t26, t27, t42, t43, t44, cj', wi1]
          refine ⟨c - 1, by omega, i + 1, M2, by omega, rfl, fun j e hj he => ?_, fun q hq => by rw [hh2 q (by omega)]; exact hh q hq, by omega, rfl⟩
          by_cases x : j = i
          · subst x; rw [ee] at he; cases he; exact sm
          · exact hall j e (by omega) he
        have cj' : ((j : Int) < ((n' + 1 : Nat) : Int)) = True := eq_true (by omega)
        obtain ⟨q, hq⟩ : ∃ q, ((eqAt l i).coef ++ [(eqAt l i).rhs])[j]? = some q := ⟨_, List.getElem?_eq_getElem (by omega)⟩
        have gt := rat j q hq
        have g3 : j * 3 + 3 ≤ (n' + 1) * 3 := by omega
        have ql : q.cells.length = 3 := rfl
        have qo : q.cells.all okCell = true := rfl
        have qs : setR [.bool false, .string ⟨⟨[]⟩⟩, .string ⟨⟨[]⟩⟩] 0 q.cells = q.cells := rfl
        have qc1 : q.cells[1]? = some (.string ⟨⟨q.n⟩⟩) := rfl
        have qc2 : q.cells[2]? = some (.string ⟨⟨q.d⟩⟩) := rfl
        have bad : ¬ smallQ q → ¬ ∀ e ∈ l, smallE e := fun h1 h2 => h1 (sE.1 (h2 _ (eqAt_mem c1)) q (List.mem_of_getElem? hq))
        generalize q.cells = QC at *
        by_cases s1 : q.n.length > 4
        · have s1' : ((q.n.length : Int) > 4) = True := eq_true (by omega)
          rw [if_neg (bad (fun h => by have := h.1; omega))]
          simp only [↓R0, R1, simprocAttr, -Int.reduceAbs, t25, t26, t27, t42, t43, t44, br, cj, cj', gt, g3, rl, ql, qo, qs, qc1, qc2, s1', X0, Y0, V0, U0, X1, Y1, V1, U1, X2, Y2, V2, U2, X3, Y3, V3, U3, Fin, isEnd, resL, res1]
          refine ⟨_, rfl, rfl, fun q hq => ?_⟩
          have nb := nbq q hq
          simp only [↓R0, R1, simprocAttr, -Int.reduceAbs, nb]
          rw [hh2 q (by omega)]; exact hh q hq
        have s1' : ((q.n.length : Int) > 4) = False := eq_false (by omega)
        by_cases s2 : q.d.length > 4
        · have s2' : ((q.d.length : Int) > 4) = True := eq_true (by omega)
          rw [if_neg (bad (fun h => by have := h.2; omega))]
          simp only [↓R0, R1, simprocAttr, -Int.reduceAbs, t25, t26, t27, t42, t43, t44, br, cj, cj', gt, g3, rl, ql, qo, qs, qc1, qc2, s1', s2', X0, Y0, V0, U0, X1, Y1, V1, U1, X2, Y2, V2, U2, X3, Y3, V3, U3, Fin, isEnd, resL, res1]
          refine ⟨_, rfl, rfl, fun q hq => ?_⟩
          have nb := nbq q hq
          simp only [↓R0, R1, simprocAttr, -Int.reduceAbs, nb]
          rw [hh2 q (by omega)]; exact hh q hq
        have s2' : ((q.d.length : Int) > 4) = False := eq_false (by omega)
        simp only [↓R0, R1, simprocAttr, -Int.reduceAbs, t25, t26, t27, t42, t43, t44, br, cj, cj', gt, g3, rl, ql, qo, qs, qc1, qc2, s1', s2', wj, X0, Y0, V0, U0, X1, Y1, V1, U1, X2, Y2, V2, U2, X3, Y3, V3, U3]
        refine ⟨d - 1, by omega, j + 1, M2 + 1, by omega, rfl, fun j' q' hj' hq' => ?_, fun x hx => ?_, by omega, rfl⟩
        · by_cases x : j' = j
          · subst x; rw [hq] at hq'; cases hq'; exact ⟨by omega, by omega⟩
          · exact hall2 j' q' (by omega) hq'
        · have nb : ∀ d, (M2 + d = x) = False := fun d => eq_false (by omega)
          simp only [↓R0, R1, simprocAttr, -Int.reduceAbs, nb]
          exact hh2 x hx
      · have z' : (n' = 0) = False := eq_false z
        have z2 : (n' ≤ 0) = False := eq_false (by omega)
        have ov0 : (n' * 40 ≤ 140737488355328) = True := eq_true (by omega)
        have nlc : (n' + 1 ≤ n') = False := eq_false (by omega)
        have ov : ((n' + 1) * 40 ≤ 140737488355328) = True := eq_true (by omega)
        generalize rqs ((eqAt l i).coef ++ [(eqAt l i).rhs]) = RL at *
        generalize rqs (eqAt l i).coef = RC at *
        generalize (eqAt l i).rhs.cells = RH at *
        simp only [↓R0, R1, simprocAttr, -Int.reduceAbs, t25, t26, t27, c1, c1', hbb, q1, q2, nk, e5l, e5o, e50, e51, e5s, big', sr, xM, xh, rok, rlc, rhl, rho, rht, rhs0, Nat.zero_add, Nat.zero_mul, List.nil_append, z', z2, ov0, nlc, ov, rap]
        refine lp_parts (fun d tm hp2 nx => ∃ (j M2 : Nat), d + j = n' + 1 ∧ tmget tm 25 = .slice (some ⟨k, off, none⟩) l.length cc ∧ tmget tm 26 = .int .i64 l.length ∧ tmget tm 27 = .int .i64 i ∧
            tmget tm 42 = .slice (some ⟨M + 4, 0, none⟩) (n' + 1) (n' + 1) ∧ tmget tm 43 = .int .i64 ((n' + 1 : Nat) : Int) ∧ tmget tm 44 = .int .i64 j ∧ hget hp2 (M + 4) = some ⟨35, 3, false, RL⟩ ∧ (∀ j' q, j' < j → ((eqAt l i).coef ++ [(eqAt l i).rhs])[j']? = some q → smallQ q) ∧ (∀ q, q < M → hget hp2 q = hget hp q) ∧ M + 5 ≤ M2 ∧ nx = M2 + 0) ?_ (n' + 1)
          ⟨0, M + 5, by omega, ?_, ?_, ?_, ?_, ?_, ?_, ?_, fun j q hj => absurd hj (Nat.not_lt_zero j), ?_, Nat.le_refl _, rfl⟩
        rotate_left
        all_goals first | (simp only [↓R0, R1, simprocAttr, -Int.reduceAbs, t25, t26, t27]; done) | (simp only [↓R0, R1, simprocAttr, -Int.reduceAbs, t25, t26, t27]; rfl) | (simp only [↓R0, R1, simprocAttr, -Int.reduceAbs, t25, t26, t27, z]; done) | (simp only [↓R0, R1, simprocAttr, -Int.reduceAbs, t25, t26, t27, z]; rfl) | skip
        · intro q hq
          have nb : ∀ j, (M + j = q) = False := fun j => eq_false (by omega)
          simp only [↓R0, R1, simprocAttr, -Int.reduceAbs, nb]
        rintro d tm hp2 nx ⟨j, M2, hd, t25, t26, t27, t42, t43, t44, br, hall2, hh2, hM2, hnx⟩
        rw [hnx]
        clear hnx nx
        have X0 : (M = M2) = False := eq_false (by omega)
        have Y0 : ∀ d, (M2 + d = M) = False := fun d => eq_false (by omega)
        have V0 : ∀ d, (M = M2 + d) = False := fun d => eq_false (by omega)
        have U0 : (M2 = M) = False := eq_false (by omega)
        have X1 : (M + 1 = M2) = False := eq_false (by omega)
        have Y1 : ∀ d, (M2 + d = M + 1) = False := fun d => eq_false (by omega)
        have V1 : ∀ d, (M + 1 = M2 + d) = False := fun d => eq_false (by omega)
        have U1 : (M2 = M + 1) = False := eq_false (by omega)
        have X2 : (M + 2 = M2) = False := eq_false (by omega)
        have Y2 : ∀ d, (M2 + d = M + 2) = False := fun d => eq_false (by omega)
        have V2 : ∀ d, (M + 2 = M2 + d) = False := fun d => eq_false (by omega)
        have U2 : (M2 = M + 2) = False := eq_false (by omega)
        have X3 : (M + 3 = M2) = False := eq_false (by omega)
        have Y3 : ∀ d, (M2 + d = M + 3) = False := fun d => eq_false (by omega)
        have V3 : ∀ d, (M + 3 = M2 + d) = False := fun d => eq_false (by omega)
        have U3 : (M2 = M + 3) = False := eq_false (by omega)
        have X4 : (M + 4 = M2) = False := eq_false (by omega)
        have Y4 : ∀ d, (M2 + d = M + 4) = False := fun d => eq_false (by omega)
        have V4 : ∀ d, (M + 4 = M2 + d) = False := fun d => eq_false (by omega)
        have U4 : (M2 = M + 4) = False := eq_false (by omega)
        have wj : IntKind.i64.wrap ((j : Int) + 1) = ((j + 1 : Nat) : Int) := by rw [i64_in _ (by omega)]; omega
        have nbq : ∀ q, q < N → ∀ d, (M2 + d = q) = False := fun q hq d => eq_false (by omega)
        by_cases cj : j < n' + 1
        case neg =>
          have ej : j = n' + 1 := by omega
          subst ej
          have cj' : (((n' + 1 : Nat) : Int) < ((n' + 1 : Nat) : Int)) = False := eq_false (by omega)
          have sm : smallE (eqAt l i) := sE.2 fun q hq => by
            obtain ⟨j', hj'⟩ := List.getElem?_of_mem hq
            have := (List.getElem?_eq_some_iff.1 hj').1
            exact hall2 j' q (by omega) hj'
          simp only [↓R0, R1, simprocAttr, -Int.reduceAbs, t25, t26, t27, t42, t43, t44, cj', wi1]
          refine ⟨c - 1, by omega, i + 1, M2, by omega, rfl, fun j e hj he => ?_, fun q hq => by rw [hh2 q (by omega)]; exact hh q hq, by omega, rfl⟩
          by_cases x : j = i
          · subst x; rw [ee] at he; cases he; exact sm
          · exact hall j e (by omega) he
        have cj' : ((j : Int) < ((n' + 1 : Nat) : Int)) = True := eq_true (by omega)
        obtain ⟨q, hq⟩ : ∃ q, ((eqAt l i).coef ++ [(eqAt l i).rhs])[j]? = some q := ⟨_, List.getElem?_eq_getElem (by omega)⟩
        have gt := rat j q hq
        have g3 : j * 3 + 3 ≤ (n' + 1) * 3 := by omega
        have ql : q.cells.length = 3 := rfl
        have qo : q.cells.all okCell = true := rfl
        have qs : setR [.bool false, .string ⟨⟨[]⟩⟩, .string ⟨⟨[]⟩⟩] 0 q.cells = q.cells := rfl
        have qc1 : q.cells[1]? = some (.string ⟨⟨q.n⟩⟩) := rfl
        have qc2 : q.cells[2]? = some (.string ⟨⟨q.d⟩⟩) := rfl
        have bad : ¬ smallQ q → ¬ ∀ e ∈ l, smallE e := fun h1 h2 => h1 (sE.1 (h2 _ (eqAt_mem c1)) q (List.mem_of_getElem? hq))
        generalize q.cells = QC at *
        by_cases s1 : q.n.length > 4
        · have s1' : ((q.n.length : Int) > 4) = True := eq_true (by omega)
          rw [if_neg (bad (fun h => by have := h.1; omega))]
          simp only [↓R0, R1, simprocAttr, -Int.reduceAbs, t25, t26, t27, t42, t43, t44, br, cj, cj', gt, g3, rl, ql, qo, qs, qc1, qc2, s1', X0, Y0, V0, U0, X1, Y1, V1, U1, X2, Y2, V2, U2, X3, Y3, V3, U3, X4, Y4, V4, U4, Fin, isEnd, resL, res1]
          refine ⟨_, rfl, rfl, fun q hq => ?_⟩
          have nb := nbq q hq
          simp only [↓R0, R1, simprocAttr, -Int.reduceAbs, nb]
          rw [hh2 q (by omega)]; exact hh q hq
        have s1' : ((q.n.length : Int) > 4) = False := eq_false (by omega)
        by_cases s2 : q.d.length > 4
        · have s2' : ((q.d.length : Int) > 4) = True := eq_true (by omega)
          rw [if_neg (bad (fun h => by have := h.2; omega))]
          simp only [↓R0, R1, simprocAttr, -Int.reduceAbs, t25, t26, t27, t42, t43, t44, br, cj, cj', gt, g3, rl, ql, qo, qs, qc1, qc2, s1', s2', X0, Y0, V0, U0, X1, Y1, V1, U1, X2, Y2, V2, U2, X3, Y3, V3, U3, X4, Y4, V4, U4, Fin, isEnd, resL, res1]
          refine ⟨_, rfl, rfl, fun q hq => ?_⟩
          have nb := nbq q hq
          simp only [↓R0, R1, simprocAttr, -Int.reduceAbs, nb]
          rw [hh2 q (by omega)]; exact hh q hq
        have s2' : ((q.d.length : Int) > 4) = False := eq_false (by omega)
        simp only [↓R0, R1, simprocAttr, -Int.reduceAbs, t25, t26, t27, t42, t43, t44, br, cj, cj', gt, g3, rl, ql, qo, qs, qc1, qc2, s1', s2', wj, X0, Y0, V0, U0, X1, Y1, V1, U1, X2, Y2, V2, U2, X3, Y3, V3, U3, X4, Y4, V4, U4]
        refine ⟨d - 1, by omega, j + 1, M2 + 1, by omega, rfl, fun j' q' hj' hq' => ?_, fun x hx => ?_, by omega, rfl⟩
        · by_cases x : j' = j
          · subst x; rw [hq] at hq'; cases hq'; exact ⟨by omega, by omega⟩
          · exact hall2 j' q' (by omega) hq'
        · have nb : ∀ d, (M2 + d = x) = False := fun d => eq_false (by omega)
          simp only [↓R0, R1, simprocAttr, -Int.reduceAbs, nb]
          exact hh2 x hx
end Go.Eng
end
section
set_option linter.unusedVariables false
set_option linter.unusedSimpArgs false
set_option linter.unusedSectionVars false
set_option maxRecDepth 20000
namespace Go.Eng
open Go Go.Proofs Go.IntWalk
def rqAt (l : List RQ) (i : Nat) : RQ := (l[i]?).getD rq0
def qsV (l : List RQ) (i : Nat) : Rat := (rqAt l i).v
theorem rqAt_some {l : List RQ} {i : Nat} (h : i < l.length) : l[i]? = some (rqAt l i) := by unfold rqAt; rw [List.getElem?_eq_getElem h]; rfl
theorem rqAt_mem {l : List RQ} {i : Nat} (h : i < l.length) : rqAt l i ∈ l := List.mem_of_getElem? (rqAt_some h)
theorem rq_at {h : Heap} {a : Option Addr} {n c : Nat} {l : List RQ} {i : Nat} (e : listAt 3 dec1 h (.slice a n c) = some l) (hi : i < n) :
    ∃ k off blk, a = some ⟨k, off, none⟩ ∧ hget h k = some blk ∧ off + i * 3 + 3 ≤ blk.cells.length ∧ (blk.cells.drop (off + i * 3)).take 3 = (rqAt l i).cells := by
  obtain ⟨a', c', ev⟩ := listAt_sl e
  injection ev with _ x _
  obtain ⟨k, off, blk, ea, hb, _, _, hat⟩ := listAt_get e (by omega)
  obtain ⟨h1, h2⟩ := hat i _ (rqAt_some (by omega))
  exact ⟨k, off, blk, ea, hb, h1, dec1_eq h2⟩
def holdsE (e : EqR) (vs : List RQ) : Bool := decide (lin e.coef.length (qsV e.coef) (qsV vs) = e.rhs.v)
def HoldOK (e : EqR) (vs : List RQ) : Prop := e.coef.length ≤ vs.length ∧ e.coef.length ≤ 10 ∧ (∀ q ∈ e.coef, q.ok 1000) ∧ e.rhs.ok 1000 ∧ ∀ i, i < e.coef.length → (rqAt vs i).ok 200000000
instance {e : EqR} {vs : List RQ} : Decidable (HoldOK e vs) := by unfold HoldOK; infer_instance
end Go.Eng
end
section
set_option linter.unusedVariables false
set_option linter.unusedSimpArgs false
set_option linter.unusedSectionVars false
set_option maxRecDepth 20000
namespace Go.Eng
open Go Go.Proofs Go.IntWalk
def ZL (n : Nat) (l : List EqR) : Row → Prop := nullM (n + 1) l.length (eqM n l)
theorem chk0 {n : Int} {l : List EqR} (c : chkL n l = 0) : 0 ≤ n ∧ n ≤ 100 ∧ l.length ≤ 100 ∧ ∀ e ∈ l, (e.coef.length : Int) = n := by
  unfold chkL at c
  split at c
  · cases c
  rename_i h
  split at c
  · exact ⟨by omega, by omega, by omega, by assumption⟩
  · cases c
theorem chk0_nat {n : Nat} {l : List EqR} (c : chkL n l = 0) : ∀ e ∈ l, e.coef.length = n := fun e he => by have := (chk0 c).2.2.2 e he; omega
theorem eqM_lin {n : Nat} {l : List EqR} {i : Nat} (hl : (eqAt l i).coef.length = n) (X : Row) : lin (n + 1) (eqM n l i) X = lin n (qsV (eqAt l i).coef) X + (eqAt l i).rhs.v * X n := by
  unfold lin
  rw [sm]
  have e1 : eqM n l i n = (eqAt l i).rhs.v := by unfold eqM EqR.at; rw [if_neg (by omega)]
  rw [e1, sm_congr (g := fun j => qsV (eqAt l i).coef j * X j) fun j hj => by
    have : eqM n l i j = qsV (eqAt l i).coef j := by unfold eqM EqR.at; rw [if_pos hj]; rfl
    rw [this]]
theorem ZL_iff {n : Nat} {l : List EqR} (hl : ∀ e ∈ l, e.coef.length = n) (X : Row) : ZL n l X ↔ ∀ e ∈ l, lin n (qsV e.coef) X + e.rhs.v * X n = 0 := by
  constructor
  · intro h e he
    obtain ⟨i, hi⟩ := List.getElem?_of_mem he
    have hlt := (List.getElem?_eq_some_iff.1 hi).1
    rw [eqAt_some hlt] at hi
    cases hi
    rw [← eqM_lin (hl _ he)]
    exact h i hlt
  · intro h i hi
    rw [eqM_lin (hl _ (eqAt_mem hi))]
    exact h _ (eqAt_mem hi)
theorem solL_out {n : Nat} {l : List EqR} (c : chkL n l = 0) : OutP n (ZL n l) 14 17 (solveL n l).1 (solveL n l).2 := by
  unfold solveL lsOf
  rw [if_pos c, Int.toNat_natCast]
  exact solveK_out 14 17 n l.length (eqM n l)
theorem solL_nil {n : Int} {l : List EqR} (h : (solveL n l).1 ≠ 0) : (solveL n l).2 = [] := by
  unfold solveL at h ⊢
  split at h
  · rename_i c
    rw [if_pos c]
    unfold solveK at h ⊢
    split at h
    · rename_i a; rw [if_pos a]
    · rename_i a
      rw [if_neg a]
      split at h
      · rename_i b; rw [if_pos b]
      · exact absurd rfl h
  · rename_i c; rw [if_neg c]
theorem conL {n : Nat} {l : List EqR} : ConP n (ZL n l) ↔ ¬ clashM n l.length (lsOf n l) := (red_sys n l.length (eqM n l)).con
theorem detL {n : Nat} {l : List EqR} {k : Nat} (hk : k < n) : detK n (lsOf n l) k ↔ DetP n (ZL n l) k := detK_iff hk
theorem freeVL_nil {n : Nat} {l : List EqR} (h : ∀ k, k < n → DetP n (ZL n l) k) : freeVL n l = [] := by
  unfold freeVL
  rw [Int.toNat_natCast]
  split
  · unfold freeK
    refine List.filter_eq_nil_iff.2 fun k hk => ?_
    have hk : k < n := List.mem_range.1 hk
    rw [decide_eq_true ((detL hk).2 (h k hk))]
    simp
  · rfl
theorem rankL_full {n : Nat} {l : List EqR} (c : chkL n l = 0) (h : ∀ k, k < n → DetP n (ZL n l) k) : rankL n l = n := by
  unfold rankL
  rw [if_pos c, Int.toNat_natCast]
  exact (red_sys n l.length (eqM n l)).full.2.2 h
def vq (l : List Rat) : List RQ := l.map RQ.of
theorem vq_len (l : List Rat) : (vq l).length = l.length := by unfold vq; rw [List.length_map]
theorem vq_at {l : List Rat} {j : Nat} {x : Rat} (h : l[j]? = some x) : rqAt (vq l) j = RQ.of x := by
  unfold rqAt vq
  rw [List.getElem?_map, h]; rfl
theorem vq_v {l : List Rat} {j : Nat} {x : Rat} (h : l[j]? = some x) : qsV (vq l) j = x := by
  unfold qsV
  rw [vq_at h, RQ.of_v]
theorem solL_sol {n : Nat} {l : List EqR} (c : chkL n l = 0) (e0 : (solveL n l).1 = 0) : (solveL n l).2.length = n ∧ rankL n l = n ∧ freeVL n l = [] ∧
    (∀ e ∈ l, lin n (qsV e.coef) (qsV (vq (solveL n l).2)) = e.rhs.v) ∧ ∀ Y : Row, (∀ e ∈ l, lin n (qsV e.coef) Y = e.rhs.v) → ∀ k, k < n → qsV (vq (solveL n l).2) k = Y k := by
  have O := solL_out c
  have L := chk0_nat c
  by_cases hc : ConP n (ZL n l)
  case neg => have := (O.c hc).1; rw [e0] at this; cases this
  by_cases hd : ∀ k, k < n → DetP n (ZL n l) k
  case neg => have := (O.o hc hd).1; rw [e0] at this; cases this
  obtain ⟨_, h2, h3⟩ := O.s hc hd
  refine ⟨h2, rankL_full c hd, freeVL_nil hd, fun e he => ?_, fun Y hY k hk => ?_⟩
  · obtain ⟨X, hX, h1⟩ := hc
    have z := (ZL_iff L X).1 hX e he
    rw [h1] at z
    rw [lin_congr (r' := qsV e.coef) (x' := X) (fun _ _ => rfl) (fun j hj => vq_v (h3 X hX h1 j hj))]
    grind
  · have zY : ZL n l (fun j => if j = n then -1 else Y j) := (ZL_iff L _).2 fun e he => by
      rw [lin_congr (r' := qsV e.coef) (x' := Y) (fun _ _ => rfl) (fun j hj => if_neg (by omega)), hY e he, if_pos rfl]
      grind
    have := h3 _ zY (if_pos rfl) k hk
    rw [if_neg (by omega)] at this
    exact vq_v this
theorem intC_list {h : Heap} {k e s : Nat} {x : Bool} {c : List Nat} (hb : hget h k = some ⟨e, s, x, intC c⟩) (hc : c ≠ []) : listAt 1 decN h (.slice (some ⟨k, 0, none⟩) c.length c.length) = some (c.map fun (i : Nat) => ((i : Nat) : Int)) := by
  have lI : (intC c).length = c.length := by unfold intC; rw [List.length_map]
  obtain ⟨d, hd⟩ : ∃ d, c.length = d + 1 := ⟨c.length - 1, by have := List.length_pos_iff.2 hc; omega⟩
  unfold listAt
  have la : lay 1 h (.slice (some ⟨k, 0, none⟩) c.length c.length) = some (intC c) := by
    unfold lay
    rw [hd]
    simp only [hb]
    rw [if_pos ⟨by omega, by rw [lI]; omega⟩, List.drop_zero, List.take_of_length_le (by rw [lI]; omega)]
  rw [la]
  show many 1 decN c.length _ = _
  refine many_some (by rw [List.length_map]) fun i p hp' => ?_
  have hi : i < c.length := by
    have := (List.getElem?_eq_some_iff.1 hp').1
    rw [List.length_map] at this; exact this
  rw [List.getElem?_map, List.getElem?_eq_getElem hi] at hp'
  cases hp'
  have hlt : i < (intC c).length := by omega
  have g : (intC c)[i]? = some (.int .i64 ((c[i] : Nat) : Int)) := by
    unfold intC
    rw [List.getElem?_map, List.getElem?_eq_getElem hi]; rfl
  rw [Nat.mul_one, List.drop_eq_getElem_cons hlt]
  rw [List.getElem?_eq_getElem hlt] at g
  rw [Option.some.inj g]; rfl
theorem free_call {h : Heap} {n : Int} {b : Nat} {l : List EqR} {sl : Value} (hx : decRows h sl = some l) (hs : SysOK n l) :
    ∃ a D mm, nwL spFreeV [.int .i64 n, sl] h b = some (.slice a (freeVL n l).length (freeVL n l).length, D, mm) ∧ (∀ q, q < b → hget (D ++ h) q = hget h q) ∧
      ∀ hp, ExtL (b + mm) (D ++ h) hp → listAt 1 decN hp (.slice a (freeVL n l).length (freeVL n l).length) = some ((freeVL n l).map fun (i : Nat) => ((i : Nat) : Int)) := by
  have e : nwL spFreeV [.int .i64 n, sl] h b = some ((intNL (freeVL n l)).val (b + ·), newH (intNL (freeVL n l)) (b + ·) (intNL (freeVL n l)).m, (intNL (freeVL n l)).m) := by
    unfold nwL
    rw [freeV_of hx hs]; rfl
  rw [e]
  generalize freeVL n l = r at *
  unfold intNL
  by_cases z : r = []
  · rw [if_pos z]
    refine ⟨none, [], 0, ?_, fun _ _ => rfl, fun hp _ => ?_⟩
    · rw [z]; rfl
    · rw [z]; rfl
  · rw [if_neg z]
    refine ⟨some ⟨b + 0, 0, none⟩, _, 1, rfl, fun q hq => ?_, fun hp he => ?_⟩
    · have : (b + 0 = q) = False := eq_false (by omega)
      simp only [newH, List.cons_append, List.nil_append, hget, this, if_false]
    · have g := he (b + 0) (by omega)
      rw [show hget (newH ⟨1, fun σ => Value.slice (some ⟨σ 0, 0, none⟩) r.length r.length, fun _ => 3, fun _ => 1, fun _ _ => intC r⟩ (b + ·) 1 ++ h) (b + 0) = some ⟨3, 1, false, intC r⟩ from if_pos rfl] at g
      exact intC_list g z
theorem rank_of {h : Heap} {n : Int} {l : List EqR} {sl : Value} (hx : decRows h sl = some l) (hs : SysOK n l) : spRank [.int .i64 n, sl] h = some (.int .i64 (rankL n l)) := by
  unfold spRank
  simp only [hx]
  exact if_pos hs
theorem great24_of {h : Heap} {n : Int} {l : List EqR} {sl : Value} (hx : decRows h sl = some l) (hm : l.length ≤ 9223372036854775807) : spGreat [.int .i64 n, sl] h = some (.int .i64 (if smallS n l then 0 else 1)) := by
  unfold spGreat
  simp only [hx]
  exact if_pos hm
theorem chk_of {h : Heap} {n : Int} {l : List EqR} {sl : Value} (hx : decRows h sl = some l) : spLCheck [.int .i64 n, sl] h = some (.int .i64 (chkL n l)) := by
  unfold spLCheck
  simp only [hx]
theorem ext_rows {N : Nat} {h hp : Heap} {sl : Value} {l : List EqR} (hN : ∀ k b, hget h k = some b → k < N) (hx : decRows h sl = some l) (he : ExtL N h hp) : decRows hp sl = some l := decRows_mono (fun k b e => by rw [he k (hN _ _ e)]; exact e) hx
end Go.Eng
end
section
set_option linter.unusedVariables false
set_option linter.unusedSimpArgs false
set_option linter.unusedSectionVars false
set_option maxRecDepth 20000
namespace Go.Eng
open Go Go.Proofs Go.IntWalk
theorem ext_rats {N : Nat} {h hp : Heap} {sl : Value} {l : List RQ} (hN : ∀ k b, hget h k = some b → k < N) (hx : listAt 3 dec1 h sl = some l) (he : ExtL N h hp) : listAt 3 dec1 hp sl = some l := listAt_mono (fun k b e => by rw [he k (hN _ _ e)]; exact e) (fun _ _ e => e) hx
theorem extL_up {N M : Nat} {h hp hp' : Heap} (hM : N ≤ M) (a : ExtL N h hp) (b : ∀ q, q < M → hget hp' q = hget hp q) : ExtL N h hp' := fun k hk => by rw [b k (by omega), a k hk]
def sameTo (xs ys : Nat → Rat) (i : Nat) : Prop := ∀ j, j < i → xs j = ys j
instance {xs ys : Nat → Rat} {i : Nat} : Decidable (sameTo xs ys i) := by unfold sameTo; infer_instance
def allTo (l : List EqR) (vs : List RQ) (i : Nat) : Prop := ∀ j, j < i → holdsE (eqAt l j) vs = true
instance {l : List EqR} {vs : List RQ} {i : Nat} : Decidable (allTo l vs i) := by unfold allTo; infer_instance
theorem solL_chk {n : Nat} {l : List EqR} (h : (solveL n l).1 = 0) : chkL n l = 0 := by
  unfold solveL at h
  split at h
  · assumption
  · exact h
end Go.Eng
end
section
set_option linter.unusedVariables false
set_option linter.unusedSimpArgs false
set_option linter.unusedSectionVars false
namespace Go.Eng
def blkC (f : Nat → List Value) : Nat → List Value
  | 0 => []
  | n + 1 => blkC f n ++ f n
theorem blkC_len {f : Nat → List Value} {w : Nat} : ∀ {n}, (∀ i, i < n → (f i).length = w) → (blkC f n).length = n * w
  | 0, _ => by simp [blkC]
  | n + 1, h => by rw [blkC, List.length_append, blkC_len (n := n) fun i hi => h i (by omega), h n (by omega), Nat.succ_mul]
theorem blkC_congr {f g : Nat → List Value} : ∀ {n}, (∀ i, i < n → f i = g i) → blkC f n = blkC g n
  | 0, _ => rfl
  | n + 1, h => by rw [blkC, blkC, blkC_congr (n := n) fun i hi => h i (by omega), h n (by omega)]
theorem blkC_at {f : Nat → List Value} {w : Nat} : ∀ {n j}, (∀ i, i < n → (f i).length = w) → j < n → ((blkC f n).drop (j * w)).take w = f j
  | 0, j, _, h => absurd h (Nat.not_lt_zero j)
  | n + 1, j, hf, h => by
    have hl := blkC_len (f := f) (w := w) (n := n) fun i hi => hf i (by omega)
    rw [blkC]
    by_cases e : j = n
    · subst e
      rw [List.drop_append_of_le_length (by omega), List.drop_of_length_le (by omega), List.nil_append, List.take_of_length_le (by rw [hf j (by omega)]; exact Nat.le_refl _)]
    · have : j * w + w ≤ n * w := by rw [← Nat.succ_mul]; exact Nat.mul_le_mul_right _ (by omega)
      rw [List.drop_append_of_le_length (by omega), List.take_append_of_le_length (by rw [List.length_drop]; omega)]
      exact blkC_at (fun i hi => hf i (by omega)) (by omega)
theorem blkC_set {f : Nat → List Value} {w o : Nat} {xs : List Value} (ho : o + xs.length ≤ w) : ∀ {n j}, (∀ i, i < n → (f i).length = w) → j < n → setR (blkC f n) (j * w + o) xs = blkC (fun q => if q = j then setR (f q) o xs else f q) n
  | 0, j, _, h => absurd h (Nat.not_lt_zero j)
  | n + 1, j, hf, h => by
    have hl := blkC_len (f := f) (w := w) (n := n) fun i hi => hf i (by omega)
    rw [blkC, blkC]
    by_cases e : j = n
    · subst e
      have ec : blkC (fun q => if q = j then setR (f q) o xs else f q) j = blkC f j := blkC_congr fun q hq => if_neg (by omega)
      rw [setR_app_right _ _ _ _ (by omega), hl, Nat.add_sub_cancel_left, if_pos rfl, ec]
    · have : j * w + w ≤ n * w := by rw [← Nat.succ_mul]; exact Nat.mul_le_mul_right _ (by omega)
      rw [setR_app_left _ _ _ _ (by omega), blkC_set ho (n := n) (fun i hi => hf i (by omega)) (by omega), if_neg (fun x => e x.symm)]
theorem rows_blk {h : Heap} {k e s m : Nat} {x : Bool} {f : Nat → List Value} {l : List EqR} (hb : hget h k = some ⟨e, s, x, blkC f m⟩) (hl : l.length = m) (hf : ∀ i, i < m → ∃ sl, f i = sl :: (eqAt l i).tl ∧ listAt 3 dec1 h sl = some (eqAt l i).coef) :
    decRows h (.slice (some ⟨k, 0, none⟩) m m) = some l := by
  have h5 : ∀ i, i < m → (f i).length = 5 := fun i hi => by
    obtain ⟨sl, e1, _⟩ := hf i hi
    rw [e1]; rfl
  have hlen := blkC_len h5
  unfold decRows listAt
  have la : lay 5 h (.slice (some ⟨k, 0, none⟩) m m) = some (blkC f m) := by
    cases m with
    | zero =>
      show (match hget h k with | some blk => if 0 ≤ 0 ∧ 0 + 0 * 5 ≤ blk.cells.length then some ((blk.cells.drop 0).take (0 * 5)) else none | none => none) = _
      rw [hb]
      rfl
    | succ d =>
      unfold lay
      simp only [hb]
      rw [if_pos ⟨by omega, by omega⟩, List.drop_zero, List.take_of_length_le (by omega)]
  rw [la]
  show many 5 (decEq h) m _ = _
  refine many_some hl fun i p hp => ?_
  have hi : i < l.length := (List.getElem?_eq_some_iff.1 hp).1
  rw [eqAt_some hi] at hp
  cases hp
  rw [blkC_at h5 (by omega)]
  obtain ⟨sl, e1, e2⟩ := hf i (by omega)
  rw [e1]
  exact decEq_of e2
end Go.Eng
end
section
set_option linter.unusedVariables false
set_option linter.unusedSimpArgs false
set_option linter.unusedSectionVars false
set_option maxRecDepth 20000
namespace Go.Eng
open Go Go.Proofs Go.IntWalk
end Go.Eng
end
section
set_option linter.unusedVariables false
set_option linter.unusedSimpArgs false
set_option linter.unusedSectionVars false
set_option maxRecDepth 20000
namespace Go.Eng
open Go Go.Proofs Go.IntWalk
theorem rqs_list {h : Heap} {k e s : Nat} {x : Bool} {l : List RQ} {n : Nat} (hb : hget h k = some ⟨e, s, x, rqs l⟩) (hn : l.length = n) (h0 : 0 < n) : listAt 3 dec1 h (.slice (some ⟨k, 0, none⟩) n n) = some l := by
  have hl := rqs_len l
  obtain ⟨d, hd⟩ : ∃ d, n = d + 1 := ⟨n - 1, by omega⟩
  unfold listAt
  have la : lay 3 h (.slice (some ⟨k, 0, none⟩) n n) = some (rqs l) := by
    unfold lay
    rw [hd]
    simp only [hb]
    rw [if_pos ⟨by omega, by omega⟩, ← hd, List.drop_zero, List.take_of_length_le (by omega)]
  rw [la]
  show many 3 dec1 n _ = _
  refine many_some hn fun i q hq => ?_
  rw [rqs_at _ _ _ hq]; rfl
end Go.Eng
end
section
set_option linter.unusedVariables false
set_option linter.unusedSimpArgs false
set_option linter.unusedSectionVars false
set_option maxRecDepth 20000
namespace Go.Eng
open Go Go.Proofs Go.IntWalk
def scF (ρ : Nat → Nat) (n : Nat) (l : List EqR) (j : Nat) : List Value := .slice (some ⟨ρ j, 0, none⟩) n n :: (eqAt l j).tl
def updN (ρ : Nat → Nat) (i v : Nat) : Nat → Nat := fun j => if j = i then v else ρ j
theorem updN_eq (ρ : Nat → Nat) (i v : Nat) : updN ρ i v i = v := if_pos rfl
theorem updN_ne {ρ : Nat → Nat} {i v j : Nat} (h : j ≠ i) : updN ρ i v j = ρ j := if_neg h
def ScS (hp : Heap) (N M n : Nat) (l : List EqR) (i : Nat) (sl : Value) : Prop :=
  (i = 0 ∧ sl = .slice none 0 0) ∨ (0 < i ∧ ∃ (kL : Nat) (x : Bool) (ρ : Nat → Nat), sl = .slice (some ⟨kL, 0, none⟩) i i ∧ hget hp kL = some ⟨37, 5, x, blkC (scF ρ n l) i⟩ ∧ (N ≤ kL ∧ kL < M) ∧
    ∀ j, j < i → (∃ y, hget hp (ρ j) = some ⟨35, 3, y, rqs (eqAt l j).coef⟩) ∧ N ≤ ρ j ∧ ρ j < M ∧ ρ j ≠ kL)
theorem ScS.rows {hp hp' : Heap} {N M n : Nat} {l : List EqR} {sl : Value} (H : ScS hp N M n l l.length sl) (hn : 0 < n) (hl : ∀ e ∈ l, e.coef.length = n) (he : ExtL M hp hp') : decRows hp' sl = some l := by
  rcases H with ⟨z, rfl⟩ | ⟨_, kL, x, ρ, rfl, hk, hb, hr⟩
  · rw [List.eq_nil_of_length_eq_zero z]; rfl
  · refine rows_blk (f := scF ρ n l) (by rw [he kL hb.2]; exact hk) rfl fun i hi => ?_
    obtain ⟨⟨y, a⟩, b, c, _⟩ := hr i hi
    exact ⟨_, rfl, rqs_list (by rw [he _ c]; exact a) (hl _ (eqAt_mem hi)) hn⟩
theorem ScS.sl {hp : Heap} {N M n i : Nat} {l : List EqR} {sl : Value} (H : ScS hp N M n l i sl) : ∃ a, sl = .slice a i i := by
  rcases H with ⟨z, rfl⟩ | ⟨_, kL, x, ρ, rfl, _⟩
  · exact ⟨none, by rw [z]⟩
  · exact ⟨_, rfl⟩
theorem int_at {h : Heap} {a : Option Addr} {n c : Nat} {l : List Int} {i : Nat} (e : listAt 1 decN h (.slice a n c) = some l) (hi : i < n) :
    ∃ k off blk, a = some ⟨k, off, none⟩ ∧ hget h k = some blk ∧ off + i * 1 + 1 ≤ blk.cells.length ∧ blk.cells[off + i * 1]? = some (.int .i64 ((l[i]?).getD 0)) := by
  obtain ⟨a', c', ev⟩ := listAt_sl e
  injection ev with _ x _
  obtain ⟨k, off, blk, ea, hb, _, _, hat⟩ := listAt_get e (by omega)
  obtain ⟨h1, h2⟩ := hat i _ (List.getElem?_eq_getElem (by omega))
  refine ⟨k, off, blk, ea, hb, h1, ?_⟩
  have := cell1_of (decN_eq h2)
  rw [this, List.getElem?_eq_getElem (by omega)]; rfl
theorem rv_ne {q : RQ} (h : (sv q.s q.n).sign ≠ 0) : q.v ≠ 0 := by
  intro e
  unfold RQ.v rv at e
  rw [Rat.divInt_eq_div] at e
  have hd : ((dv q.d : Int) : Rat) ≠ 0 := fun x => by have := Rat.intCast_eq_zero_iff.1 x; have := dv_pos q.d; omega
  have := Rat.intCast_eq_zero_iff.1 (div_eq_zero hd e)
  rw [this] at h
  exact h rfl
theorem ceq3 (q : RQ) : ceq [.b, .s, .s] q.cells q.cells = some true := by
  simp only [RQ.cells, ceq, Option.map_some, decide_true, Bool.and_true]
theorem solve_call2 {h : Heap} {n : Int} {b : Nat} {l : List EqR} {sl : Value} (hx : decRows h sl = some l) (hs : SysOK n l) :
    ∃ a D mm, nwL spSolve [.int .i64 n, sl] h b = some (.tuple ⟨[.slice a (solveL n l).2.length (solveL n l).2.length, .int .i64 (solveL n l).1]⟩, D, mm) ∧ (∀ q, q < b → hget (D ++ h) q = hget h q) ∧
      (∀ hp, ExtL (b + mm) (D ++ h) hp → listAt 3 dec1 hp (.slice a (solveL n l).2.length (solveL n l).2.length) = some (vq (solveL n l).2)) ∧ ∀ k off s, a = some ⟨k, off, s⟩ → k < b + mm := by
  have e : nwL spSolve [.int .i64 n, sl] h b = some ((solNL (solveL n l)).val (b + ·), newH (solNL (solveL n l)) (b + ·) (solNL (solveL n l)).m, (solNL (solveL n l)).m) := by
    unfold nwL
    rw [solve_of hx hs]; rfl
  rw [e]
  generalize solveL n l = r at *
  unfold solNL
  by_cases z : r.2 = []
  · rw [if_pos z]
    refine ⟨none, [], 0, ?_, fun _ _ => rfl, fun hp _ => ?_, fun _ _ _ e => by cases e⟩
    · rw [z]; rfl
    · rw [z]; rfl
  · rw [if_neg z]
    refine ⟨some ⟨b + 0, 0, none⟩, _, 1, rfl, fun q hq => ?_, fun hp he => ?_, fun k _ _ e => by cases e; omega⟩
    · have : (b + 0 = q) = False := eq_false (by omega)
      simp only [newH, List.cons_append, List.nil_append, hget, this, if_false]
    · have g := he (b + 0) (by omega)
      rw [show hget (newH ⟨1, fun σ => Value.tuple ⟨[.slice (some ⟨σ 0, 0, none⟩) r.2.length r.2.length, .int .i64 r.1]⟩, fun _ => 35, fun _ => 3, fun _ _ => ratC r.2⟩ (b + ·) 1 ++ h) (b + 0) = some ⟨35, 3, false, ratC r.2⟩ from if_pos rfl] at g
      exact ratC_list g z
theorem free_call2 {h : Heap} {n : Int} {b : Nat} {l : List EqR} {sl : Value} (hx : decRows h sl = some l) (hs : SysOK n l) :
    ∃ a D mm, nwL spFreeV [.int .i64 n, sl] h b = some (.slice a (freeVL n l).length (freeVL n l).length, D, mm) ∧ (∀ q, q < b → hget (D ++ h) q = hget h q) ∧
      (∀ hp, ExtL (b + mm) (D ++ h) hp → listAt 1 decN hp (.slice a (freeVL n l).length (freeVL n l).length) = some ((freeVL n l).map fun (i : Nat) => ((i : Nat) : Int))) ∧ True :=
  let ⟨a, D, mm, e1, e2, e3⟩ := free_call hx hs
  ⟨a, D, mm, e1, e2, e3, trivial⟩
theorem freeVL_le {n : Nat} {l : List EqR} : (freeVL n l).length ≤ n := by
  unfold freeVL
  split
  · unfold freeK
    refine Nat.le_trans (List.length_filter_le _ _) ?_
    rw [List.length_range, Int.toNat_natCast]; exact Nat.le_refl _
  · exact Nat.zero_le _
theorem solL_le {n : Nat} {l : List EqR} : (solveL n l).2.length ≤ n := by
  by_cases e0 : (solveL n l).1 = 0
  · rw [(solL_sol (solL_chk e0) e0).1]; exact Nat.le_refl _
  · rw [solL_nil e0]; exact Nat.zero_le _
end Go.Eng
end
section
set_option linter.unusedVariables false
set_option linter.unusedSimpArgs false
set_option linter.unusedSectionVars false
set_option maxRecDepth 20000
namespace Go.Eng
open Go Go.Proofs Go.IntWalk
def fq (f : Nat → Rat) (n : Nat) : List RQ := (List.range n).map fun j => RQ.of (f j)
theorem fq_len (f : Nat → Rat) (n : Nat) : (fq f n).length = n := by unfold fq; rw [List.length_map, List.length_range]
theorem fq_succ (f : Nat → Rat) (n : Nat) : rqs (fq f n) ++ rE (f n) = rqs (fq f (n + 1)) := by
  show rqs (fq f n) ++ (RQ.of (f n)).cells = _
  rw [rqs_app]
  unfold fq
  rw [List.range_succ, List.map_append]; rfl
theorem fq_v {f : Nat → Rat} {n j : Nat} (h : j < n) : qsV (fq f n) j = f j := by
  unfold qsV rqAt fq
  rw [List.getElem?_map, List.getElem?_range h]
  exact RQ.of_v _
theorem fq_mem {f : Nat → Rat} {n : Nat} {q : RQ} (h : q ∈ fq f n) : ∃ j, j < n ∧ q = RQ.of (f j) := by
  unfold fq at h
  obtain ⟨j, hj, rfl⟩ := List.mem_map.1 h
  exact ⟨j, List.mem_range.1 hj, rfl⟩
def spSame24 : List Value → Heap → Option Value
  | [v, w], h => match listAt 3 dec1 h v, listAt 3 dec1 h w with
    | some l, some m => if l = m ∧ l.length ≤ 1000000 then some (.bool true) else none
    | _, _ => none
  | _, _ => none
theorem same24_of {h : Heap} {v w : Value} {l : List RQ} (e : listAt 3 dec1 h v = some l) (e' : listAt 3 dec1 h w = some l) (hl : l.length ≤ 1000000) : spSame24 [v, w] h = some (.bool true) := by
  unfold spSame24
  simp only [e, e']
  exact if_pos ⟨trivial, hl⟩
def c10 : ICode :=
  (.seq (.reg [qq 4 (.mv (.c (.bool false)))]) (.seq (.seq (.reg [qq 6 (.mv (.t 0)), qq 7 (.lensl (.t 6)), qq 8 (.mv (.t 1)), qq 9 (.lensl (.t 8)), qq 10 (.bin .neq (.t 7) (.t 9))]) (.cond (.t 10) (.seq (.reg [qq 4 (.mv (.c (.bool false)))]) .ret) .skip)) (.seq (.seq (.reg [qq 5 (.mv (ci 0))]) (.block 0 (.loop (.seq (.seq (.reg [qq 11 (.mv (.t 5)), qq 12 (.mv (.t 0)), qq 13 (.lensl (.t 12)), qq 14 (.bin .lss (.t 11) (.t 13))]) (.cond (.t 14) .skip (.exit 0))) (.seq (.block 1 (.seq (.dreg [qu 17 (.mv (.t 0)), qu 18 (.mv (.t 5)), qu 19 (.ixsl 3 (.t 17) (.t 18)), qu 20 (.load true 3 (.t 19)), qu 21 (.mv (.t 1)), qu 22 (.mv (.t 5)), qu 23 (.ixsl 3 (.t 21) (.t 22)), qu 24 (.load true 3 (.t 23)), qu 25 (.eqa true [.b, .s, .s] (.t 20) (.t 24))]) (.cond (.t 25) (.seq (.reg [qq 4 (.mv (.c (.bool false)))]) .ret) .skip))) (.reg [qq 15 (.mv (.t 5)), qq 16 (.bin .add (.t 15) (ci 1)), qq 5 (.mv (.t 16))])))))) (.seq (.reg [qq 4 (.mv (.c (.bool true)))]) .ret))))
theorem tr10 : trFun Tryz.prog 10 = some ⟨26, [.t 4], c10⟩ := by kernel_rfl
set_option maxHeartbeats 8000000 in
theorem ok_same24 : SpecOK Tryz.prog 10 (rdS spSame24) := by
  refine rd_run (env_nil _) mixed tr10 ?_ ?_
  · intro args h h' v hle e
    unfold spSame24 at e ⊢
    split at e
    · split at e
      · rename_i l m hb hc
        simp only [listAt_mono hle (fun _ _ e => e) hb, listAt_mono hle (fun _ _ e => e) hc]; exact e
      · cases e
    · cases e
  intro args v h N hG hN
  unfold spSame24 at hG
  split at hG
  case h_2 => cases hG
  rename_i v w
  split at hG
  case h_2 => cases hG
  rename_i l m hx hy
  split at hG
  case isFalse => cases hG
  rename_i hl
  obtain ⟨rfl, hl⟩ := hl
  cases hG
  obtain ⟨a, c, rfl⟩ := listAt_sl hx
  obtain ⟨b, d, rfl⟩ := listAt_sl hy
  refine ⟨by rfl, by simp, ?_⟩
  have dn : ∀ a b : Int, decide (a ≠ b) = !decide (a = b) := fun a b => by by_cases h : a = b <;> simp [h]
  simp only [c10, G0, Nat.reduceAdd]
  simp only [↓R0, R1, simprocAttr, -Int.reduceAbs, dn, Bool.not_true, Bool.not_false]
  refine lp_parts (fun q tm hp nx => ∃ (i : Nat), q + i = l.length ∧ tmget tm 0 = .slice a l.length c ∧ tmget tm 1 = .slice b l.length d ∧ tmget tm 5 = .int .i64 i ∧ hp = h ∧ nx = N + 0) ?_ l.length
    ⟨0, by omega, ?_, ?_, ?_, rfl, rfl⟩
  rotate_left
  all_goals first | (simp only [↓R0, R1, simprocAttr, -Int.reduceAbs]; done) | (simp only [↓R0, R1, simprocAttr, -Int.reduceAbs]; rfl) | skip
  rintro q tm hp nx ⟨i, hni, t0, t1, t5, rfl, hnx⟩
  rw [hnx]
  clear hnx nx
  by_cases c1 : i < l.length
  case neg =>
    have e : i = l.length := by omega
    subst e
    have c1' : ((l.length : Int) < (l.length : Int)) = False := eq_false (by omega)
    simp only [↓R0, R1, simprocAttr, -Int.reduceAbs, t0, t1, t5, c1', Fin, isEnd, resL, res1]
    exact ⟨_, rfl, rfl, fun _ _ => trivial⟩
  have c1' : ((i : Int) < (l.length : Int)) = True := eq_true (by omega)
  have w1 : IntKind.i64.wrap ((i : Int) + 1) = ((i + 1 : Nat) : Int) := by rw [i64_in _ (by omega)]; omega
  obtain ⟨k1, f1, B1, rfl, h1, q1, q2⟩ := rq_at hx c1
  obtain ⟨k2, f2, B2, rfl, h2, q3, q4⟩ := rq_at hy c1
  have g1 : (rqAt l i).cells.length = 3 := rfl
  have g2 : (rqAt l i).cells.all okCell = true := rfl
  have g3 := ceq3 (rqAt l i)
  generalize (rqAt l i).cells = CA at *
  simp only [↓R0, R1, simprocAttr, -Int.reduceAbs, t0, t1, t5, c1, c1', h1, h2, q1, q2, q3, q4, g1, g2, g3, w1, Bool.not_true, Bool.not_false]
  exact ⟨q - 1, by omega, i + 1, by omega, rfl⟩
end Go.Eng
end
section
set_option linter.unusedVariables false
set_option linter.unusedSimpArgs false
set_option linter.unusedSectionVars false
set_option maxRecDepth 20000
namespace Go.Eng
open Go Go.Proofs Go.IntWalk
theorem lead_eq {n k : Nat} {f : Row} (h1 : ∀ j, j < k → f j = 0) (hk : k ≤ n) (h2 : k < n → f k ≠ 0) : leadN n f = k := by
  by_cases c : k < n
  · exact leadN_of c h1 (h2 c)
  · have : k = n := by omega
    subst this
    rcases Nat.lt_or_ge (leadN k f) k with x | x
    · exact absurd (h1 _ x) (leadN_ne x)
    · have := leadN_le k f; omega
theorem lead_congr {n : Nat} {f g : Row} (h : ∀ j, j < n → f j = g j) : leadN n f = leadN n g :=
  lead_eq (fun j hj => by rw [h j (by have := leadN_le n g; omega)]; exact leadN_z hj) (leadN_le n g) fun c => by rw [h _ c]; exact leadN_ne c
theorem clean_keep {n : Nat} {out : List Row} (H : PInv n out) (r : Row) : ∀ t, t ≤ out.length → ∀ q, t ≤ q → q < out.length → cleanR n (out.take t) r (leadN n (rowAt out q)) = r (leadN n (rowAt out q))
  | 0, _, q, _, _ => by rw [List.take_zero]; rfl
  | t + 1, ht, q, hq, hql => by
    have e : out.take (t + 1) = out.take t ++ [rowAt out t] := by rw [List.take_add_one, rowAt_some (by omega)]; rfl
    rw [e, cleanR, List.foldl_append]
    show clean1 n (cleanR n (out.take t) r) (rowAt out t) _ = _
    unfold clean1
    rw [H.col q t hql (by omega) (by omega), Rat.zero_mul, clean_keep H r t (by omega) q (by omega) hql]
    grind
theorem clean_succ {n : Nat} {out : List Row} (r : Row) {t : Nat} (ht : t < out.length) : cleanR n (out.take (t + 1)) r = clean1 n (cleanR n (out.take t) r) (rowAt out t) := by
  have e : out.take (t + 1) = out.take t ++ [rowAt out t] := by rw [List.take_add_one, rowAt_some ht]; rfl
  rw [e, cleanR, List.foldl_append]; rfl
theorem clean_RB {n b B : Nat} {out : List Row} (H : PInv n out) {r : Row} (hr : ∀ j, j ≤ n → RB (r j) b) (ho : ∀ p, p < out.length → ∀ j, j ≤ n → RB (rowAt out p j) B) : ∀ t, t ≤ out.length → ∀ j, j ≤ n → RB (cleanR n (out.take t) r j) (b + t * (b + B + 1))
  | 0, _, j, hj => by rw [List.take_zero]; exact (hr j hj).le (by omega)
  | t + 1, ht, j, hj => by
    rw [clean_succ r (by omega)]
    unfold clean1
    rw [clean_keep H r t (by omega) t (Nat.le_refl _) (by omega)]
    refine (clean_RB H hr ho t (by omega) j hj).sub ((ho t (by omega) j hj).mul (hr _ (by have := H.lt t (by omega); omega)) (Nat.le_refl _)) ?_
    rw [Nat.succ_mul]; omega
def oB : Nat → Nat
  | 0 => 0
  | p + 1 => 2 * oB p + 2 * (6 + p * (7 + oB p)) + 2
theorem oB_le : ∀ p, p ≤ 8 → oB p ≤ 119125776 := by
  intro p hp
  have : p = 0 ∨ p = 1 ∨ p = 2 ∨ p = 3 ∨ p = 4 ∨ p = 5 ∨ p = 6 ∨ p = 7 ∨ p = 8 := by omega
  rcases this with rfl | rfl | rfl | rfl | rfl | rfl | rfl | rfl | rfl <;> decide
def canE (n : Nat) (f : Row) : EqR := ⟨fq f n, RQ.of (f n), 0⟩
theorem canE_v {n : Nat} {f : Row} : (canE n f).rhs.v = f n := RQ.of_v _
theorem canE_q {n j : Nat} {f : Row} (h : j < n) : qsV (canE n f).coef j = f j := fq_v h
theorem fq_ok {f : Row} {n k : Nat} (h : ∀ j, j < n → RB (f j) k) : ∀ q ∈ fq f n, q.ok k := fun q hq => by
  obtain ⟨j, hj, rfl⟩ := fq_mem hq
  exact RQ.of_ok (h j hj)
theorem fq_congr {f g : Row} {n : Nat} (h : ∀ j, j < n → f j = g j) : fq f n = fq g n := by
  unfold fq
  exact List.map_congr_left fun j hj => by rw [h j (List.mem_range.1 hj)]
theorem canE_congr {f g : Row} {n : Nat} (h : ∀ j, j ≤ n → f j = g j) : canE n f = canE n g := by
  unfold canE
  rw [fq_congr fun j hj => h j (by omega), h n (Nat.le_refl _)]
def rowE (n : Nat) (e : EqR) : Row := fun j => (e.at n j).v
theorem rowE_lt {n j : Nat} {e : EqR} (h : j < n) : rowE n e j = qsV e.coef j := by unfold rowE EqR.at; rw [if_pos h]; rfl
theorem rowE_n {n : Nat} {e : EqR} : rowE n e n = e.rhs.v := by unfold rowE EqR.at; rw [if_neg (by omega)]
theorem rowE_can {n j : Nat} {f : Row} (h : j ≤ n) : rowE n (canE n f) j = f j := by
  by_cases c : j < n
  · rw [rowE_lt c, canE_q c]
  · have : j = n := by omega
    subst this
    rw [rowE_n, canE_v]
def eqNL (n : Nat) (f : Row) : NewL :=
  if n = 0 then ⟨0, fun _ => .agg ⟨.slice none 0 0 :: (canE n f).tl⟩, fun _ => 0, fun _ => 0, fun _ _ => []⟩
  else ⟨1, fun σ => .agg ⟨.slice (some ⟨σ 0, 0, none⟩) n n :: (canE n f).tl⟩, fun _ => 35, fun _ => 3, fun _ _ => rqs (fq f n)⟩
theorem eqNL_par (n : Nat) (f : Row) (h : Heap) : (eqNL n f).Par h := by
  unfold eqNL
  split
  · exact ⟨fun β σ σ' _ _ => .agg _ _ (.cons _ _ _ _ (.base _ rfl) (VRs.of_base rfl)), fun β σ σ' _ _ i hi => absurd hi (Nat.not_lt_zero i)⟩
  · exact ⟨fun β σ σ' b1 _ => .agg _ _ (.cons _ _ _ _ (VR.sl (σ 0) 0 _ _ ⟨σ' 0, 0, []⟩ (b1 0 Nat.one_pos)) (VRs.of_base rfl)), fun β σ σ' _ _ i hi => VRs.of_base (rqs_base _)⟩
def GrS (hp : Heap) (N M j : Nat) (f : Row) (s : Value) : Prop :=
  (j = 0 ∧ s = .slice none 0 0) ∨ (0 < j ∧ ∃ (ka : Nat) (x : Bool), s = .slice (some ⟨ka, 0, none⟩) j j ∧ hget hp ka = some ⟨35, 3, x, rqs (fq f j)⟩ ∧ N ≤ ka ∧ ka < M)
def spLead : List Value → Heap → Option Value
  | [sl], h => match listAt 3 dec1 h sl with
    | some c => if c.length ≤ 1000000 ∧ ∀ q ∈ c, q.ok 8589934592 then some (.int .i64 (leadN c.length (qsV c))) else none
    | none => none
  | _, _ => none
theorem lead_of {h : Heap} {sl : Value} {c : List RQ} (e : listAt 3 dec1 h sl = some c) (hl : c.length ≤ 1000000) (ho : ∀ q ∈ c, q.ok 8589934592) : spLead [sl] h = some (.int .i64 (leadN c.length (qsV c))) := by
  unfold spLead
  simp only [e]
  exact if_pos ⟨hl, ho⟩
theorem sg_v (q : RQ) : ((sv q.s q.n).sign = 0) = (q.v = 0) := by
  refine propext ⟨fun e => Classical.byContradiction fun x => ?_, fun e => Classical.byContradiction fun x => rv_ne x e⟩
  have e0 : sv q.s q.n = 0 := Int.sign_eq_zero_iff_zero.1 e
  exact x (by unfold RQ.v rv; rw [e0]; exact Rat.zero_divInt _)
theorem sgn3 {q : RQ} (h : q.ok 8589934592) : spR3Sign [.agg ⟨q.cells⟩] = some (.int .i64 (sv q.s q.n).sign) := if_pos ⟨by have := h.1; omega, by have := h.2; omega⟩
def c42 : ICode :=
  (.seq (.reg [qq 2 (.mv (ci 0))]) (.seq (.seq (.reg [qq 3 (.mv (ci 0))]) (.block 0 (.loop (.seq (.seq (.reg [qq 4 (.mv (.t 3)), qq 5 (.mv (.t 0)), qq 6 (.lensl (.t 5)), qq 7 (.bin .lss (.t 4) (.t 6))]) (.cond (.t 7) .skip (.exit 0))) (.seq (.block 1 (.seq (.reg [qq 10 (.mv (.t 0)), qq 11 (.mv (.t 3)), qq 12 (.ixsl 3 (.t 10) (.t 11)), qq 13 (.load true 3 (.t 12)), qq 14 (.call 43 [(.t 13)]), qq 15 (.bin .neq (.t 14) (ci 0))]) (.cond (.t 15) (.seq (.reg [qq 16 (.mv (.t 3)), qq 2 (.mv (.t 16))]) .ret) .skip))) (.reg [qq 8 (.mv (.t 3)), qq 9 (.bin .add (.t 8) (ci 1)), qq 3 (.mv (.t 9))])))))) (.seq (.reg [qq 17 (.mv (.t 0)), qq 18 (.lensl (.t 17)), qq 2 (.mv (.t 18))]) .ret)))
theorem tr42 : trFun Tryz.prog 42 = some ⟨19, [.t 2], c42⟩ := by kernel_rfl
set_option maxHeartbeats 8000000 in
theorem ok_lead24 : SpecOK Tryz.prog 42 (rdS spLead) := by
  refine rd_run (env_cons ok_r3Sign (env_nil _)) mixed tr42 ?_ ?_
  · intro args h h' v hle e
    unfold spLead at e ⊢
    split at e
    · split at e
      · rename_i l hb
        simp only [listAt_mono hle (fun _ _ e => e) hb]; exact e
      · cases e
    · cases e
  intro args v h N hG hN
  unfold spLead at hG
  split at hG
  case h_2 => cases hG
  rename_i sl
  split at hG
  case h_2 => cases hG
  rename_i l hx
  split at hG
  case isFalse => cases hG
  rename_i hs
  obtain ⟨hl, ho⟩ := hs
  cases hG
  obtain ⟨a, c, rfl⟩ := listAt_sl hx
  refine ⟨by rfl, by simp, ?_⟩
  have dn : ∀ a b : Int, decide (a ≠ b) = !decide (a = b) := fun a b => by by_cases h : a = b <;> simp [h]
  simp only [c42, G0, Nat.reduceAdd]
  simp only [↓R0, R1, simprocAttr, -Int.reduceAbs]
  refine lp_parts (fun q tm hp nx => ∃ (i : Nat), q + i = l.length ∧ tmget tm 0 = .slice a l.length c ∧ tmget tm 3 = .int .i64 i ∧ (∀ j, j < i → qsV l j = 0) ∧ hp = h ∧ nx = N + 0) ?_ l.length
    ⟨0, by omega, ?_, ?_, fun j hj => absurd hj (Nat.not_lt_zero j), rfl, rfl⟩
  rotate_left
  all_goals first | (simp only [↓R0, R1, simprocAttr, -Int.reduceAbs]; done) | (simp only [↓R0, R1, simprocAttr, -Int.reduceAbs]; rfl) | skip
  rintro q tm hp nx ⟨i, hni, t0, t3, hz, rfl, hnx⟩
  rw [hnx]
  clear hnx nx
  by_cases c1 : i < l.length
  case neg =>
    have e : i = l.length := by omega
    subst e
    have c1' : ((l.length : Int) < (l.length : Int)) = False := eq_false (by omega)
    rw [lead_eq hz (Nat.le_refl _) (fun x => absurd x (Nat.lt_irrefl _))]
    simp only [↓R0, R1, simprocAttr, -Int.reduceAbs, t0, t3, c1', Fin, isEnd, resL, res1]
    exact ⟨_, rfl, rfl, fun _ _ => trivial⟩
  have c1' : ((i : Int) < (l.length : Int)) = True := eq_true (by omega)
  have w1 : IntKind.i64.wrap ((i : Int) + 1) = ((i + 1 : Nat) : Int) := by rw [i64_in _ (by omega)]; omega
  obtain ⟨k1, f1, B1, rfl, h1, q1, q2⟩ := rq_at hx c1
  have g1 : (rqAt l i).cells.length = 3 := rfl
  have g2 : (rqAt l i).cells.all okCell = true := rfl
  have g3 := sgn3 (ho _ (rqAt_mem c1))
  have g4 := sg_v (rqAt l i)
  have ev : (rqAt l i).v = qsV l i := rfl
  rw [ev] at g4
  generalize (rqAt l i).cells = CA at *
  by_cases z : qsV l i = 0
  · have z' := g4.trans (eq_true z)
    simp only [↓R0, R1, simprocAttr, -Int.reduceAbs, t0, t3, c1, c1', h1, q1, q2, g1, g2, g3, dn, z', w1, Bool.not_true, Bool.not_false]
    refine ⟨q - 1, by omega, i + 1, by omega, rfl, fun j hj => ?_⟩
    by_cases e : j = i
    · rw [e]; exact z
    · exact hz j (by omega)
  · have z' := g4.trans (eq_false z)
    rw [lead_eq hz (by omega) (fun _ => z)]
    simp only [↓R0, R1, simprocAttr, -Int.reduceAbs, t0, t3, c1, c1', h1, q1, q2, g1, g2, g3, dn, z', w1, Bool.not_true, Bool.not_false, Fin, isEnd, resL, res1]
    exact ⟨_, rfl, rfl, fun _ _ => trivial⟩
theorem mul3 {p q : RQ} (hp : p.ok 8589934592) (hq : q.ok 8589934592) : spR3Mul [.agg ⟨p.cells⟩, .agg ⟨q.cells⟩] = some (.agg ⟨rE (p.v * q.v)⟩) := if_pos ⟨hp.1, hp.2, hq.1, hq.2⟩
theorem sub3 {p q : RQ} (hp : p.ok 8589934591) (hq : q.ok 8589934591) : spR3Sub [.agg ⟨p.cells⟩, .agg ⟨q.cells⟩] = some (.agg ⟨rE (p.v - q.v)⟩) := if_pos ⟨by have := hp.1; omega, by have := hp.2; omega, by have := hq.1; omega, by have := hq.2; omega⟩
def eqOk (e : EqR) (k : Nat) : Prop := (∀ q ∈ e.coef, q.ok k) ∧ e.rhs.ok k
instance {e : EqR} {k : Nat} : Decidable (eqOk e k) := by unfold eqOk; infer_instance
def timesF (e : EqR) (q : RQ) : Row := fun j => rowE e.coef.length e j * q.v
def lessF (a b : EqR) : Row := fun j => rowE a.coef.length a j - rowE a.coef.length b j
def spTimes : List Value → Heap → Option NewL
  | [.agg ⟨cs⟩, .agg ⟨qc⟩], h => match decEq h cs, dec1 qc with
    | some e, some q => if e.coef.length ≤ 100 ∧ eqOk e 8589934592 ∧ q.ok 8589934592 then some (eqNL e.coef.length (timesF e q)) else none
    | _, _ => none
  | _, _ => none
def spLess24 : List Value → Heap → Option NewL
  | [.agg ⟨cs⟩, .agg ⟨ds⟩], h => match decEq h cs, decEq h ds with
    | some a, some b => if a.coef.length ≤ 100 ∧ b.coef.length = a.coef.length ∧ eqOk a 8589934591 ∧ eqOk b 8589934591 then some (eqNL a.coef.length (lessF a b)) else none
    | _, _ => none
  | _, _ => none
def c40 : ICode :=
  (.seq (.reg [qq 2 (.box 37 5 (.t 0)), qq 3 (.box 35 3 (.t 1)), qq 4 (.alloc 37 5 [(.slice none 0 0), (.bool false), e0, e0, (.int .i64 0)])]) (.seq (.reg [qq 7 (.faddr 1 (.t 2)), qq 8 (.load true 3 (.t 7)), qq 9 (.load true 3 (.t 3)), qq 10 (.call 56 [(.t 8), (.t 9)]), qq 11 (.build [(.slice none 0 0), (.bool false), e0, e0, (.int .i64 0)] [(1, 3, (.t 10))]), qq 5 (.alloc 37 5 [(.slice none 0 0), (.bool false), e0, e0, (.int .i64 0)]), qn (.store 5 (.t 5) (.t 11))]) (.seq (.seq (.reg [qq 6 (.mv (ci 0))]) (.block 0 (.loop (.seq (.seq (.reg [qq 12 (.mv (.t 6)), qq 13 (.faddr 0 (.t 2)), qq 14 (.load false 1 (.t 13)), qq 15 (.lensl (.t 14)), qq 16 (.bin .lss (.t 12) (.t 15))]) (.cond (.t 16) .skip (.exit 0))) (.seq (.block 1 (.dreg [qu 19 (.faddr 0 (.t 5)), qu 20 (.load false 1 (.t 19)), qu 21 (.faddr 0 (.t 2)), qu 22 (.load false 1 (.t 21)), qu 23 (.mv (.t 6)), qu 24 (.ixsl 3 (.t 22) (.t 23)), qu 25 (.load true 3 (.t 24)), qu 26 (.load true 3 (.t 3)), qu 27 (.call 56 [(.t 25), (.t 26)]), qu 28 (.bslice 35 3 1 [(.bool false), e0, e0] [(0, 3, (.t 27))]), qu 29 (.app 35 3 40 (.t 20) (.t 28)), qu 30 (.faddr 0 (.t 5)), qm (.store 1 (.t 30) (.t 29))])) (.reg [qq 17 (.mv (.t 6)), qq 18 (.bin .add (.t 17) (ci 1)), qq 6 (.mv (.t 18))])))))) (.seq (.reg [qq 31 (.load true 5 (.t 5)), qn (.store 5 (.t 4) (.t 31))]) .ret))))
theorem tr40 : trFun Tryz.prog 40 = some ⟨32, [.cell 4 true 5], c40⟩ := by kernel_rfl
set_option maxHeartbeats 16000000 in
theorem ok_times24 : SpecOK Tryz.prog 40 (nwL spTimes) := by
  refine newL_run (env_cons ok_r3Mul (env_nil _)) mixed tr40 ?_ ?_
  · intro args h h' r hle e
    unfold spTimes at e ⊢
    split at e
    · split at e
      · rename_i x y hb hc
        simp only [decEq_mono hle hb, hc]; exact e
      · cases e
    · cases e
  intro args h N r hG hN
  unfold spTimes at hG
  split at hG
  case h_2 => cases hG
  rename_i cs ds
  split at hG
  case h_2 => cases hG
  rename_i e q hx hq
  split at hG
  case isFalse => cases hG
  rename_i hs
  cases hG
  obtain ⟨sl, rfl, hl⟩ := decEq_eq hx
  obtain ⟨a, c, rfl⟩ := listAt_sl hl
  obtain ⟨n8, he, ho⟩ := hs
  have eq := dec1_cells hq
  subst eq
  refine ⟨eqNL_par _ _ _, by simp, ?_⟩
  generalize hF : timesF e q = F at *
  generalize hn : e.coef.length = n at *
  have e5l : (Value.slice a n c :: e.tl).length = 5 := rfl
  have e5o : (Value.slice a n c :: e.tl).all okCell = true := rfl
  have e50 : (Value.slice a n c :: e.tl)[0]? = some (.slice a n c) := rfl
  have e51 : ((Value.slice a n c :: e.tl).drop 1).take 3 = e.rhs.cells := rfl
  have r1 : e.rhs.cells.length = 3 := rfl
  have r2 : e.rhs.cells.all okCell = true := rfl
  have d5l : q.cells.length = 3 := rfl
  have d5o : q.cells.all okCell = true := rfl
  have d5t : q.cells.take 3 = q.cells := rfl
  have rc : spR3Mul [.agg ⟨e.rhs.cells⟩, .agg ⟨q.cells⟩] = some (.agg ⟨rE (F n)⟩) := by
    rw [mul3 he.2 ho, ← hF]
    unfold timesF
    rw [hn, rowE_n]
  have opc : ∀ j, j < n → spR3Mul [.agg ⟨(rqAt e.coef j).cells⟩, .agg ⟨q.cells⟩] = some (.agg ⟨rE (F j)⟩) := fun j hj => by
    rw [mul3 (he.1 _ (rqAt_mem (by omega))) ho, ← hF]
    unfold timesF
    rw [hn, rowE_lt hj]; rfl
  have gE : ∀ v : Rat, (rE v).length = 3 := fun _ => rfl
  have gEo : ∀ v : Rat, (rE v).all okCell = true := fun _ => rfl
  have gEt : ∀ v : Rat, (rE v).take 3 = rE v := fun _ => rfl
  have gEs : ∀ v : Rat, setR [.bool false, .string ⟨⟨[]⟩⟩, .string ⟨⟨[]⟩⟩] 0 (rE v) = rE v := fun _ => rfl
  have st : setR [.slice none 0 0, .bool false, .string ⟨⟨[]⟩⟩, .string ⟨⟨[]⟩⟩, .int .i64 0] 1 (rE (F n)) = Value.slice none 0 0 :: (canE n F).tl := rfl
  have s5 : ∀ s : Value, (s :: (canE n F).tl).length = 5 := fun _ => rfl
  have s5o : ∀ (a : Option Addr) (m k : Nat), (Value.slice a m k :: (canE n F).tl).all okCell = true := fun _ _ _ => rfl
  have s5s : ∀ s : Value, setR [.slice none 0 0, .bool false, .string ⟨⟨[]⟩⟩, .string ⟨⟨[]⟩⟩, .int .i64 0] 0 (s :: (canE n F).tl) = s :: (canE n F).tl := fun _ => rfl
  have s5t : ∀ s : Value, (s :: (canE n F).tl).take 5 = s :: (canE n F).tl := fun _ => rfl
  unfold eqNL
  generalize (canE n F).tl = ST at *
  generalize Value.slice a n c :: e.tl = C5 at *
  generalize e.rhs.cells = RH at *
  generalize q.cells = QC at *
  have p0 : (N = N + 1) = False := eq_false (by omega)
  have p1 : (N = N + 2) = False := eq_false (by omega)
  have p2 : (N = N + 3) = False := eq_false (by omega)
  have p3 : (N + 1 = N) = False := eq_false (by omega)
  have p4 : (N + 1 = N + 2) = False := eq_false (by omega)
  have p5 : (N + 1 = N + 3) = False := eq_false (by omega)
  have p6 : (N + 2 = N) = False := eq_false (by omega)
  have p7 : (N + 2 = N + 1) = False := eq_false (by omega)
  have p8 : (N + 2 = N + 3) = False := eq_false (by omega)
  have p9 : (N + 3 = N) = False := eq_false (by omega)
  have p10 : (N + 3 = N + 1) = False := eq_false (by omega)
  have p11 : (N + 3 = N + 2) = False := eq_false (by omega)
  have gN : (N + 0 = N) = True := eq_true rfl
  simp only [c40, G0, Nat.reduceAdd]
  simp only [↓R0, R1, simprocAttr, -Int.reduceAbs, e5l, e5o, e50, e51, r1, r2, d5l, d5o, d5t, rc, gE, gEo, st, s5, s5o, s5s, p0, p1, p2, p3, p4, p5, p6, p7, p8, p9, p10, p11]
  refine lp_parts (fun c' tm hp nx => ∃ (j M : Nat) (s : Value), c' + j = n ∧ tmget tm 2 = .pointer (some ⟨N, 0, none⟩) ∧ tmget tm 3 = .pointer (some ⟨N + 1, 0, none⟩) ∧ tmget tm 4 = .pointer (some ⟨N + 2, 0, none⟩) ∧ tmget tm 5 = .pointer (some ⟨N + 3, 0, none⟩) ∧ tmget tm 6 = .int .i64 j ∧
      (∃ x, hget hp N = some ⟨37, 5, x, C5⟩) ∧ (∃ x, hget hp (N + 1) = some ⟨35, 3, x, QC⟩) ∧ (∃ x, hget hp (N + 2) = some ⟨37, 5, x, [.slice none 0 0, .bool false, .string ⟨⟨[]⟩⟩, .string ⟨⟨[]⟩⟩, .int .i64 0]⟩) ∧ (∃ x, hget hp (N + 3) = some ⟨37, 5, x, s :: ST⟩) ∧ GrS hp (N + 4) M j F s ∧ ExtL N h hp ∧ N + 4 ≤ M ∧ nx = M + 0) ?_ n
    ⟨0, N + 4, .slice none 0 0, by omega, ?_, ?_, ?_, ?_, ?_, ?_, ?_, ?_, ?_, .inl ⟨rfl, rfl⟩, ?_, Nat.le_refl _, rfl⟩
  rotate_left
  all_goals first | (simp only [↓R0, R1, simprocAttr, -Int.reduceAbs]; done) | (simp only [↓R0, R1, simprocAttr, -Int.reduceAbs]; rfl) | (refine ⟨true, ?_⟩; simp only [↓R0, R1, simprocAttr, -Int.reduceAbs, gN, p0, p1, p2, p3, p4, p5, p6, p7, p8, p9, p10, p11]; done) | skip
  · intro q hq
    have nb : ∀ d, (N + d = q) = False := fun d => eq_false (by omega)
    simp only [↓R0, R1, simprocAttr, -Int.reduceAbs, nb]
  rintro c' tm hp nx ⟨j, M, s, hcj, t2, t3, t4, t5, t6, ⟨x1, bA⟩, ⟨x2, bB⟩, ⟨x3, bR⟩, ⟨x4, bS⟩, hG, hh, hM, hnx⟩
  rw [hnx]
  clear hnx nx
  have nbq : ∀ q, q < N → ∀ d, (M + d = q) = False := fun q hq d => eq_false (by omega)
  by_cases c1 : j < n
  case neg =>
    have ej : j = n := by omega
    rw [ej] at hG t6
    have c1' : ((n : Int) < (n : Int)) = False := eq_false (by omega)
    rcases hG with ⟨z, rfl⟩ | ⟨z, ka, y, rfl, bk, k1, k2⟩
    · rw [if_pos z]
      simp only [↓R0, R1, simprocAttr, -Int.reduceAbs, t2, t3, t4, t5, t6, c1', bA, bB, bR, bS, e5l, e50, d5l, s5, s5o, s5s, s5t, p0, p1, p2, p3, p4, p5, p6, p7, p8, p9, p10, p11, FinL, isEnd, resL, res1]
      refine ⟨fun i => i, _, fun i hi => absurd hi (Nat.not_lt_zero i), fun i j hi => absurd hi (Nat.not_lt_zero i), rfl, rfl, fun i hi => absurd hi (Nat.not_lt_zero i), fun q hq => ?_⟩
      have nb : ∀ d, (N + d = q) = False := fun d => eq_false (by omega)
      simp only [↓R0, R1, simprocAttr, -Int.reduceAbs, nb]
      exact hh q hq
    · rw [if_neg (by omega)]
      have y1 : (N + 2 = ka) = False := eq_false (by omega)
      simp only [↓R0, R1, simprocAttr, -Int.reduceAbs, t2, t3, t4, t5, t6, c1', bA, bB, bR, bS, e5l, e50, d5l, s5, s5o, s5s, s5t, p0, p1, p2, p3, p4, p5, p6, p7, p8, p9, p10, p11, FinL, isEnd, resL, res1]
      refine ⟨fun _ => ka, _, fun i hi => (by omega : N ≤ ka), fun i j (hi : i < 1) (hj : j < 1) _ => by omega, rfl, rfl, fun i hi => ⟨y, ?_⟩, fun q hq => ?_⟩
      · simp only [↓R0, R1, simprocAttr, -Int.reduceAbs, y1]
        exact bk
      · have nb : ∀ d, (N + d = q) = False := fun d => eq_false (by omega)
        simp only [↓R0, R1, simprocAttr, -Int.reduceAbs, nb]
        exact hh q hq
  have c1' : ((j : Int) < (n : Int)) = True := eq_true (by omega)
  have w1 : IntKind.i64.wrap ((j : Int) + 1) = ((j + 1 : Nat) : Int) := by rw [i64_in _ (by omega)]; omega
  obtain ⟨k1, f1, B1, rfl, h1, q1, q2⟩ := rq_at hl c1
  have l1 := hN _ _ h1
  have b1 : hget hp k1 = some B1 := by rw [hh k1 l1]; exact h1
  have n1 := nbq k1 l1
  have u1 : (rqAt e.coef j).cells.length = 3 := rfl
  have u2 : (rqAt e.coef j).cells.all okCell = true := rfl
  have oj := opc j c1
  generalize (rqAt e.coef j).cells = PE at *
  have gs := gEs (F j)
  have fa := fq_succ F j
  have lfa : (rqs (fq F j)).length = j * 3 := by rw [rqs_len, fq_len]
  have ofa := rqs_ok (fq F j)
  have dj1 : ((j + 1) * 40 ≤ 140737488355328) = True := eq_true (by omega)
  have dj2 : (j + 1 ≤ j) = False := eq_false (by omega)
  have v0 : ∀ d, (M + d = N) = False := fun d => eq_false (by omega)
  have v1 : ∀ d, (N = M + d) = False := fun d => eq_false (by omega)
  have v2 : (N = k1) = False := eq_false (by omega)
  have v3 : ∀ d, (M + d = N + 1) = False := fun d => eq_false (by omega)
  have v4 : ∀ d, (N + 1 = M + d) = False := fun d => eq_false (by omega)
  have v5 : (N + 1 = k1) = False := eq_false (by omega)
  have v6 : ∀ d, (M + d = N + 2) = False := fun d => eq_false (by omega)
  have v7 : ∀ d, (N + 2 = M + d) = False := fun d => eq_false (by omega)
  have v8 : (N + 2 = k1) = False := eq_false (by omega)
  have v9 : ∀ d, (M + d = N + 3) = False := fun d => eq_false (by omega)
  have v10 : ∀ d, (N + 3 = M + d) = False := fun d => eq_false (by omega)
  have v11 : (N + 3 = k1) = False := eq_false (by omega)
  rcases hG with ⟨z, rfl⟩ | ⟨z, ka, y, rfl, bk, hk1, hk2⟩
  · simp only [↓R0, R1, simprocAttr, -Int.reduceAbs, t2, t3, t4, t5, t6, c1, c1', bA, bB, bR, bS, b1, n1, q1, q2, u1, u2, e5l, e50, d5l, d5o, d5t, oj, gE, gEo, gEt, gs, s5, s5o, s5s, w1, p0, p1, p2, p3, p4, p5, p6, p7, p8, p9, p10, p11, v0, v1, v2, v3, v4, v5, v6, v7, v8, v9, v10, v11, Nat.zero_add, Nat.zero_mul, List.nil_append]
    have ea : rqs (fq F (j + 1)) = rE (F j) := by subst z; exact (fq_succ F 0).symm
    refine ⟨c' - 1, by omega, j + 1, M + 2, .slice (some ⟨M + 1, 0, none⟩) 1 1, by omega, rfl, ⟨_, rfl⟩, ⟨_, rfl⟩, ⟨_, rfl⟩, ⟨_, rfl⟩, .inr ⟨by omega, M + 1, false, by rw [z], ?_, by omega, by omega⟩, fun q hq => ?_, by omega, rfl⟩
    · rw [ea]; simp only [↓R0, R1, simprocAttr, -Int.reduceAbs, v0, v1, v2, v3, v4, v5, v6, v7, v8, v9, v10, v11]
    · have nb := nbq q hq
      have nc : ∀ d, (N + d = q) = False := fun d => eq_false (by omega)
      simp only [↓R0, R1, simprocAttr, -Int.reduceAbs, nb, nc]
      exact hh q hq
  · have x0 : ∀ d, (M + d = ka) = False := fun d => eq_false (by omega)
    have x1 : ∀ d, (ka = M + d) = False := fun d => eq_false (by omega)
    have x2 : (ka = N) = False := eq_false (by omega)
    have x3 : (ka = N + 1) = False := eq_false (by omega)
    have x4 : (ka = N + 2) = False := eq_false (by omega)
    have x5 : (ka = N + 3) = False := eq_false (by omega)
    have x6 : (N = ka) = False := eq_false (by omega)
    have x7 : ∀ d, (N + d + 4 = ka) = (N + d + 4 = ka) := fun _ => rfl
    have x8 : (ka = k1) = False := eq_false (by omega)
    have y3 : (N + 3 = ka) = False := eq_false (by omega)
    simp only [↓R0, R1, simprocAttr, -Int.reduceAbs, t2, t3, t4, t5, t6, c1, c1', bA, bB, bR, bS, b1, n1, q1, q2, u1, u2, e5l, e50, d5l, d5o, d5t, oj, gE, gEo, gEt, gs, s5, s5o, s5s, w1, p0, p1, p2, p3, p4, p5, p6, p7, p8, p9, p10, p11, v0, v1, v2, v3, v4, v5, v6, v7, v8, v9, v10, v11, bk, fa, lfa, ofa, dj1, dj2, x0, x1, x2, x3, x4, x5, x6, x8, y3, Nat.zero_add, Nat.zero_mul, List.nil_append]
    refine ⟨c' - 1, by omega, j + 1, M + 2, .slice (some ⟨M + 1, 0, none⟩) (j + 1) (j + 1), by omega, rfl, ⟨_, rfl⟩, ⟨_, rfl⟩, ⟨_, rfl⟩, ⟨_, rfl⟩, .inr ⟨by omega, M + 1, false, rfl, ?_, by omega, by omega⟩, fun q hq => ?_, by omega, rfl⟩
    · simp only [↓R0, R1, simprocAttr, -Int.reduceAbs, v0, v1, v2, v3, v4, v5, v6, v7, v8, v9, v10, v11]
    · have nb := nbq q hq
      have nc : ∀ d, (N + d = q) = False := fun d => eq_false (by omega)
      have nd : (ka = q) = False := eq_false (by omega)
      simp only [↓R0, R1, simprocAttr, -Int.reduceAbs, nb, nc, nd]
      exact hh q hq
def c45 : ICode :=
  (.seq (.reg [qq 2 (.box 37 5 (.t 0)), qq 3 (.box 37 5 (.t 1)), qq 4 (.alloc 37 5 [(.slice none 0 0), (.bool false), e0, e0, (.int .i64 0)])]) (.seq (.reg [qq 7 (.faddr 1 (.t 2)), qq 8 (.load true 3 (.t 7)), qq 9 (.faddr 1 (.t 3)), qq 10 (.load true 3 (.t 9)), qq 11 (.call 64 [(.t 8), (.t 10)]), qq 12 (.build [(.slice none 0 0), (.bool false), e0, e0, (.int .i64 0)] [(1, 3, (.t 11))]), qq 5 (.alloc 37 5 [(.slice none 0 0), (.bool false), e0, e0, (.int .i64 0)]), qn (.store 5 (.t 5) (.t 12))]) (.seq (.seq (.reg [qq 6 (.mv (ci 0))]) (.block 0 (.loop (.seq (.seq (.reg [qq 13 (.mv (.t 6)), qq 14 (.faddr 0 (.t 2)), qq 15 (.load false 1 (.t 14)), qq 16 (.lensl (.t 15)), qq 17 (.bin .lss (.t 13) (.t 16))]) (.cond (.t 17) .skip (.exit 0))) (.seq (.block 1 (.dreg [qu 20 (.faddr 0 (.t 5)), qu 21 (.load false 1 (.t 20)), qu 22 (.faddr 0 (.t 2)), qu 23 (.load false 1 (.t 22)), qu 24 (.mv (.t 6)), qu 25 (.ixsl 3 (.t 23) (.t 24)), qu 26 (.load true 3 (.t 25)), qu 27 (.faddr 0 (.t 3)), qu 28 (.load false 1 (.t 27)), qu 29 (.mv (.t 6)), qu 30 (.ixsl 3 (.t 28) (.t 29)), qu 31 (.load true 3 (.t 30)), qu 32 (.call 64 [(.t 26), (.t 31)]), qu 33 (.bslice 35 3 1 [(.bool false), e0, e0] [(0, 3, (.t 32))]), qu 34 (.app 35 3 40 (.t 21) (.t 33)), qu 35 (.faddr 0 (.t 5)), qm (.store 1 (.t 35) (.t 34))])) (.reg [qq 18 (.mv (.t 6)), qq 19 (.bin .add (.t 18) (ci 1)), qq 6 (.mv (.t 19))])))))) (.seq (.reg [qq 36 (.load true 5 (.t 5)), qn (.store 5 (.t 4) (.t 36))]) .ret))))
theorem tr45 : trFun Tryz.prog 45 = some ⟨37, [.cell 4 true 5], c45⟩ := by kernel_rfl
set_option maxHeartbeats 16000000 in
theorem ok_less24 : SpecOK Tryz.prog 45 (nwL spLess24) := by
  refine newL_run (env_cons ok_r3Sub (env_nil _)) mixed tr45 ?_ ?_
  · intro args h h' r hle e
    unfold spLess24 at e ⊢
    split at e
    · split at e
      · rename_i x y hb hc
        simp only [decEq_mono hle hb, decEq_mono hle hc]; exact e
      · cases e
    · cases e
  intro args h N r hG hN
  unfold spLess24 at hG
  split at hG
  case h_2 => cases hG
  rename_i cs ds
  split at hG
  case h_2 => cases hG
  rename_i e q hx hq
  split at hG
  case isFalse => cases hG
  rename_i hs
  cases hG
  obtain ⟨sl, rfl, hl⟩ := decEq_eq hx
  obtain ⟨a, c, rfl⟩ := listAt_sl hl
  obtain ⟨n8, hqn, he, ho⟩ := hs
  obtain ⟨sl2, rfl, hl2⟩ := decEq_eq hq
  obtain ⟨a2, c2, rfl⟩ := listAt_sl hl2
  rw [hqn] at hl2 ⊢
  refine ⟨eqNL_par _ _ _, by simp, ?_⟩
  generalize hF : lessF e q = F at *
  generalize hn : e.coef.length = n at *
  have e5l : (Value.slice a n c :: e.tl).length = 5 := rfl
  have e5o : (Value.slice a n c :: e.tl).all okCell = true := rfl
  have e50 : (Value.slice a n c :: e.tl)[0]? = some (.slice a n c) := rfl
  have e51 : ((Value.slice a n c :: e.tl).drop 1).take 3 = e.rhs.cells := rfl
  have r1 : e.rhs.cells.length = 3 := rfl
  have r2 : e.rhs.cells.all okCell = true := rfl
  have d5l : (Value.slice a2 n c2 :: q.tl).length = 5 := rfl
  have d5o : (Value.slice a2 n c2 :: q.tl).all okCell = true := rfl
  have d50 : (Value.slice a2 n c2 :: q.tl)[0]? = some (.slice a2 n c2) := rfl
  have d51 : ((Value.slice a2 n c2 :: q.tl).drop 1).take 3 = q.rhs.cells := rfl
  have r3 : q.rhs.cells.length = 3 := rfl
  have r4 : q.rhs.cells.all okCell = true := rfl
  have rc : spR3Sub [.agg ⟨e.rhs.cells⟩, .agg ⟨q.rhs.cells⟩] = some (.agg ⟨rE (F n)⟩) := by
    rw [sub3 he.2 ho.2, ← hF]
    unfold lessF
    rw [hn, rowE_n, rowE_n]
  have opc : ∀ j, j < n → spR3Sub [.agg ⟨(rqAt e.coef j).cells⟩, .agg ⟨(rqAt q.coef j).cells⟩] = some (.agg ⟨rE (F j)⟩) := fun j hj => by
    rw [sub3 (he.1 _ (rqAt_mem (by omega))) (ho.1 _ (rqAt_mem (by omega))), ← hF]
    unfold lessF
    rw [hn, rowE_lt hj, rowE_lt hj]; rfl
  have gE : ∀ v : Rat, (rE v).length = 3 := fun _ => rfl
  have gEo : ∀ v : Rat, (rE v).all okCell = true := fun _ => rfl
  have gEt : ∀ v : Rat, (rE v).take 3 = rE v := fun _ => rfl
  have gEs : ∀ v : Rat, setR [.bool false, .string ⟨⟨[]⟩⟩, .string ⟨⟨[]⟩⟩] 0 (rE v) = rE v := fun _ => rfl
  have st : setR [.slice none 0 0, .bool false, .string ⟨⟨[]⟩⟩, .string ⟨⟨[]⟩⟩, .int .i64 0] 1 (rE (F n)) = Value.slice none 0 0 :: (canE n F).tl := rfl
  have s5 : ∀ s : Value, (s :: (canE n F).tl).length = 5 := fun _ => rfl
  have s5o : ∀ (a : Option Addr) (m k : Nat), (Value.slice a m k :: (canE n F).tl).all okCell = true := fun _ _ _ => rfl
  have s5s : ∀ s : Value, setR [.slice none 0 0, .bool false, .string ⟨⟨[]⟩⟩, .string ⟨⟨[]⟩⟩, .int .i64 0] 0 (s :: (canE n F).tl) = s :: (canE n F).tl := fun _ => rfl
  have s5t : ∀ s : Value, (s :: (canE n F).tl).take 5 = s :: (canE n F).tl := fun _ => rfl
  unfold eqNL
  generalize (canE n F).tl = ST at *
  generalize Value.slice a n c :: e.tl = C5 at *
  generalize e.rhs.cells = RH at *
  generalize Value.slice a2 n c2 :: q.tl = D5 at *
  generalize q.rhs.cells = RD at *
  have p0 : (N = N + 1) = False := eq_false (by omega)
  have p1 : (N = N + 2) = False := eq_false (by omega)
  have p2 : (N = N + 3) = False := eq_false (by omega)
  have p3 : (N + 1 = N) = False := eq_false (by omega)
  have p4 : (N + 1 = N + 2) = False := eq_false (by omega)
  have p5 : (N + 1 = N + 3) = False := eq_false (by omega)
  have p6 : (N + 2 = N) = False := eq_false (by omega)
  have p7 : (N + 2 = N + 1) = False := eq_false (by omega)
  have p8 : (N + 2 = N + 3) = False := eq_false (by omega)
  have p9 : (N + 3 = N) = False := eq_false (by omega)
  have p10 : (N + 3 = N + 1) = False := eq_false (by omega)
  have p11 : (N + 3 = N + 2) = False := eq_false (by omega)
  have gN : (N + 0 = N) = True := eq_true rfl
  simp only [c45, G0, Nat.reduceAdd]
  simp only [↓R0, R1, simprocAttr, -Int.reduceAbs, e5l, e5o, e50, e51, r1, r2, d5l, d5o, d50, d51, r3, r4, rc, gE, gEo, st, s5, s5o, s5s, p0, p1, p2, p3, p4, p5, p6, p7, p8, p9, p10, p11]
  refine lp_parts (fun c' tm hp nx => ∃ (j M : Nat) (s : Value), c' + j = n ∧ tmget tm 2 = .pointer (some ⟨N, 0, none⟩) ∧ tmget tm 3 = .pointer (some ⟨N + 1, 0, none⟩) ∧ tmget tm 4 = .pointer (some ⟨N + 2, 0, none⟩) ∧ tmget tm 5 = .pointer (some ⟨N + 3, 0, none⟩) ∧ tmget tm 6 = .int .i64 j ∧
      (∃ x, hget hp N = some ⟨37, 5, x, C5⟩) ∧ (∃ x, hget hp (N + 1) = some ⟨37, 5, x, D5⟩) ∧ (∃ x, hget hp (N + 2) = some ⟨37, 5, x, [.slice none 0 0, .bool false, .string ⟨⟨[]⟩⟩, .string ⟨⟨[]⟩⟩, .int .i64 0]⟩) ∧ (∃ x, hget hp (N + 3) = some ⟨37, 5, x, s :: ST⟩) ∧ GrS hp (N + 4) M j F s ∧ ExtL N h hp ∧ N + 4 ≤ M ∧ nx = M + 0) ?_ n
    ⟨0, N + 4, .slice none 0 0, by omega, ?_, ?_, ?_, ?_, ?_, ?_, ?_, ?_, ?_, .inl ⟨rfl, rfl⟩, ?_, Nat.le_refl _, rfl⟩
  rotate_left
  all_goals first | (simp only [↓R0, R1, simprocAttr, -Int.reduceAbs]; done) | (simp only [↓R0, R1, simprocAttr, -Int.reduceAbs]; rfl) | (refine ⟨true, ?_⟩; simp only [↓R0, R1, simprocAttr, -Int.reduceAbs, gN, p0, p1, p2, p3, p4, p5, p6, p7, p8, p9, p10, p11]; done) | skip
  · intro q hq
    have nb : ∀ d, (N + d = q) = False := fun d => eq_false (by omega)
    simp only [↓R0, R1, simprocAttr, -Int.reduceAbs, nb]
  rintro c' tm hp nx ⟨j, M, s, hcj, t2, t3, t4, t5, t6, ⟨x1, bA⟩, ⟨x2, bB⟩, ⟨x3, bR⟩, ⟨x4, bS⟩, hG, hh, hM, hnx⟩
  rw [hnx]
  clear hnx nx
  have nbq : ∀ q, q < N → ∀ d, (M + d = q) = False := fun q hq d => eq_false (by omega)
  by_cases c1 : j < n
  case neg =>
    have ej : j = n := by omega
    rw [ej] at hG t6
    have c1' : ((n : Int) < (n : Int)) = False := eq_false (by omega)
    rcases hG with ⟨z, rfl⟩ | ⟨z, ka, y, rfl, bk, k1, k2⟩
    · rw [if_pos z]
      simp only [↓R0, R1, simprocAttr, -Int.reduceAbs, t2, t3, t4, t5, t6, c1', bA, bB, bR, bS, e5l, e50, d5l, s5, s5o, s5s, s5t, p0, p1, p2, p3, p4, p5, p6, p7, p8, p9, p10, p11, FinL, isEnd, resL, res1]
      refine ⟨fun i => i, _, fun i hi => absurd hi (Nat.not_lt_zero i), fun i j hi => absurd hi (Nat.not_lt_zero i), rfl, rfl, fun i hi => absurd hi (Nat.not_lt_zero i), fun q hq => ?_⟩
      have nb : ∀ d, (N + d = q) = False := fun d => eq_false (by omega)
      simp only [↓R0, R1, simprocAttr, -Int.reduceAbs, nb]
      exact hh q hq
    · rw [if_neg (by omega)]
      have y1 : (N + 2 = ka) = False := eq_false (by omega)
      simp only [↓R0, R1, simprocAttr, -Int.reduceAbs, t2, t3, t4, t5, t6, c1', bA, bB, bR, bS, e5l, e50, d5l, s5, s5o, s5s, s5t, p0, p1, p2, p3, p4, p5, p6, p7, p8, p9, p10, p11, FinL, isEnd, resL, res1]
      refine ⟨fun _ => ka, _, fun i hi => (by omega : N ≤ ka), fun i j (hi : i < 1) (hj : j < 1) _ => by omega, rfl, rfl, fun i hi => ⟨y, ?_⟩, fun q hq => ?_⟩
      · simp only [↓R0, R1, simprocAttr, -Int.reduceAbs, y1]
        exact bk
      · have nb : ∀ d, (N + d = q) = False := fun d => eq_false (by omega)
        simp only [↓R0, R1, simprocAttr, -Int.reduceAbs, nb]
        exact hh q hq
  have c1' : ((j : Int) < (n : Int)) = True := eq_true (by omega)
  have w1 : IntKind.i64.wrap ((j : Int) + 1) = ((j + 1 : Nat) : Int) := by rw [i64_in _ (by omega)]; omega
  obtain ⟨k1, f1, B1, rfl, h1, q1, q2⟩ := rq_at hl c1
  have l1 := hN _ _ h1
  have b1 : hget hp k1 = some B1 := by rw [hh k1 l1]; exact h1
  have n1 := nbq k1 l1
  have u1 : (rqAt e.coef j).cells.length = 3 := rfl
  have u2 : (rqAt e.coef j).cells.all okCell = true := rfl
  have oj := opc j c1
  obtain ⟨k2, f2, B2, rfl, h2, q3, q4⟩ := rq_at hl2 c1
  have l2 := hN _ _ h2
  have b2 : hget hp k2 = some B2 := by rw [hh k2 l2]; exact h2
  have n2 := nbq k2 l2
  have u3 : (rqAt q.coef j).cells.length = 3 := rfl
  have u4 : (rqAt q.coef j).cells.all okCell = true := rfl
  generalize (rqAt q.coef j).cells = PQ at *
  generalize (rqAt e.coef j).cells = PE at *
  have gs := gEs (F j)
  have fa := fq_succ F j
  have lfa : (rqs (fq F j)).length = j * 3 := by rw [rqs_len, fq_len]
  have ofa := rqs_ok (fq F j)
  have dj1 : ((j + 1) * 40 ≤ 140737488355328) = True := eq_true (by omega)
  have dj2 : (j + 1 ≤ j) = False := eq_false (by omega)
  have v0 : ∀ d, (M + d = N) = False := fun d => eq_false (by omega)
  have v1 : ∀ d, (N = M + d) = False := fun d => eq_false (by omega)
  have v2 : (N = k1) = False := eq_false (by omega)
  have v3 : (N = k2) = False := eq_false (by omega)
  have v4 : ∀ d, (M + d = N + 1) = False := fun d => eq_false (by omega)
  have v5 : ∀ d, (N + 1 = M + d) = False := fun d => eq_false (by omega)
  have v6 : (N + 1 = k1) = False := eq_false (by omega)
  have v7 : (N + 1 = k2) = False := eq_false (by omega)
  have v8 : ∀ d, (M + d = N + 2) = False := fun d => eq_false (by omega)
  have v9 : ∀ d, (N + 2 = M + d) = False := fun d => eq_false (by omega)
  have v10 : (N + 2 = k1) = False := eq_false (by omega)
  have v11 : (N + 2 = k2) = False := eq_false (by omega)
  have v12 : ∀ d, (M + d = N + 3) = False := fun d => eq_false (by omega)
  have v13 : ∀ d, (N + 3 = M + d) = False := fun d => eq_false (by omega)
  have v14 : (N + 3 = k1) = False := eq_false (by omega)
  have v15 : (N + 3 = k2) = False := eq_false (by omega)
  rcases hG with ⟨z, rfl⟩ | ⟨z, ka, y, rfl, bk, hk1, hk2⟩
  · simp only [↓R0, R1, simprocAttr, -Int.reduceAbs, t2, t3, t4, t5, t6, c1, c1', bA, bB, bR, bS, b1, n1, q1, q2, u1, u2, b2, n2, q3, q4, u3, u4, d50, e5l, e50, d5l, d5o, d50, d51, r3, r4, oj, gE, gEo, gEt, gs, s5, s5o, s5s, w1, p0, p1, p2, p3, p4, p5, p6, p7, p8, p9, p10, p11, v0, v1, v2, v3, v4, v5, v6, v7, v8, v9, v10, v11, v12, v13, v14, v15, Nat.zero_add, Nat.zero_mul, List.nil_append]
    have ea : rqs (fq F (j + 1)) = rE (F j) := by subst z; exact (fq_succ F 0).symm
    refine ⟨c' - 1, by omega, j + 1, M + 2, .slice (some ⟨M + 1, 0, none⟩) 1 1, by omega, rfl, ⟨_, rfl⟩, ⟨_, rfl⟩, ⟨_, rfl⟩, ⟨_, rfl⟩, .inr ⟨by omega, M + 1, false, by rw [z], ?_, by omega, by omega⟩, fun q hq => ?_, by omega, rfl⟩
    · rw [ea]; simp only [↓R0, R1, simprocAttr, -Int.reduceAbs, v0, v1, v2, v3, v4, v5, v6, v7, v8, v9, v10, v11, v12, v13, v14, v15]
    · have nb := nbq q hq
      have nc : ∀ d, (N + d = q) = False := fun d => eq_false (by omega)
      simp only [↓R0, R1, simprocAttr, -Int.reduceAbs, nb, nc]
      exact hh q hq
  · have x0 : ∀ d, (M + d = ka) = False := fun d => eq_false (by omega)
    have x1 : ∀ d, (ka = M + d) = False := fun d => eq_false (by omega)
    have x2 : (ka = N) = False := eq_false (by omega)
    have x3 : (ka = N + 1) = False := eq_false (by omega)
    have x4 : (ka = N + 2) = False := eq_false (by omega)
    have x5 : (ka = N + 3) = False := eq_false (by omega)
    have x6 : (N = ka) = False := eq_false (by omega)
    have x7 : ∀ d, (N + d + 4 = ka) = (N + d + 4 = ka) := fun _ => rfl
    have x8 : (ka = k1) = False := eq_false (by omega)
    have x9 : (ka = k2) = False := eq_false (by omega)
    have y3 : (N + 3 = ka) = False := eq_false (by omega)
    simp only [↓R0, R1, simprocAttr, -Int.reduceAbs, t2, t3, t4, t5, t6, c1, c1', bA, bB, bR, bS, b1, n1, q1, q2, u1, u2, b2, n2, q3, q4, u3, u4, d50, e5l, e50, d5l, d5o, d50, d51, r3, r4, oj, gE, gEo, gEt, gs, s5, s5o, s5s, w1, p0, p1, p2, p3, p4, p5, p6, p7, p8, p9, p10, p11, v0, v1, v2, v3, v4, v5, v6, v7, v8, v9, v10, v11, v12, v13, v14, v15, bk, fa, lfa, ofa, dj1, dj2, x0, x1, x2, x3, x4, x5, x6, x8, x9, y3, Nat.zero_add, Nat.zero_mul, List.nil_append]
    refine ⟨c' - 1, by omega, j + 1, M + 2, .slice (some ⟨M + 1, 0, none⟩) (j + 1) (j + 1), by omega, rfl, ⟨_, rfl⟩, ⟨_, rfl⟩, ⟨_, rfl⟩, ⟨_, rfl⟩, .inr ⟨by omega, M + 1, false, rfl, ?_, by omega, by omega⟩, fun q hq => ?_, by omega, rfl⟩
    · simp only [↓R0, R1, simprocAttr, -Int.reduceAbs, v0, v1, v2, v3, v4, v5, v6, v7, v8, v9, v10, v11, v12, v13, v14, v15]
    · have nb := nbq q hq
      have nc : ∀ d, (N + d = q) = False := fun d => eq_false (by omega)
      have nd : (ka = q) = False := eq_false (by omega)
      simp only [↓R0, R1, simprocAttr, -Int.reduceAbs, nb, nc, nd]
      exact hh q hq
end Go.Eng
end
section
set_option linter.unusedVariables false
set_option linter.unusedSimpArgs false
set_option linter.unusedSectionVars false
set_option maxRecDepth 20000
namespace Go.Eng
open Go Go.Proofs Go.IntWalk
theorem eqNL_congr {n : Nat} {f g : Row} (h : ∀ j, j ≤ n → f j = g j) : eqNL n f = eqNL n g := by
  unfold eqNL
  rw [canE_congr h, fq_congr fun j hj => h j (by omega)]
def outR (n : Nat) (l : List EqR) : List Row := l.map (rowE n)
theorem outR_len (n : Nat) (l : List EqR) : (outR n l).length = l.length := by unfold outR; rw [List.length_map]
theorem outR_at {n : Nat} {l : List EqR} {i : Nat} (h : i < l.length) : rowAt (outR n l) i = rowE n (eqAt l i) := by
  unfold rowAt outR
  rw [List.getElem?_map, eqAt_some h]; rfl
structure ClOK (n : Nat) (e : EqR) (l : List EqR) : Prop where
  n8 : n ≤ 8
  m8 : l.length ≤ 8
  len : ∀ d ∈ l, d.coef.length = n
  piv : PInv n (outR n l)
  ok : eqOk e 8589934591
  rb : ∀ j, j ≤ n → RB (rowE n e j) 6
  lok : ∀ d ∈ l, eqOk d 8589934591
  lrb : ∀ p, p < l.length → ∀ j, j ≤ n → RB (rowE n (eqAt l p) j) 119125776
def okAddr (h : Heap) : List Value → Prop
  | .slice none 0 0 :: _ => True
  | .slice (some ⟨k, 0, none⟩) _ _ :: _ => hget h k ≠ none
  | _ => False
open Classical in
noncomputable def spClean24 : List Value → Heap → Option NewL
  | [.agg ⟨cs⟩, sl], h => match decEq h cs, decRows h sl with
    | some e, some l => if l = [] then (if okAddr h cs then some ⟨0, fun _ => .agg ⟨cs⟩, fun _ => 0, fun _ => 0, fun _ _ => []⟩ else none)
      else if ClOK e.coef.length e l then some (eqNL e.coef.length (cleanR e.coef.length (outR e.coef.length l) (rowE e.coef.length e))) else none
    | _, _ => none
  | _, _ => none
theorem okAddr_mono {h h' : Heap} (hl : hle h h') {cs : List Value} (e : okAddr h cs) : okAddr h' cs := by
  unfold okAddr at e ⊢
  split at e
  · trivial
  · rename_i k _ _ _
    cases hb : hget h k with
    | none => exact absurd hb e
    | some b => rw [hl _ _ hb]; simp
  · exact e.elim
theorem okAddr_vr {h : Heap} {cs : List Value} {tl : List Value} {sl : Value} (hcs : cs = sl :: tl) (ht : tl.all isBase = true) (e : okAddr h cs) {β : Emb} (b2 : ∀ k, hget h k ≠ none → β k = some ⟨k, 0, []⟩) : VR β (.agg ⟨cs⟩) (.agg ⟨cs⟩) := by
  unfold okAddr at e
  split at e
  · exact .agg _ _ (.cons _ _ _ _ (.base _ rfl) (VRs.of_base (by injection hcs with _ h; rw [h]; exact ht)))
  · rename_i k _ _ _
    exact .agg _ _ (.cons _ _ _ _ (VR.sl k 0 _ _ ⟨k, 0, []⟩ (b2 k e)) (VRs.of_base (by injection hcs with _ h; rw [h]; exact ht)))
  · exact e.elim
def HdE (M n : Nat) (hp : Heap) (rv : List Value) (e : EqR) : Prop :=
  ∃ a c, rv = .slice a n c :: e.tl ∧ e.coef.length = n ∧ (∀ k off s, a = some ⟨k, off, s⟩ → k < M) ∧ ∀ hp', ExtL M hp hp' → listAt 3 dec1 hp' (.slice a n c) = some e.coef
theorem times_of {h : Heap} {cs : List Value} {e : EqR} {q : RQ} {n : Nat} (hx : decEq h cs = some e) (hn : e.coef.length = n) (n8 : n ≤ 100) (he : eqOk e 8589934592) (ho : q.ok 8589934592) : spTimes [.agg ⟨cs⟩, .agg ⟨q.cells⟩] h = some (eqNL n (timesF e q)) := by
  have hq : dec1 q.cells = some q := rfl
  unfold spTimes
  simp only [hx, hq]
  rw [hn]
  exact if_pos ⟨n8, he, ho⟩
theorem less_of {h : Heap} {cs ds : List Value} {e d : EqR} {n : Nat} (hx : decEq h cs = some e) (hy : decEq h ds = some d) (hn : e.coef.length = n) (hd : d.coef.length = n) (n8 : n ≤ 100) (he : eqOk e 8589934591) (ho : eqOk d 8589934591) : spLess24 [.agg ⟨cs⟩, .agg ⟨ds⟩] h = some (eqNL n (lessF e d)) := by
  unfold spLess24
  simp only [hx, hy]
  rw [hn]
  exact if_pos ⟨n8, hd, he, ho⟩
theorem canE_ok {n k : Nat} {f : Row} (h : ∀ j, j ≤ n → RB (f j) k) : eqOk (canE n f) k := ⟨fq_ok fun j hj => h j (by omega), RQ.of_ok (h n (Nat.le_refl _))⟩
theorem can_dec {h : Heap} {k e s n : Nat} {x : Bool} {f : Row} (hb : hget h k = some ⟨e, s, x, rqs (fq f n)⟩) (h0 : 0 < n) : decEq h (.slice (some ⟨k, 0, none⟩) n n :: (canE n f).tl) = some (canE n f) :=
  decEq_of (rqs_list hb (fq_len _ _) h0)
def c39 : ICode :=
  (.seq (.reg [qq 2 (.box 37 5 (.t 0)), qq 4 (.alloc 37 5 [(.slice none 0 0), (.bool false), e0, e0, (.int .i64 0)])]) (.seq (.seq (.reg [qq 5 (.mv (ci 0))]) (.block 0 (.loop (.seq (.seq (.reg [qq 7 (.mv (.t 5)), qq 8 (.mv (.t 1)), qq 9 (.lensl (.t 8)), qq 10 (.bin .lss (.t 7) (.t 9))]) (.cond (.t 10) .skip (.exit 0))) (.seq (.block 1 (.seq (.reg [qq 13 (.mv (.t 1)), qq 14 (.mv (.t 5)), qq 15 (.ixsl 5 (.t 13) (.t 14)), qq 16 (.faddr 0 (.t 15)), qq 17 (.load false 1 (.t 16)), qq 18 (.call 42 [(.t 17)]), qq 6 (.mv (.t 18))]) (.dreg [qu 19 (.load true 5 (.t 2)), qu 20 (.mv (.t 1)), qu 21 (.mv (.t 5)), qu 22 (.ixsl 5 (.t 20) (.t 21)), qu 23 (.load true 5 (.t 22)), qu 24 (.faddr 0 (.t 2)), qu 25 (.load false 1 (.t 24)), qu 26 (.mv (.t 6)), qu 27 (.ixsl 3 (.t 25) (.t 26)), qu 28 (.load true 3 (.t 27)), qu 29 (.call 40 [(.t 23), (.t 28)]), qu 30 (.call 45 [(.t 19), (.t 29)]), qm (.store 5 (.t 2) (.t 30))]))) (.reg [qq 11 (.mv (.t 5)), qq 12 (.bin .add (.t 11) (ci 1)), qq 5 (.mv (.t 12))])))))) (.seq (.reg [qq 31 (.load true 5 (.t 2)), qn (.store 5 (.t 4) (.t 31))]) .ret)))
theorem tr39 : trFun Tryz.prog 39 = some ⟨32, [.cell 4 true 5], c39⟩ := by kernel_rfl
set_option maxHeartbeats 16000000 in
theorem ok_clean24 : SpecOK Tryz.prog 39 (nwL spClean24) := by
  refine newL_run (env_cons ok_lead24 (env_cons ok_times24 (env_cons ok_less24 (env_nil _)))) mixed tr39 ?_ ?_
  · intro args h h' r hle e
    unfold spClean24 at e ⊢
    split at e
    · split at e
      · rename_i x y hb hc
        simp only [decEq_mono hle hb, decRows_mono hle hc]
        split at e
        · rename_i z
          rw [if_pos z]
          split at e
          · rename_i w; rw [if_pos (okAddr_mono hle w)]; exact e
          · cases e
        · rename_i z
          rw [if_neg z]; exact e
      · cases e
    · cases e
  intro args h N r hG hN
  unfold spClean24 at hG
  split at hG
  case h_2 => cases hG
  rename_i cs sv
  split at hG
  case h_2 => cases hG
  rename_i e l hx hy
  obtain ⟨sl, ecs, hl⟩ := decEq_eq hx
  have c5l : cs.length = 5 := by rw [ecs]; rfl
  have c5t : cs.take 5 = cs := List.take_of_length_le (by omega)
  have c5s : setR [.slice none 0 0, .bool false, .string ⟨⟨[]⟩⟩, .string ⟨⟨[]⟩⟩, .int .i64 0] 0 cs = cs := by
    match cs, c5l with
    | [_, _, _, _, _], _ => rfl
  obtain ⟨b, dd, rfl⟩ := listAt_sl (dec := decEq h) hy
  obtain ⟨a, cc, rfl⟩ := listAt_sl hl
  have c5o : cs.all okCell = true := by rw [ecs]; rfl
  by_cases z : l = []
  · rw [if_pos z] at hG
    split at hG
    case isFalse => cases hG
    rename_i oa
    cases hG
    refine ⟨⟨fun β σ σ' _ b2 => okAddr_vr ecs rfl oa b2, fun β σ σ' _ _ i hi => absurd hi (Nat.not_lt_zero i)⟩, by simp, ?_⟩
    have hl0 : l.length = 0 := by rw [z]; rfl
    have gN : (N + 0 = N) = True := eq_true rfl
    clear ecs
    generalize cs = CS at *
    simp only [c39, G0, Nat.reduceAdd]
    simp only [↓R0, R1, simprocAttr, -Int.reduceAbs, c5l, c5o, hl0]
    refine lp_step ?_
    simp only [↓R0, R1, simprocAttr, -Int.reduceAbs, c5l, c5o, c5t, c5s, hl0, FinL, isEnd, resL, res1]
    refine ⟨fun i => i, _, fun i hi => absurd hi (Nat.not_lt_zero i), fun i j hi => absurd hi (Nat.not_lt_zero i), rfl, rfl, fun i hi => absurd hi (Nat.not_lt_zero i), fun q hq => ?_⟩
    have nb : ∀ d, (N + d = q) = False := fun d => eq_false (by omega)
    simp only [↓R0, R1, simprocAttr, -Int.reduceAbs, nb]
  rw [if_neg z] at hG
  split at hG
  case isFalse => cases hG
  rename_i hs
  cases hG
  generalize hn : e.coef.length = n at *
  refine ⟨eqNL_par _ _ _, by simp, ?_⟩
  have m0 : 0 < l.length := List.length_pos_iff.2 z
  have n0 : 0 < n := by have := hs.piv.lt 0 (by rw [outR_len]; exact m0); omega
  have n8 := hs.n8
  have m8 := hs.m8
  obtain ⟨out, hout⟩ : ∃ out, out = outR n l := ⟨_, rfl⟩
  have ol : out.length = l.length := by rw [hout, outR_len]
  have oat : ∀ i, i < l.length → rowAt out i = rowE n (eqAt l i) := fun i hi => by rw [hout, outR_at hi]
  have piv := hs.piv
  rw [← hout] at piv ⊢
  have cB := clean_RB piv hs.rb (B := 119125776) (fun p hp j hj => by rw [oat p (by omega)]; exact hs.lrb p (by omega) j hj)
  have cK := clean_keep piv (rowE n e)
  have cS := fun (t : Nat) (ht : t < l.length) => clean_succ (n := n) (out := out) (rowE n e) (t := t) (by omega)
  have hfin : cleanR n out (rowE n e) = cleanR n (out.take l.length) (rowE n e) := by rw [← ol, List.take_length]
  rw [hfin]
  have z0 : cleanR n (out.take 0) (rowE n e) = rowE n e := by rw [List.take_zero]; rfl
  generalize hR : (fun t => cleanR n (out.take t) (rowE n e)) = R at *
  have hRt : ∀ t, cleanR n (out.take t) (rowE n e) = R t := fun t => by rw [← hR]
  simp only [hRt] at cB cK cS z0 ⊢
  clear hRt
  have kb : ∀ k off s, a = some ⟨k, off, s⟩ → k < N := fun k off s ea => by
    obtain ⟨k1, f1, B1, e1, h1, _⟩ := rq_at hl n0
    rw [ea] at e1
    cases e1
    exact hN _ _ h1
  have gN : (N + 0 = N) = True := eq_true rfl
  have g1 : (N + 1 = N) = False := eq_false (by omega)
  have g2 : (N = N + 1) = False := eq_false (by omega)
  have ecs' := ecs
  clear ecs
  simp only [c39, G0, Nat.reduceAdd]
  simp only [↓R0, R1, simprocAttr, -Int.reduceAbs, c5l, c5o]
  refine lp_parts (fun c' tm hp nx => ∃ (i M : Nat) (rv : List Value) (d : EqR), c' + i = l.length ∧ tmget tm 1 = .slice b l.length dd ∧ tmget tm 2 = .pointer (some ⟨N, 0, none⟩) ∧ tmget tm 4 = .pointer (some ⟨N + 1, 0, none⟩) ∧ tmget tm 5 = .int .i64 i ∧
      (∃ x, hget hp N = some ⟨37, 5, x, rv⟩) ∧ (∃ x, hget hp (N + 1) = some ⟨37, 5, x, [.slice none 0 0, .bool false, .string ⟨⟨[]⟩⟩, .string ⟨⟨[]⟩⟩, .int .i64 0]⟩) ∧ HdE M n hp rv d ∧ (∀ j, j ≤ n → rowE n d j = R i j) ∧ eqOk d 8589934591 ∧
      (0 < i → ∃ kr y, rv = .slice (some ⟨kr, 0, none⟩) n n :: (canE n (R i)).tl ∧ hget hp kr = some ⟨35, 3, y, rqs (fq (R i) n)⟩ ∧ N + 2 ≤ kr) ∧ ExtL N h hp ∧ N + 2 ≤ M ∧ nx = M + 0) ?_ l.length
    ⟨0, N + 2, cs, e, by omega, ?_, ?_, ?_, ?_, ?_, ?_, ⟨a, cc, ecs', hn, fun k off s ea => by have := kb k off s ea; omega, fun hp' he => ext_rats hN hl (fun q hq => by
      have nb : ∀ d, (N + d = q) = False := fun d => eq_false (by omega)
      rw [he q (by omega)]
      simp only [↓R0, R1, simprocAttr, -Int.reduceAbs, nb])⟩, fun j hj => by rw [z0], hs.ok, fun h0 => absurd h0 (Nat.lt_irrefl 0), ?_, Nat.le_refl _, rfl⟩
  rotate_left
  all_goals first | (simp only [↓R0, R1, simprocAttr, -Int.reduceAbs]; done) | (simp only [↓R0, R1, simprocAttr, -Int.reduceAbs]; rfl) | (refine ⟨true, ?_⟩; simp only [↓R0, R1, simprocAttr, -Int.reduceAbs, gN, g1, g2]; done) | skip
  · intro q hq
    have nb : ∀ d, (N + d = q) = False := fun d => eq_false (by omega)
    simp only [↓R0, R1, simprocAttr, -Int.reduceAbs, nb]
  rintro c' tm hp nx ⟨i, M, rv, d, hci, t1, t2, t4, t5, ⟨x1, bA⟩, ⟨x2, bB⟩, ⟨ad, cd, erv, hdn, hdb, hdl⟩, hdR, hdo, hkr, hh, hM, hnx⟩
  rw [hnx]
  clear hnx nx
  have r5l : rv.length = 5 := by rw [erv]; rfl
  have r5o : rv.all okCell = true := by rw [erv]; rfl
  have r5t : rv.take 5 = rv := List.take_of_length_le (by omega)
  have r50 : rv[0]? = some (.slice ad n cd) := by rw [erv]; rfl
  have r5s : setR [.slice none 0 0, .bool false, .string ⟨⟨[]⟩⟩, .string ⟨⟨[]⟩⟩, .int .i64 0] 0 rv = rv := by
    match rv, r5l with
    | [_, _, _, _, _], _ => rfl
  have nbq : ∀ q, q < N → ∀ d, (M + d = q) = False := fun q hq d => eq_false (by omega)
  by_cases c1 : i < l.length
  case neg =>
    have ei : i = l.length := by omega
    obtain ⟨kr, y, rfl, bk, hk⟩ := hkr (by omega)
    rw [ei] at bk t5
    unfold eqNL
    rw [if_neg (by omega)]
    have c1' : ((l.length : Int) < (l.length : Int)) = False := eq_false (by omega)
    have y1 : (N + 1 = kr) = False := eq_false (by omega)
    rw [ei] at r5l r5o r5t r5s bA
    generalize hCE : Value.slice (some ⟨kr, 0, none⟩) n n :: (canE n (R l.length)).tl = CE at *
    simp only [↓R0, R1, simprocAttr, -Int.reduceAbs, t1, t2, t4, t5, c1', bA, bB, r5l, r5o, r5t, r5s, g1, g2, FinL, isEnd, resL, res1]
    refine ⟨fun _ => kr, _, fun i hi => (by omega : N ≤ kr), fun i j (hi : i < 1) (hj : j < 1) _ => by omega, rfl, by rw [← hCE]; rfl, fun i hi => ⟨y, ?_⟩, fun q hq => ?_⟩
    · simp only [↓R0, R1, simprocAttr, -Int.reduceAbs, y1]
      exact bk
    · have nb : ∀ d, (N + d = q) = False := fun d => eq_false (by omega)
      simp only [↓R0, R1, simprocAttr, -Int.reduceAbs, nb]
      exact hh q hq
  have c1' : ((i : Int) < (l.length : Int)) = True := eq_true (by omega)
  have w1 : IntKind.i64.wrap ((i : Int) + 1) = ((i + 1 : Nat) : Int) := by rw [i64_in _ (by omega)]; omega
  obtain ⟨k, off, blk, a', n', c'', rfl, hb, q1, q2, hn', hl'⟩ := eq_at hy c1
  have hk := hN _ _ hb
  have hbb : hget hp k = some blk := by rw [hh k hk]; exact hb
  have nk := nbq k hk
  have hem := eqAt_mem c1
  have hln := hs.len _ hem
  have hn'' : n' = n := hn'.trans hln
  subst hn''
  have ld : leadN n' (qsV (eqAt l i).coef) = leadN n' (rowAt out i) := by
    rw [oat i c1]
    exact lead_congr fun j hj => (rowE_lt hj).symm
  obtain ⟨kk, hkk⟩ : ∃ kk, kk = leadN n' (rowAt out i) := ⟨_, rfl⟩
  have kkn : kk < n' := by rw [hkk]; exact piv.lt i (by omega)
  have hE5 : (blk.cells.drop (off + i * 5))[0]? = some (.slice a' n' c'') := by
    rw [show (blk.cells.drop (off + i * 5))[0]? = ((blk.cells.drop (off + i * 5)).take 5)[0]? by rw [List.getElem?_take, if_pos (by omega)], q2]; rfl
  rw [List.getElem?_drop] at hE5
  have le : ∀ {hp' : Heap}, ExtL N h hp' → spLead [.slice a' n' c''] hp' = some (.int .i64 kk) := fun he => by
    have := lead_of (ext_rats hN hl' he) (by omega) (fun q hq => ⟨by have := ((hs.lok _ hem).1 q hq).1; omega, by have := ((hs.lok _ hem).1 q hq).2; omega⟩)
    rw [hln, ld, ← hkk] at this; exact this
  obtain ⟨k1, f1, B1, ead, b1, q3, q4⟩ := rq_at (hdl hp (fun _ _ => rfl)) kkn
  have hk1 := hdb _ _ _ ead
  subst ead
  have nk1 : ∀ d, (M + d = k1) = False := fun d => eq_false (by omega)
  have okq : (rqAt d.coef kk).ok 8589934592 := by
    have := hdo.1 _ (rqAt_mem (i := kk) (by omega))
    exact ⟨by have := this.1; omega, by have := this.2; omega⟩
  obtain ⟨F, hF⟩ : ∃ F, F = timesF (eqAt l i) (rqAt d.coef kk) := ⟨_, rfl⟩
  have Fv : ∀ j, j ≤ n' → F j = rowAt out i j * R i kk := fun j hj => by
    rw [hF]
    unfold timesF
    rw [hln, oat i c1, ← hdR kk (by omega), rowE_lt kkn]; rfl
  have Rk : R i kk = rowE n' e kk := by
    have := cK i (by omega) i (Nat.le_refl _) (by omega)
    rw [← hkk] at this; exact this
  have FRB : ∀ j, j ≤ n' → RB (F j) (119125776 + 6) := fun j hj => by
    rw [Fv j hj, Rk, oat i c1]
    exact (hs.lrb i c1 j hj).mul (hs.rb kk (by omega)) (Nat.le_refl _)
  have ti : ∀ {hp' : Heap}, ExtL N h hp' → spTimes [.agg ⟨Value.slice a' n' c'' :: (eqAt l i).tl⟩, .agg ⟨(rqAt d.coef kk).cells⟩] hp' = some ⟨1, fun σ => .agg ⟨.slice (some ⟨σ 0, 0, none⟩) n' n' :: (canE n' F).tl⟩, fun _ => 35, fun _ => 3, fun _ _ => rqs (fq F n')⟩ := fun he => by
    rw [times_of (decEq_of (ext_rats hN hl' he)) hln (by omega) ⟨fun q hq => ⟨by have := ((hs.lok _ hem).1 q hq).1; omega, by have := ((hs.lok _ hem).1 q hq).2; omega⟩, by have := (hs.lok _ hem).2.1; omega, by have := (hs.lok _ hem).2.2; omega⟩ okq, ← hF]
    unfold eqNL
    rw [if_neg (by omega)]
  have Rn : ∀ j, j ≤ n' → lessF d (canE n' F) j = R (i + 1) j := fun j hj => by
    rw [cS i c1]
    unfold lessF clean1
    rw [hdn, rowE_can hj, hdR j hj, Fv j hj, ← hkk]
  have li : ∀ {hp' : Heap}, hget hp' (M + 0) = some ⟨35, 3, false, rqs (fq F n')⟩ → ExtL M hp hp' → spLess24 [.agg ⟨rv⟩, .agg ⟨Value.slice (some ⟨M + 0, 0, none⟩) n' n' :: (canE n' F).tl⟩] hp' = some ⟨1, fun σ => .agg ⟨.slice (some ⟨σ 0, 0, none⟩) n' n' :: (canE n' (R (i + 1))).tl⟩, fun _ => 35, fun _ => 3, fun _ _ => rqs (fq (R (i + 1)) n')⟩ := fun hb he => by
    rw [erv, less_of (decEq_of (hdl _ he)) (can_dec hb (by omega)) hdn (fq_len _ _) (by omega) hdo (canE_ok fun j hj => (FRB j hj).le (by omega)), eqNL_congr Rn]
    unfold eqNL
    rw [if_neg (by omega)]
  have xs := fun j b hp' => extL_ge (show N ≤ M by omega) j b h hp'
  have xh : ExtL N h hp = True := eq_true hh
  have xm := fun j b => extL_cons M j b hp
  have xm0 : ExtL M hp hp = True := eq_true fun _ _ => rfl
  have e5l : (Value.slice a' n' c'' :: (eqAt l i).tl).length = 5 := rfl
  have e5o : (Value.slice a' n' c'' :: (eqAt l i).tl).all okCell = true := rfl
  have p1 : (rqAt d.coef kk).cells.length = 3 := rfl
  have p2 : (rqAt d.coef kk).cells.all okCell = true := rfl
  have kk' : ((kk : Int) < (n' : Int)) = True := eq_true (by omega)
  have hs5 : ∀ v : List Value, v.length = 5 → setR rv 0 v = v := fun v hv => by
    match rv, r5l, v, hv with
    | [_, _, _, _, _], _, [_, _, _, _, _], _ => rfl
  have st := hs5 (Value.slice (some ⟨M + 1, 0, none⟩) n' n' :: (canE n' (R (i + 1))).tl) rfl
  have nw5 : (Value.slice (some ⟨M + 1, 0, none⟩) n' n' :: (canE n' (R (i + 1))).tl).length = 5 := rfl
  have nw5o : (Value.slice (some ⟨M + 1, 0, none⟩) n' n' :: (canE n' (R (i + 1))).tl).all okCell = true := rfl
  have v0 : ∀ d, (M + d = N) = False := fun d => eq_false (by omega)
  have v1 : ∀ d, (N = M + d) = False := fun d => eq_false (by omega)
  have v2 : ∀ d, (M + d = N + 1) = False := fun d => eq_false (by omega)
  have v3 : ∀ d, (N + 1 = M + d) = False := fun d => eq_false (by omega)
  have m00 : M + 0 + 0 = M + 0 := rfl
  have m10 : M + 1 + 0 = M + 1 := rfl
  have nwT : ∀ (args : List Value) (hp : Heap) (k : Nat), nwL spTimes args hp k = (spTimes args hp).map fun r => (r.val (k + ·), newH r (k + ·) r.m, r.m) := fun _ _ _ => rfl
  have nwS : ∀ (args : List Value) (hp : Heap) (k : Nat), nwL spLess24 args hp k = (spLess24 args hp).map fun r => (r.val (k + ·), newH r (k + ·) r.m, r.m) := fun _ _ _ => rfl
  generalize hNV : Value.slice (some ⟨M + 1, 0, none⟩) n' n' :: (canE n' (R (i + 1))).tl = NV at *
  generalize hC5 : Value.slice a' n' c'' :: (eqAt l i).tl = C5 at *
  generalize (rqAt d.coef kk).cells = PC at *
  simp only [↓R0, R1, simprocAttr, -Int.reduceAbs, rdS, t1, t2, t4, t5, c1, c1', bA, bB, hbb, nk, q1, q2, hE5, le, b1, nk1, q3, q4, kkn, kk', ti, li, nwT, nwS, newHL1, m00, m10, hNV, st, nw5, nw5o, e5l, e5o, p1, p2, r5l, r5o, r5t, r50, xs, xh, xm, xm0, v0, v1, v2, v3, g1, g2, w1]
  have g0 : hget ((N, some ⟨37, 5, x1, NV⟩) :: (M + 1, some ⟨35, 3, false, rqs (fq (R (i + 1)) n')⟩) :: (M + 0, some ⟨35, 3, false, rqs (fq F n')⟩) :: hp) (M + 1) = some ⟨35, 3, false, rqs (fq (R (i + 1)) n')⟩ := by
    simp only [↓R0, R1, simprocAttr, -Int.reduceAbs, v0, v1]
  refine ⟨c' - 1, by omega, i + 1, M + 2, NV, canE n' (R (i + 1)), by omega, rfl, ⟨_, rfl⟩, ⟨_, rfl⟩, ⟨some ⟨M + 1, 0, none⟩, n', hNV.symm, fq_len _ _, fun k off s e => by cases e; omega, fun hp' he => rqs_list (by rw [he (M + 1) (by omega)]; exact g0) (fq_len _ _) (by omega)⟩, fun j hj => rowE_can hj, canE_ok (fun j hj => (cB (i + 1) (by omega) j hj).le (by have : (i + 1) * (6 + 119125776 + 1) ≤ 8 * (6 + 119125776 + 1) := Nat.mul_le_mul_right _ (by omega); omega)), fun _ => ⟨M + 1, false, hNV.symm, ?_, by omega⟩, fun q hq => ?_, by omega, rfl⟩
  · simp only [↓R0, R1, simprocAttr, -Int.reduceAbs, v0, v1]
  · have nb := nbq q hq
    have nN : (N = q) = False := eq_false (by omega)
    simp only [↓R0, R1, simprocAttr, -Int.reduceAbs, nb, nN]
    exact hh q hq
end Go.Eng
end
section
set_option linter.unusedVariables false
set_option linter.unusedSimpArgs false
set_option linter.unusedSectionVars false
set_option maxRecDepth 20000
namespace Go.Eng
open Go Go.Proofs Go.IntWalk
def spR3From : List Value → Option Value
  | [.int .i64 x] => if -1000 ≤ x ∧ x ≤ 1000 then some (.agg ⟨rE (x : Rat)⟩) else none
  | _ => none
def c41 : ICode :=
  (.seq (.reg [qq 2 (.alloc 35 3 [(.bool false), e0, e0])]) (.seq (.reg [qq 6 (.mv (.t 0)), qq 7 (.call 58 [(.t 6)]), qq 8 (.call 59 []), qq 9 (.call 57 [(.t 7), (.t 8)]), qq 5 (.mv (.t 9)), qq 10 (.ext (.t 5) 0), qq 11 (.ext (.t 5) 1), qq 3 (.alloc 35 3 [(.bool false), e0, e0]), qn (.store 3 (.t 3) (.t 10)), qq 4 (.mv (.t 11))]) (.seq (.reg [qq 12 (.load true 3 (.t 3)), qn (.store 3 (.t 2) (.t 12))]) .ret)))
theorem tr41 : trFun Tryz.prog 41 = some ⟨13, [.cell 2 true 3], c41⟩ := by kernel_rfl
theorem ok_r3From : SpecOK Tryz.prog 41 (flat spR3From) := by
  refine flat_run (env_cons ok_r2From (env_cons ok_r3one (env_cons ok_r3Make (env_nil _)))) mixed tr41 ?_
  intro args v h N hG
  unfold spR3From at hG
  split at hG
  case h_2 => cases hG
  rename_i x
  split at hG
  case isFalse => cases hG
  rename_i hl
  obtain ⟨h1, h2⟩ := hl
  cases hG
  refine ⟨rfl, by simp, ?_⟩
  have g : -9223372036854775808 ≤ x ∧ x ≤ 9223372036854775807 := ⟨by omega, by omega⟩
  have o1 : sv false (bl (Int.natAbs 1)) = 1 := by rw [sv_false, nl_bl]; rfl
  have o2 : (bl (Int.natAbs 1)).length ≤ 68719476736 := Nat.le_trans (bl_length_le (k := 1).2 (by decide)) (by omega)
  have o3 : ¬ (Int.natAbs 1 = 0) := by decide
  have o4 : (bl x.natAbs).length ≤ 68719476736 := Nat.le_trans (bl_length_le (k := 2).2 (by omega)) (by omega)
  rw [← divInt_one]
  simp only [c41, G0, Nat.reduceAdd]
  simp only [↓R0, R1, simprocAttr, -Int.reduceAbs, spI2From, spOne, spR3Make, g, o1, o2, o3, o4, sv_can, nl_bl, Fin, isEnd, resL, res1, iE, rE]
  exact ⟨_, rfl, rfl, fun k hk => by simp only [ne_nb hk, if_false]⟩
theorem div3 {x y : Rat} {i j : Nat} (hx : RB x i) (hy : RB y j) (hi : i ≤ 8589934592) (hj : j ≤ 8589934592) (h0 : y ≠ 0) : spR3Div [.agg ⟨(RQ.of x).cells⟩, .agg ⟨(RQ.of y).cells⟩] = some (.tuple ⟨[.agg ⟨(RQ.of (x / y)).cells⟩, .bool true]⟩) := by
  have nz : ¬ nl (RQ.of y).n = 0 := by
    show ¬ nl (bl y.num.natAbs) = 0
    rw [nl_bl]
    intro e
    exact h0 (Rat.num_eq_zero.1 (by omega))
  have h : spR3Div [.agg ⟨(RQ.of x).cells⟩, .agg ⟨(RQ.of y).cells⟩] = _ := if_pos ⟨hx.num hi, hx.den hi, hy.num hj, hy.den hj⟩
  rw [h, if_neg nz]
  show some (Value.tuple ⟨[.agg ⟨rE ((RQ.of x).v / (RQ.of y).v)⟩, .bool true]⟩) = _
  rw [RQ.of_v, RQ.of_v]; rfl
theorem cleanR_congr {n : Nat} : ∀ {out out' : List Row}, out.length = out'.length → (∀ p, p < out.length → ∀ j, j ≤ n → rowAt out p j = rowAt out' p j) → ∀ {r r' : Row}, (∀ j, j ≤ n → r j = r' j) → ∀ j, j ≤ n → cleanR n out r j = cleanR n out' r' j
  | [], [], _, _, r, r', hr, j, hj => hr j hj
  | [], _ :: _, hl, _, _, _, _, _, _ => by simp at hl
  | _ :: _, [], hl, _, _, _, _, _, _ => by simp at hl
  | o :: out, o' :: out', hl, ho, r, r', hr, j, hj => by
    have h0 : ∀ j, j ≤ n → o j = o' j := ho 0 (by simp)
    have le : leadN n o = leadN n o' := lead_congr fun j hj => h0 j (by omega)
    show cleanR n out (clean1 n r o) j = cleanR n out' (clean1 n r' o') j
    refine cleanR_congr (by simpa using hl) (fun p hp => ho (p + 1) (by simpa using hp)) (fun i hi => ?_) j hj
    unfold clean1
    rw [hr i hi, h0 i hi, ← le, hr _ (leadN_le n o)]
theorem piv_len {n : Nat} {out : List Row} (H : PInv n out) : out.length ≤ n :=
  inj_le out.length n (fun p => leadN n (rowAt out p)) H.lt fun p q hp hq e => Classical.byContradiction fun c => by
    have a := H.col p q hp hq (fun x => c x.symm)
    have b := H.one q hq
    have e' : leadN n (rowAt out p) = leadN n (rowAt out q) := e
    rw [e', b] at a
    exact absurd a (by decide)
theorem PInv.congr {n : Nat} {out out' : List Row} (H : PInv n out) (hl : out'.length = out.length) (h : ∀ p, p < out.length → ∀ j, j ≤ n → rowAt out' p j = rowAt out p j) : PInv n out' := by
  have le : ∀ p, p < out.length → leadN n (rowAt out' p) = leadN n (rowAt out p) := fun p hp => lead_congr fun j hj => h p hp j (by omega)
  refine ⟨fun p hp => by rw [le p (by omega)]; exact H.lt p (by omega), fun p hp => ?_, fun p q hp hq hqp => ?_⟩
  · rw [le p (by omega), h p (by omega) _ (leadN_le n _)]; exact H.one p (by omega)
  · rw [le p (by omega), h q (by omega) _ (leadN_le n _)]; exact H.col p q (by omega) (by omega) hqp
def rB (p : Nat) : Nat := 6 + p * (6 + oB p + 1)
theorem oB_s (p : Nat) : oB (p + 1) = 2 * oB p + 2 * rB p + 2 := by
  show 2 * oB p + 2 * (6 + p * (7 + oB p)) + 2 = _
  unfold rB
  rw [show 6 + oB p + 1 = 7 + oB p by omega]
theorem rB_le {p : Nat} (h : p ≤ 8) : rB p ≤ 953006270 := by
  have := oB_le p h
  have : p * (6 + oB p + 1) ≤ 8 * (6 + 119125776 + 1) := Nat.mul_le_mul h (by omega)
  unfold rB; omega
def RdB (n : Nat) (out : List Row) : Prop := ∀ p, p < out.length → ∀ j, j ≤ n → RB (rowAt out p j) (oB out.length)
theorem step_RB {n : Nat} {s : List Row × Bool} (H : PInv n s.1) (hB : RdB n s.1) {row : Row} (hr : ∀ j, j ≤ n → RB (row j) 6) : RdB n (refStep n s row).1 := by
  unfold refStep
  simp only
  split
  · exact hB
  · rename_i hk
    have hkn : leadN n (cleanR n s.1 row) < n := by have := leadN_le n (cleanR n s.1 row); omega
    have nz := leadN_ne hkn
    have cB := clean_RB H hr hB s.1.length (Nat.le_refl _)
    rw [List.take_length] at cB
    have cB : ∀ j, j ≤ n → RB (cleanR n s.1 row j) (rB s.1.length) := cB
    generalize cleanR n s.1 row = r at *
    have R1 : ∀ j, j ≤ n → RB (r j * (1 / r (leadN n r))) (2 * rB s.1.length + 1) := fun j hj =>
      (cB j hj).mul (RB.one.div (cB _ (by omega)) (by unfold rB; omega) (k := 1 + rB s.1.length) (Nat.le_refl _)) (by omega)
    have ln : (s.1.map (fun o j => o j - r j * (1 / r (leadN n r)) * o (leadN n r)) ++ [fun j => r j * (1 / r (leadN n r))]).length = s.1.length + 1 := by simp
    intro p hp j hj
    rw [ln] at hp ⊢
    rw [oB_s]
    by_cases e : p = s.1.length
    · rw [e, rowAt_last (f := fun o j => o j - r j * (1 / r (leadN n r)) * o (leadN n r))]
      exact (R1 j hj).le (by omega)
    · rw [rowAt_map (f := fun o j => o j - r j * (1 / r (leadN n r)) * o (leadN n r)) (by omega)]
      exact (hB p (by omega) j hj).sub ((R1 j hj).mul (hB p (by omega) _ (by omega)) (Nat.le_refl _)) (by omega)
def PV (k n : Nat) (f : Row) : List Value := .slice (some ⟨k, 0, none⟩) n n :: (canE n f).tl
theorem PV_len (k n : Nat) (f : Row) : (PV k n f).length = 5 := rfl
theorem PV_ok (k n : Nat) (f : Row) : (PV k n f).all okCell = true := rfl
theorem PV_tk (k n : Nat) (f : Row) : (PV k n f).take 5 = PV k n f := rfl
theorem PV_0 (k n : Nat) (f : Row) : (PV k n f)[0]? = some (.slice (some ⟨k, 0, none⟩) n n) := rfl
theorem PV_1 (k n : Nat) (f : Row) : ((PV k n f).drop 1).take 3 = (RQ.of (f n)).cells := rfl
theorem PV_z (k n : Nat) (f : Row) : setR [.slice none 0 0, .bool false, .string ⟨⟨[]⟩⟩, .string ⟨⟨[]⟩⟩, .int .i64 0] 0 (PV k n f) = PV k n f := rfl
theorem PV_s (k n k' : Nat) (f g : Row) : setR (PV k n f) 0 (PV k' n g) = PV k' n g := rfl
theorem PV_congr {k n : Nat} {f g : Row} (h : ∀ j, j ≤ n → f j = g j) : PV k n f = PV k n g := by unfold PV; rw [canE_congr h]
def pvF (ρ : Nat → Nat) (n : Nat) (Rw : Nat → Row) (j : Nat) : List Value := PV (ρ j) n (Rw j)
structure EqH (hp : Heap) (lo hi kO n p : Nat) (ρ : Nat → Nat) (Rw : Nat → Row) : Prop where
  hd : ∃ x, hget hp kO = some ⟨37, 5, x, blkC (pvF ρ n Rw) p⟩
  row : ∀ j, j < p → ∃ y, hget hp (ρ j) = some ⟨35, 3, y, rqs (fq (Rw j) n)⟩
  inj : ∀ i j, i < p → j < p → ρ i = ρ j → i = j
  ne : ∀ j, j < p → ρ j ≠ kO
  bd : ∀ j, j < p → lo ≤ ρ j ∧ ρ j < hi
  kb : lo ≤ kO ∧ kO < hi
theorem EqH.mono {hp hp' : Heap} {lo hi hi' kO n p : Nat} {ρ : Nat → Nat} {Rw : Nat → Row} (H : EqH hp lo hi kO n p ρ Rw) (hh : hi ≤ hi') (he : ∀ q, lo ≤ q → q < hi → hget hp' q = hget hp q) : EqH hp' lo hi' kO n p ρ Rw where
  hd := by obtain ⟨x, h⟩ := H.hd; exact ⟨x, by rw [he kO H.kb.1 H.kb.2]; exact h⟩
  row := fun j hj => by obtain ⟨y, h⟩ := H.row j hj; exact ⟨y, by rw [he _ (H.bd j hj).1 (H.bd j hj).2]; exact h⟩
  inj := H.inj
  ne := H.ne
  bd := fun j hj => by have := H.bd j hj; omega
  kb := by have := H.kb; omega
theorem EqH.congr {hp : Heap} {lo hi kO n p : Nat} {ρ : Nat → Nat} {Rw Rw' : Nat → Row} (H : EqH hp lo hi kO n p ρ Rw) (h : ∀ j, j < p → ∀ i, i ≤ n → Rw' j i = Rw j i) : EqH hp lo hi kO n p ρ Rw' where
  hd := by
    obtain ⟨x, e⟩ := H.hd
    refine ⟨x, ?_⟩
    rw [e, blkC_congr (f := pvF ρ n Rw) (g := pvF ρ n Rw') fun j hj => PV_congr fun i hi => (h j hj i hi).symm]
  row := fun j hj => by obtain ⟨y, e⟩ := H.row j hj; exact ⟨y, by rw [e, fq_congr fun i hi => (h j hj i (by omega)).symm]⟩
  inj := H.inj
  ne := H.ne
  bd := H.bd
  kb := H.kb
def updW (Rw : Nat → Row) (i : Nat) (f : Row) : Nat → Row := fun q => if q = i then f else Rw q
theorem updW_eq (Rw : Nat → Row) (i : Nat) (f : Row) : updW Rw i f i = f := if_pos rfl
theorem updW_ne {Rw : Nat → Row} {i j : Nat} {f : Row} (h : j ≠ i) : updW Rw i f j = Rw j := if_neg h
theorem EqH.upd {hp hp' : Heap} {lo hi hi' kO n p i kN : Nat} {ρ : Nat → Nat} {Rw : Nat → Row} {f : Row} (H : EqH hp lo hi kO n p ρ Rw) (hi1 : i < p) (hh : hi ≤ kN) (hk : kN < hi') {x y : Bool}
    (h1 : hget hp' kO = some ⟨37, 5, x, setR (blkC (pvF ρ n Rw) p) (i * 5) (PV kN n f)⟩) (h2 : hget hp' kN = some ⟨35, 3, y, rqs (fq f n)⟩) (he : ∀ q, lo ≤ q → q < hi → q ≠ kO → hget hp' q = hget hp q) :
    EqH hp' lo hi' kO n p (updN ρ i kN) (updW Rw i f) where
  hd := by
    refine ⟨x, ?_⟩
    rw [h1]
    have := blkC_set (f := pvF ρ n Rw) (w := 5) (o := 0) (xs := PV kN n f) (n := p) (j := i) (by rw [PV_len]; omega) (fun _ _ => rfl) hi1
    rw [Nat.add_zero] at this
    rw [this]
    refine congrArg (fun c => some (⟨37, 5, x, c⟩ : Blk)) (blkC_congr fun q hq => ?_)
    unfold pvF
    by_cases e : q = i
    · rw [e, if_pos rfl, updW_eq, updN_eq]; rfl
    · rw [if_neg e, updW_ne e, updN_ne e]
  row := fun j hj => by
    by_cases e : j = i
    · rw [e, updW_eq, updN_eq]; exact ⟨y, h2⟩
    · rw [updW_ne e, updN_ne e]
      obtain ⟨z, h⟩ := H.row j hj
      exact ⟨z, by rw [he _ (H.bd j hj).1 (H.bd j hj).2 (H.ne j hj)]; exact h⟩
  inj := fun a b ha hb e => by
    by_cases ea : a = i
    · by_cases eb : b = i
      · rw [ea, eb]
      · rw [ea, updN_eq, updN_ne eb] at e
        have := (H.bd b hb).2; omega
    · by_cases eb : b = i
      · rw [eb, updN_eq, updN_ne ea] at e
        have := (H.bd a ha).2; omega
      · rw [updN_ne ea, updN_ne eb] at e; exact H.inj a b ha hb e
  ne := fun j hj => by
    by_cases e : j = i
    · rw [e, updN_eq]; have := H.kb; omega
    · rw [updN_ne e]; exact H.ne j hj
  bd := fun j hj => by
    by_cases e : j = i
    · rw [e, updN_eq]; have := H.kb; omega
    · rw [updN_ne e]; have := H.bd j hj; omega
  kb := by have := H.kb; omega
def canL (n p : Nat) (Rw : Nat → Row) : List EqR := (List.range p).map fun j => canE n (Rw j)
theorem canL_len (n p : Nat) (Rw : Nat → Row) : (canL n p Rw).length = p := by unfold canL; rw [List.length_map, List.length_range]
theorem canL_at {n p j : Nat} {Rw : Nat → Row} (h : j < p) : eqAt (canL n p Rw) j = canE n (Rw j) := by
  unfold eqAt canL
  rw [List.getElem?_map, List.getElem?_range h]; rfl
theorem EqH.rows {hp : Heap} {lo hi kO n p : Nat} {ρ : Nat → Nat} {Rw : Nat → Row} (H : EqH hp lo hi kO n p ρ Rw) (h0 : 0 < p → 0 < n) : decRows hp (.slice (some ⟨kO, 0, none⟩) p p) = some (canL n p Rw) := by
  obtain ⟨x, hb⟩ := H.hd
  refine rows_blk hb (canL_len _ _ _) fun i hi => ?_
  obtain ⟨y, hr⟩ := H.row i hi
  rw [canL_at hi]
  exact ⟨_, rfl, rqs_list hr (fq_len _ _) (h0 (by omega))⟩
def redNL (n : Nat) (s : List Row × Bool) : NewL :=
  ⟨1 + s.1.length, fun σ => .tuple ⟨[.slice (some ⟨σ 0, 0, none⟩) s.1.length s.1.length, .bool s.2]⟩,
   fun i => if i = 0 then 37 else 35, fun i => if i = 0 then 5 else 3,
   fun σ i => if i = 0 then blkC (pvF (fun j => σ (j + 1)) n (rowAt s.1)) s.1.length else rqs (fq (rowAt s.1 (i - 1)) n)⟩
theorem redNL_par (n : Nat) (s : List Row × Bool) (h : Heap) : (redNL n s).Par h := by
  refine ⟨fun β σ σ' b1 _ => .tup _ _ (.cons _ _ _ _ (VR.sl (σ 0) 0 _ _ ⟨σ' 0, 0, []⟩ (b1 0 (by show 0 < 1 + _; omega))) (.cons _ _ _ _ (.base _ rfl) .nil)), fun β σ σ' b1 _ i hi => ?_⟩
  show VRs β (if i = 0 then _ else _) (if i = 0 then _ else _)
  split
  · have key : ∀ p, p ≤ s.1.length → VRs β (blkC (pvF (fun j => σ (j + 1)) n (rowAt s.1)) p) (blkC (pvF (fun j => σ' (j + 1)) n (rowAt s.1)) p) := by
      intro p
      induction p with
      | zero => intro _; exact .nil
      | succ p ih =>
        intro hp
        exact VRs.append (ih (by omega)) (.cons _ _ _ _ (VR.sl (σ (p + 1)) 0 _ _ ⟨σ' (p + 1), 0, []⟩ (b1 (p + 1) (by show p + 1 < 1 + _; omega))) (VRs.of_base rfl))
    exact key _ (Nat.le_refl _)
  · exact VRs.of_base (rqs_base _)
def RedOK (n : Nat) (l : List EqR) : Prop := n ≤ 8 ∧ l.length ≤ 100 ∧ (∀ e ∈ l, e.coef.length = n) ∧ ∀ e ∈ l, eqOk e 4
instance {n : Nat} {l : List EqR} : Decidable (RedOK n l) := by unfold RedOK; infer_instance
def spReduced : List Value → Heap → Option NewL
  | [.int .i64 n, sl], h => match decRows h sl with
    | some l => if 0 ≤ n ∧ RedOK n.toNat l then some (redNL n.toNat (refRed n.toNat (outR n.toNat l))) else none
    | none => none
  | _, _ => none
theorem red_take {n : Nat} {rows : List Row} {t : Nat} (ht : t < rows.length) : refRed n (rows.take (t + 1)) = refStep n (refRed n (rows.take t)) (rowAt rows t) := by
  have e : rows.take (t + 1) = rows.take t ++ [rowAt rows t] := by rw [List.take_add_one, rowAt_some ht]; rfl
  rw [e]
  unfold refRed
  rw [List.foldl_append]; rfl
theorem red_piv (n : Nat) (rows : List Row) : PInv n (refRed n rows).1 :=
  (foldl_ref (n := n) (X := fun _ => 0) rows ([], true) ⟨fun p hp => absurd hp (Nat.not_lt_zero p), fun p hp => absurd hp (Nat.not_lt_zero p), fun p q hp => absurd hp (Nat.not_lt_zero p)⟩).1
end Go.Eng
end
section
set_option linter.unusedVariables false
set_option linter.unusedSimpArgs false
set_option linter.unusedSectionVars false
set_option maxRecDepth 20000
namespace Go.Eng
open Go Go.Proofs Go.IntWalk
theorem clean_of {h : Heap} {cs : List Value} {sv : Value} {e : EqR} {l : List EqR} {n : Nat} (hx : decEq h cs = some e) (hy : decRows h sv = some l) (hn : e.coef.length = n) (hl : l ≠ []) (hs : ClOK n e l) : spClean24 [.agg ⟨cs⟩, sv] h = some (eqNL n (cleanR n (outR n l) (rowE n e))) := by
  unfold spClean24
  simp only [hx, hy]
  rw [if_neg hl, hn]
  exact if_pos hs
theorem clean_nil {h : Heap} {cs : List Value} {sv : Value} {e : EqR} (hx : decEq h cs = some e) (hy : decRows h sv = some []) (ho : okAddr h cs) : spClean24 [.agg ⟨cs⟩, sv] h = some ⟨0, fun _ => .agg ⟨cs⟩, fun _ => 0, fun _ => 0, fun _ _ => []⟩ := by
  unfold spClean24
  simp only [hx, hy]
  rw [if_pos trivial]
  exact if_pos ho
theorem from3 {x : Int} (h : -1000 ≤ x ∧ x ≤ 1000) : spR3From [.int .i64 x] = some (.agg ⟨rE (x : Rat)⟩) := if_pos h
theorem pv_dec {h : Heap} {k n : Nat} {f : Row} (hb : ∃ e s x, hget h k = some ⟨e, s, x, rqs (fq f n)⟩) (h0 : 0 < n) : decEq h (PV k n f) = some (canE n f) := by
  obtain ⟨_, _, _, hb⟩ := hb
  exact can_dec hb h0
theorem fq_get {f : Row} {n j : Nat} (h : j < n) : (fq f n)[j]? = some (RQ.of (f j)) := by unfold fq; rw [List.getElem?_map, List.getElem?_range h]; rfl
theorem times_can {h : Heap} {k n : Nat} {f : Row} {x : Rat} (hb : ∃ e s y, hget h k = some ⟨e, s, y, rqs (fq f n)⟩) (n0 : 0 < n) (n8 : n ≤ 100) (hf : ∀ j, j ≤ n → RB (f j) 8589934592) (hx : RB x 8589934592) :
    spTimes [.agg ⟨PV k n f⟩, .agg ⟨(RQ.of x).cells⟩] h = some (eqNL n fun j => f j * x) := by
  rw [show spTimes [.agg ⟨PV k n f⟩, .agg ⟨(RQ.of x).cells⟩] h = _ from times_of (pv_dec hb n0) (fq_len _ _) n8 (canE_ok hf) (RQ.of_ok hx)]
  refine congrArg some (eqNL_congr fun j hj => ?_)
  unfold timesF
  have : (canE n f).coef.length = n := fq_len _ _
  rw [this, rowE_can hj, RQ.of_v]
theorem less_can {h : Heap} {k k' n : Nat} {f g : Row} (hb : ∃ e s y, hget h k = some ⟨e, s, y, rqs (fq f n)⟩) (hb' : ∃ e s y, hget h k' = some ⟨e, s, y, rqs (fq g n)⟩) (n0 : 0 < n) (n8 : n ≤ 100) (hf : ∀ j, j ≤ n → RB (f j) 8589934591) (hg : ∀ j, j ≤ n → RB (g j) 8589934591) :
    spLess24 [.agg ⟨PV k n f⟩, .agg ⟨PV k' n g⟩] h = some (eqNL n fun j => f j - g j) := by
  rw [show spLess24 [.agg ⟨PV k n f⟩, .agg ⟨PV k' n g⟩] h = _ from less_of (pv_dec hb n0) (pv_dec hb' n0) (fq_len _ _) (fq_len _ _) n8 (canE_ok hf) (canE_ok hg)]
  refine congrArg some (eqNL_congr fun j hj => ?_)
  unfold lessF
  have : (canE n f).coef.length = n := fq_len _ _
  rw [this, rowE_can hj, rowE_can hj]
theorem EqH.push2 {hp hp' : Heap} {lo hi hi' kO n p kN kr : Nat} {ρ : Nat → Nat} {Rw Rw' : Nat → Row} {f : Row} (H : EqH hp lo hi kO n p ρ Rw) (hk : hi ≤ kN) (hk' : kN < hi') (hl : lo ≤ kr) (hr' : kr < hi) (hne : ∀ j, j < p → ρ j ≠ kr) (hkO : kr ≠ kO) {x : Bool}
    (h1 : hget hp' kN = some ⟨37, 5, x, blkC (pvF ρ n Rw) p ++ PV kr n f⟩) (h2 : ∃ y, hget hp kr = some ⟨35, 3, y, rqs (fq f n)⟩) (he : ∀ q, lo ≤ q → q < hi → q ≠ kO → hget hp' q = hget hp q)
    (hw : ∀ j, j < p → ∀ i, i ≤ n → Rw' j i = Rw j i) (hw' : ∀ i, i ≤ n → Rw' p i = f i) : EqH hp' lo hi' kN n (p + 1) (updN ρ p kr) Rw' where
  hd := by
    refine ⟨x, ?_⟩
    rw [h1]
    refine congrArg (fun c => some (⟨37, 5, x, c⟩ : Blk)) ?_
    rw [blkC]
    congr 1
    · exact blkC_congr fun q hq => by unfold pvF; rw [updN_ne (by omega)]; exact PV_congr fun i hi => (hw q hq i hi).symm
    · unfold pvF; rw [updN_eq]; exact PV_congr fun i hi => (hw' i hi).symm
  row := fun j hj => by
    by_cases e : j = p
    · obtain ⟨y, h2⟩ := h2
      rw [e, updN_eq, he _ hl hr' hkO]
      exact ⟨y, by rw [h2, fq_congr fun i hi => (hw' i (by omega)).symm]⟩
    · rw [updN_ne e]
      obtain ⟨z, h⟩ := H.row j (by omega)
      exact ⟨z, by rw [he _ (H.bd j (by omega)).1 (H.bd j (by omega)).2 (H.ne j (by omega)), h, fq_congr fun i hi => (hw j (by omega) i (by omega)).symm]⟩
  inj := fun a b ha hb e => by
    by_cases ea : a = p
    · by_cases eb : b = p
      · rw [ea, eb]
      · rw [ea, updN_eq, updN_ne eb] at e
        exact absurd e.symm (hne b (by omega))
    · by_cases eb : b = p
      · rw [eb, updN_eq, updN_ne ea] at e
        exact absurd e (hne a (by omega))
      · rw [updN_ne ea, updN_ne eb] at e; exact H.inj a b (by omega) (by omega) e
  ne := fun j hj => by
    by_cases e : j = p
    · rw [e, updN_eq]; omega
    · rw [updN_ne e]; have := (H.bd j (by omega)).2; omega
  bd := fun j hj => by
    by_cases e : j = p
    · rw [e, updN_eq]; omega
    · rw [updN_ne e]; have := H.bd j (by omega); omega
  kb := by have := H.kb; omega
def c19 : ICode :=
  (.seq (.reg [qq 4 (.mv (.c (.slice none 0 0))), qq 5 (.mv (.c (.bool false)))]) (.seq (.reg [qq 14 (.bslice 37 5 0 [] []), qq 6 (.mv (.t 14))]) (.seq (.reg [qq 7 (.mv (.c (.bool true)))]) (.seq (.seq (.reg [qq 8 (.mv (ci 0))]) (.block 0 (.loop (.seq (.seq (.reg [qq 15 (.mv (.t 8)), qq 16 (.mv (.t 1)), qq 17 (.lensl (.t 16)), qq 18 (.bin .lss (.t 15) (.t 17))]) (.cond (.t 18) .skip (.exit 0))) (.seq (.block 1 (.seq (.dreg [qu 21 (.mv (.t 1)), qu 22 (.mv (.t 8)), qu 23 (.ixsl 5 (.t 21) (.t 22)), qu 24 (.load true 5 (.t 23)), qu 25 (.call 41 [(ci 1)]), qu 26 (.call 40 [(.t 24), (.t 25)]), qu 27 (.mv (.t 6)), qu 28 (.call 39 [(.t 26), (.t 27)]), qu 9 (.alloc 37 5 [(.slice none 0 0), (.bool false), e0, e0, (.int .i64 0)]), qm (.store 5 (.t 9) (.t 28))]) (.seq (.reg [qq 29 (.faddr 0 (.t 9)), qq 30 (.load false 1 (.t 29)), qq 31 (.call 42 [(.t 30)]), qq 10 (.mv (.t 31))]) (.seq (.seq (.reg [qq 32 (.mv (.t 10)), qq 33 (.mv (.t 0)), qq 34 (.bin .eql (.t 32) (.t 33))]) (.cond (.t 34) (.seq (.reg [qq 35 (.mv (.t 7)), qq 36 (.mv (.t 35)), ⟨(some 37), (some (36, true)), (.faddr 1 (.t 9))⟩, ⟨(some 38), (some (36, true)), (.load true 3 (.t 37))⟩, ⟨(some 39), (some (36, true)), (.call 43 [(.t 38)])⟩, ⟨(some 40), (some (36, true)), (.bin .eql (.t 39) (ci 0))⟩, qq 41 (.pick (.t 36) (.t 40) (.c (.bool false))), qq 7 (.mv (.t 41))]) (.exit 1)) .skip)) (.seq (.dreg [qu 43 (.call 41 [(ci 1)]), qu 44 (.faddr 0 (.t 9)), qv 45 [0] (.load false 1 (.t 44)), qu 46 (.mv (.t 10)), qu 47 (.ixsl 3 (.t 45) (.t 46)), qv 48 [0] (.load true 3 (.t 47)), qu 49 (.call 44 [(.t 43), (.t 48)]), qu 42 (.mv (.t 49)), qu 50 (.ext (.t 42) 0), qu 51 (.ext (.t 42) 1), qu 11 (.alloc 35 3 [(.bool false), e0, e0]), qm (.store 3 (.t 11) (.t 50)), qu 12 (.mv (.t 51))]) (.seq (.reg [qq 52 (.load true 5 (.t 9)), qq 53 (.load true 3 (.t 11)), qq 54 (.call 40 [(.t 52), (.t 53)]), qn (.store 5 (.t 9) (.t 54))]) (.seq (.seq (.reg [qq 13 (.mv (ci 0))]) (.block 2 (.loop (.seq (.seq (.reg [qq 55 (.mv (.t 13)), qq 56 (.mv (.t 6)), qq 57 (.lensl (.t 56)), qq 58 (.bin .lss (.t 55) (.t 57))]) (.cond (.t 58) .skip (.exit 2))) (.seq (.block 3 (.dreg [qu 61 (.mv (.t 6)), qu 62 (.mv (.t 13)), qu 63 (.mv (.t 6)), qu 64 (.mv (.t 13)), qu 65 (.ixsl 5 (.t 63) (.t 64)), qu 66 (.load true 5 (.t 65)), qu 67 (.load true 5 (.t 9)), qu 68 (.mv (.t 6)), qu 69 (.mv (.t 13)), qu 70 (.ixsl 5 (.t 68) (.t 69)), qu 71 (.faddr 0 (.t 70)), qu 72 (.load false 1 (.t 71)), qu 73 (.mv (.t 10)), qu 74 (.ixsl 3 (.t 72) (.t 73)), qu 75 (.load true 3 (.t 74)), qu 76 (.call 40 [(.t 67), (.t 75)]), qu 77 (.call 45 [(.t 66), (.t 76)]), qu 78 (.ixsl 5 (.t 61) (.t 62)), qm (.store 5 (.t 78) (.t 77))])) (.reg [qq 59 (.mv (.t 13)), qq 60 (.bin .add (.t 59) (ci 1)), qq 13 (.mv (.t 60))])))))) (.reg [qq 79 (.mv (.t 6)), qq 80 (.load true 5 (.t 9)), qq 81 (.bslice 37 5 1 [(.slice none 0 0), (.bool false), e0, e0, (.int .i64 0)] [(0, 5, (.t 80))]), qq 82 (.app 37 5 72 (.t 79) (.t 81)), qq 6 (.mv (.t 82))])))))))) (.reg [qq 19 (.mv (.t 8)), qq 20 (.bin .add (.t 19) (ci 1)), qq 8 (.mv (.t 20))])))))) (.seq (.reg [qq 83 (.mv (.t 6)), qq 84 (.mv (.t 7)), qq 4 (.mv (.t 83)), qq 5 (.mv (.t 84))]) .ret)))))
theorem tr19 : trFun Tryz.prog 19 = some ⟨85, [.t 4, .t 5], c19⟩ := by kernel_rfl
set_option maxHeartbeats 64000000 in
theorem ok_reduced24 : SpecOK Tryz.prog 19 (nwL spReduced) := by
  refine newL_run (env_cons ok_r3From (env_cons ok_times24 (env_cons ok_clean24 (env_cons ok_lead24 (env_cons ok_r3Sign (env_cons ok_r3Div (env_cons ok_less24 (env_nil _)))))))) mixed tr19 ?_ ?_
  · intro args h h' r hle e
    unfold spReduced at e ⊢
    split at e
    · split at e
      · rename_i x hb
        simp only [decRows_mono hle hb]; exact e
      · cases e
    · cases e
  intro args h N r hG hN
  unfold spReduced at hG
  split at hG
  case h_2 => cases hG
  rename_i nz sl
  split at hG
  case h_2 => cases hG
  rename_i l hx
  split at hG
  case isFalse => cases hG
  rename_i hs
  obtain ⟨n0, hs⟩ := hs
  obtain ⟨n, rfl⟩ := Int.eq_ofNat_of_zero_le n0
  rw [Int.toNat_natCast] at *
  cases hG
  obtain ⟨n8, m100, hlen, hok⟩ := hs
  obtain ⟨b, dd, rfl⟩ := listAt_sl (dec := decEq h) hx
  refine ⟨redNL_par _ _ _, by simp, ?_⟩
  obtain ⟨rows, hrows⟩ : ∃ rows, rows = outR n l := ⟨_, rfl⟩
  have rlen : rows.length = l.length := by rw [hrows, outR_len]
  have rat : ∀ i, i < l.length → rowAt rows i = rowE n (eqAt l i) := fun i hi => by rw [hrows, outR_at hi]
  rw [← hrows]
  have hfin : refRed n rows = refRed n (rows.take l.length) := by rw [← rlen, List.take_length]
  rw [hfin]
  have z0 : refRed n (rows.take 0) = ([], true) := by rw [List.take_zero]; rfl
  have stp := fun (t : Nat) (ht : t < l.length) => red_take (n := n) (rows := rows) (t := t) (by omega)
  have piv := fun t => red_piv n (rows.take t)
  have hB : ∀ t, t ≤ l.length → RdB n (refRed n (rows.take t)).1 := by
    intro t
    induction t with
    | zero => intro _; rw [z0]; exact fun p hp => absurd hp (Nat.not_lt_zero p)
    | succ t ih =>
      intro ht
      rw [stp t (by omega)]
      refine step_RB (piv t) (ih (by omega)) fun j hj => ?_
      rw [rat t (by omega)]
      have he := hok _ (eqAt_mem (l := l) (i := t) (by omega))
      have hl := hlen _ (eqAt_mem (l := l) (i := t) (by omega))
      by_cases c : j < n
      · rw [rowE_lt c]
        exact (RQ.ok.rb (k := 4) (he.1 _ (rqAt_mem (by omega)))).le (by omega)
      · have : j = n := by omega
        rw [this, rowE_n]
        exact (RQ.ok.rb (k := 4) he.2).le (by omega)
  generalize hS : (fun t => refRed n (rows.take t)) = S at *
  have hSt : ∀ t, refRed n (rows.take t) = S t := fun t => by rw [← hS]
  simp only [hSt] at z0 stp piv hB ⊢
  clear hSt
  have dn : ∀ a b : Int, decide (a ≠ b) = !decide (a = b) := fun a b => by by_cases h : a = b <;> simp [h]
  have fr : spR3From [.int .i64 1] = some (.agg ⟨(RQ.of 1).cells⟩) := from3 (x := 1) (by omega)
  have gN : (N + 0 = N) = True := eq_true rfl
  simp only [c19, G0, Nat.reduceAdd]
  simp only [↓R0, R1, simprocAttr, -Int.reduceAbs]
  refine lp_parts (fun c' tm hp nx => ∃ (i M kO : Nat) (ρ : Nat → Nat), c' + i = l.length ∧ tmget tm 0 = .int .i64 n ∧ tmget tm 1 = .slice b l.length dd ∧ tmget tm 6 = .slice (some ⟨kO, 0, none⟩) (S i).1.length (S i).1.length ∧ tmget tm 7 = .bool (S i).2 ∧ tmget tm 8 = .int .i64 i ∧
      EqH hp N M kO n (S i).1.length ρ (rowAt (S i).1) ∧ ExtL N h hp ∧ N + 1 ≤ M ∧ nx = M + 0) ?_ l.length
    ⟨0, N + 1, N, fun _ => 0, by omega, ?_, ?_, ?_, ?_, ?_, ⟨⟨true, ?_⟩, fun j hj => ?_, fun i j hi => ?_, fun j hj => ?_, fun j hj => ?_, by omega⟩, ?_, Nat.le_refl _, rfl⟩
  rotate_left
  all_goals first | (simp only [↓R0, R1, simprocAttr, -Int.reduceAbs]; done) | (simp only [↓R0, R1, simprocAttr, -Int.reduceAbs]; rfl) | (simp only [↓R0, R1, simprocAttr, -Int.reduceAbs, z0]; done) | (rw [z0]; rfl) | (rw [z0]; simp only [↓R0, R1, simprocAttr, -Int.reduceAbs, gN, blkC, List.length_nil]; done) | (rw [z0] at hj; exact absurd hj (Nat.not_lt_zero j)) | (rw [z0] at hi; exact absurd hi (Nat.not_lt_zero i)) | skip
  · intro q hq
    have nb : ∀ d, (N + d = q) = False := fun d => eq_false (by omega)
    simp only [↓R0, R1, simprocAttr, -Int.reduceAbs, nb]
  rintro c' tm hp nx ⟨i, M, kO, ρ, hci, t0, t1, t6, t7, t8, H, hh, hM, hnx⟩
  rw [hnx]
  clear hnx nx
  have nbq : ∀ q, q < N → ∀ d, (M + d = q) = False := fun q hq d => eq_false (by omega)
  by_cases c1 : i < l.length
  case neg =>
    have ei : i = l.length := by omega
    subst ei
    have c1' : ((l.length : Int) < (l.length : Int)) = False := eq_false (by omega)
    simp only [↓R0, R1, simprocAttr, -Int.reduceAbs, t0, t1, t6, t7, t8, c1', FinL, isEnd, resL, res1]
    obtain ⟨x, hd⟩ := H.hd
    refine ⟨fun j => if j = 0 then kO else ρ (j - 1), _, fun j hj => ?_, fun a c ha hc e => ?_, rfl, rfl, fun j hj => ?_, hh⟩
    · show N ≤ if j = 0 then kO else ρ (j - 1)
      split
      · exact H.kb.1
      · exact (H.bd _ (by change j < 1 + _ at hj; omega)).1
    · change a < 1 + _ at ha
      change c < 1 + _ at hc
      change (if a = 0 then kO else ρ (a - 1)) = (if c = 0 then kO else ρ (c - 1)) at e
      split at e <;> split at e
      · omega
      · exact absurd e.symm (H.ne _ (by omega))
      · exact absurd e (H.ne _ (by omega))
      · have := H.inj _ _ (by omega) (by omega) e; omega
    · change j < 1 + _ at hj
      by_cases j0 : j = 0
      · subst j0
        refine ⟨x, ?_⟩
        show hget hp kO = _
        rw [hd]; rfl
      · obtain ⟨y, hy⟩ := H.row (j - 1) (by omega)
        refine ⟨y, ?_⟩
        show hget hp (if j = 0 then kO else ρ (j - 1)) = some ⟨if j = 0 then 37 else 35, if j = 0 then 5 else 3, y, if j = 0 then _ else _⟩
        rw [if_neg j0, if_neg j0, if_neg j0, if_neg j0]
        exact hy
  have c1' : ((i : Int) < (l.length : Int)) = True := eq_true (by omega)
  have w1 : IntKind.i64.wrap ((i : Int) + 1) = ((i + 1 : Nat) : Int) := by rw [i64_in _ (by omega)]; omega
  obtain ⟨k, off, blk, a', n', c'', rfl, hb, q1, q2, hn', hl'⟩ := eq_at hx c1
  have hk := hN _ _ hb
  have hbb : hget hp k = some blk := by rw [hh k hk]; exact hb
  have nk := nbq k hk
  have hem := eqAt_mem c1
  have hln := hlen _ hem
  have hn'' : n' = n := hn'.trans hln
  rw [hn''] at hl' q2
  clear hn' hn''
  have heo := hok _ hem
  have heo' : eqOk (eqAt l i) 8589934592 := ⟨fun q hq => ⟨by have := (heo.1 q hq).1; omega, by have := (heo.1 q hq).2; omega⟩, by have := heo.2.1; omega, by have := heo.2.2; omega⟩
  have ok1 : (RQ.of 1).ok 8589934592 := (RQ.of_ok RB.one).le (by omega)
  have stp := stp i c1
  rw [rat i c1] at stp
  have piv := piv i
  have hB := hB i (by omega)
  obtain ⟨s, hs⟩ : ∃ s, s = S i := ⟨_, rfl⟩
  rw [← hs] at H t6 t7 stp piv hB
  obtain ⟨p, hp0⟩ : ∃ p, p = s.1.length := ⟨_, rfl⟩
  rw [← hp0] at H t6
  have ppn : p ≤ n := by rw [hp0]; exact piv_len piv
  obtain ⟨F0, hF0⟩ : ∃ F, F = timesF (eqAt l i) (RQ.of 1) := ⟨_, rfl⟩
  have F0v : ∀ j, F0 j = rowE n (eqAt l i) j := fun j => by
    rw [hF0]
    unfold timesF
    rw [hln, RQ.of_v, Rat.mul_one]
  obtain ⟨R, hR⟩ : ∃ R, R = cleanR n s.1 (rowE n (eqAt l i)) := ⟨_, rfl⟩
  unfold refStep at stp
  simp only [← hR] at stp
  have rB6 : ∀ j, j ≤ n → RB (rowE n (eqAt l i) j) 6 := fun j hj => by
    by_cases c : j < n
    · rw [rowE_lt c]
      exact (RQ.ok.rb (k := 4) (heo.1 _ (rqAt_mem (by omega)))).le (by omega)
    · have : j = n := by omega
      rw [this, rowE_n]
      exact (RQ.ok.rb (k := 4) heo.2).le (by omega)
  have cB := clean_RB piv rB6 hB s.1.length (Nat.le_refl _)
  rw [List.take_length, ← hR, ← hp0] at cB
  have cB : ∀ j, j ≤ n → RB (R j) (rB p) := cB
  have rBl := rB_le (p := p) (by omega)
  have oBl := oB_le p (by omega)
  have oBs := oB_s p
  have ti : ∀ {hp' : Heap}, ExtL N h hp' → spTimes [.agg ⟨Value.slice a' n c'' :: (eqAt l i).tl⟩, .agg ⟨(RQ.of 1).cells⟩] hp' = some (eqNL n F0) := fun he => by
    rw [times_of (decEq_of (ext_rats hN hl' he)) hln (by omega) heo' ok1, hF0]
  have e5l : (Value.slice a' n c'' :: (eqAt l i).tl).length = 5 := rfl
  have e5o : (Value.slice a' n c'' :: (eqAt l i).tl).all okCell = true := rfl
  generalize Value.slice a' n c'' :: (eqAt l i).tl = C5 at *
  have v0 : ∀ d, (M + d = kO) = False := fun d => eq_false (by have := H.kb; omega)
  have v1 : ∀ d, (kO = M + d) = False := fun d => eq_false (by have := H.kb; omega)
  have kOk : (kO = k) = False := eq_false (by have := H.kb; omega)
  have nwT : ∀ (args : List Value) (hp : Heap) (k : Nat), nwL spTimes args hp k = (spTimes args hp).map fun r => (r.val (k + ·), newH r (k + ·) r.m, r.m) := fun _ _ _ => rfl
  have nwS : ∀ (args : List Value) (hp : Heap) (k : Nat), nwL spLess24 args hp k = (spLess24 args hp).map fun r => (r.val (k + ·), newH r (k + ·) r.m, r.m) := fun _ _ _ => rfl
  have nwC : ∀ (args : List Value) (hp : Heap) (k : Nat), nwL spClean24 args hp k = (spClean24 args hp).map fun r => (r.val (k + ·), newH r (k + ·) r.m, r.m) := fun _ _ _ => rfl
  have xs := fun j b hp' => extL_ge (show N ≤ M by omega) j b h hp'
  have xh : ExtL N h hp = True := eq_true hh
  have o1l : (RQ.of 1).cells.length = 3 := rfl
  have o1o : (RQ.of 1).cells.all okCell = true := rfl
  have xm := fun j b => extL_cons M j b hp
  have xm0 : ExtL M hp hp = True := eq_true fun _ _ => rfl
  have qln : ∀ x : Rat, (RQ.of x).cells.length = 3 := fun _ => rfl
  have qok : ∀ x : Rat, (RQ.of x).cells.all okCell = true := fun _ => rfl
  have M00 : M + 0 + 0 = M + 0 := rfl
  have M10 : M + 1 + 0 = M + 1 := rfl
  have M20 : M + 2 + 0 = M + 2 := rfl
  have M30 : M + 3 + 0 = M + 3 := rfl
  have M40 : M + 4 + 0 = M + 4 := rfl
  have xO := fun (hp' : Heap) (he : ExtL M hp hp') => (H.mono (Nat.le_refl _) (fun q _ q2 => he q q2) : EqH hp' N M kO n p ρ (rowAt s.1))
  have sgR : spR3Sign [.agg ⟨(RQ.of (R n)).cells⟩] = some (.int .i64 (sv (RQ.of (R n)).s (RQ.of (R n)).n).sign) := sgn3 (RQ.of_ok ((cB n (Nat.le_refl _)).le (by omega)))
  have sgv : ((sv (RQ.of (R n)).s (RQ.of (R n)).n).sign = 0) = (R n = 0) := by rw [sg_v, RQ.of_v]
  by_cases nz : n = 0
  · have s0 : s.1 = [] := List.eq_nil_of_length_eq_zero (by omega)
    have eF : F0 = R := funext fun j => by rw [F0v, hR, s0]; rfl
    have cz : canL n p (rowAt s.1) = [] := by rw [show p = 0 by omega]; rfl
    have kk0 : leadN n R = n := by have := leadN_le n R; omega
    rw [kk0, if_pos rfl] at stp
    rw [eF] at ti
    obtain ⟨PZ, hPZ⟩ : ∃ x, x = Value.slice none 0 0 :: (canE n R).tl := ⟨_, rfl⟩
    have eqZ : eqNL n R = ⟨0, fun _ => .agg ⟨PZ⟩, fun _ => 0, fun _ => 0, fun _ _ => []⟩ := by
      unfold eqNL
      rw [if_pos nz, hPZ]
    rw [eqZ] at ti
    have zl : PZ.length = 5 := by rw [hPZ]; rfl
    have zo : PZ.all okCell = true := by rw [hPZ]; rfl
    have zt : PZ.take 5 = PZ := by rw [hPZ]; rfl
    have z00 : PZ[0]? = some (.slice none 0 0) := by rw [hPZ]; rfl
    have z11 : (PZ.drop 1).take 3 = (RQ.of (R n)).cells := by rw [hPZ]; rfl
    have zst : setR [.slice none 0 0, .bool false, .string ⟨⟨[]⟩⟩, .string ⟨⟨[]⟩⟩, .int .i64 0] 0 PZ = PZ := by rw [hPZ]; rfl
    have cl : ∀ {hp' : Heap}, ExtL M hp hp' → spClean24 [.agg ⟨PZ⟩, .slice (some ⟨kO, 0, none⟩) p p] hp' = some ⟨0, fun _ => .agg ⟨PZ⟩, fun _ => 0, fun _ => 0, fun _ _ => []⟩ := fun {hp'} he => by
      refine clean_nil (e := canE n R) ?_ (by rw [← cz]; exact (xO _ he).rows (fun h => by omega)) (by rw [hPZ]; trivial)
      rw [hPZ]
      refine decEq_of ?_
      show _ = some (fq R n)
      rw [nz]; rfl
    have leZ : ∀ {hp' : Heap}, spLead [.slice none 0 0] hp' = some (.int .i64 0) := fun {hp'} => by
      have := lead_of (h := hp') (sl := .slice none 0 0) (c := []) rfl (by simp) (by simp)
      rw [this]
      have : leadN ([] : List RQ).length (qsV []) = 0 := by have := leadN_le ([] : List RQ).length (qsV []); simpa using this
      rw [this]; rfl
    have en1 : ((0 : Int) = (n : Int)) = True := eq_true (by omega)
    have en2 : ((n : Int) = (0 : Int)) = True := eq_true (by omega)
    have en3 : (n = 0) = True := eq_true nz
    have en4 : (0 = n) = True := eq_true nz.symm
    clear hPZ
    cases s2 : s.2 with
    | true =>
      rw [s2] at t7 stp
      by_cases rz : R n = 0
      · have rz' := sgv.trans (eq_true rz)
        simp only [↓R0, R1, simprocAttr, -Int.reduceAbs, rdS, t0, t1, t6, t7, t8, c1, c1', hbb, nk, q1, q2, fr, ti, nwT, nwC, newHL0, cl, M00, M10, zl, zo, zt, z00, z11, zst, e5l, e5o, o1l, o1o, xs, xh, xm, xm0, v0, v1, kOk, leZ, en1, en2, en3, en4, qln, qok, sgR, rz', w1]
        refine ⟨c' - 1, by omega, i + 1, M + 1, kO, ρ, by omega, ?_, ?_, rfl, ?_, by omega, rfl⟩
        · rw [stp, hp0]
        · rw [stp, decide_eq_true rz]; rfl
        · rw [stp, ← hp0]
          exact H.mono (by omega) (fun q q1 q2 => by
            have nb : ∀ d, (M + d = q) = False := fun d => eq_false (by omega)
            simp only [↓R0, R1, simprocAttr, -Int.reduceAbs, nb])
      · have rz' := sgv.trans (eq_false rz)
        simp only [↓R0, R1, simprocAttr, -Int.reduceAbs, rdS, t0, t1, t6, t7, t8, c1, c1', hbb, nk, q1, q2, fr, ti, nwT, nwC, newHL0, cl, M00, M10, zl, zo, zt, z00, z11, zst, e5l, e5o, o1l, o1o, xs, xh, xm, xm0, v0, v1, kOk, leZ, en1, en2, en3, en4, qln, qok, sgR, rz', w1]
        refine ⟨c' - 1, by omega, i + 1, M + 1, kO, ρ, by omega, ?_, ?_, rfl, ?_, by omega, rfl⟩
        · rw [stp, hp0]
        · rw [stp, decide_eq_false rz]; rfl
        · rw [stp, ← hp0]
          exact H.mono (by omega) (fun q q1 q2 => by
            have nb : ∀ d, (M + d = q) = False := fun d => eq_false (by omega)
            simp only [↓R0, R1, simprocAttr, -Int.reduceAbs, nb])
    | false =>
      rw [s2] at t7 stp
      simp only [↓R0, R1, simprocAttr, -Int.reduceAbs, rdS, t0, t1, t6, t7, t8, c1, c1', hbb, nk, q1, q2, fr, ti, nwT, nwC, newHL0, cl, M00, M10, zl, zo, zt, z00, z11, zst, e5l, e5o, o1l, o1o, xs, xh, xm, xm0, v0, v1, kOk, leZ, en1, en2, en3, en4, qln, qok, w1]
      refine ⟨c' - 1, by omega, i + 1, M + 1, kO, ρ, by omega, ?_, ?_, rfl, ?_, by omega, rfl⟩
      · rw [stp, hp0]
      · rw [stp, Bool.false_and]
      · rw [stp, ← hp0]
        exact H.mono (by omega) (fun q q1 q2 => by
          have nb : ∀ d, (M + d = q) = False := fun d => eq_false (by omega)
          simp only [↓R0, R1, simprocAttr, -Int.reduceAbs, nb])
  have n0 : 0 < n := by omega
  have eqN : ∀ f, eqNL n f = ⟨1, fun σ => .agg ⟨PV (σ 0) n f⟩, fun _ => 35, fun _ => 3, fun _ _ => rqs (fq f n)⟩ := fun f => by
    unfold eqNL
    rw [if_neg nz]; rfl
  rw [eqN] at ti
  obtain ⟨kk, hkk⟩ : ∃ kk, kk = leadN n R := ⟨_, rfl⟩
  rw [← hkk] at stp
  have kkn := leadN_le n R
  rw [← hkk] at kkn
  have le : ∀ (kr : Nat) {hp' : Heap}, (∃ e s x, hget hp' kr = some ⟨e, s, x, rqs (fq R n)⟩) → spLead [.slice (some ⟨kr, 0, none⟩) n n] hp' = some (.int .i64 kk) := fun kr hp' ⟨_, _, _, hb⟩ => by
    have := lead_of (rqs_list hb (fq_len _ _) n0) (by rw [fq_len]; omega) (fq_ok fun j hj => (cB j (by omega)).le (by omega))
    rw [fq_len] at this
    rw [this, hkk, lead_congr fun j hj => fq_v hj]
  by_cases pz : p = 0
  · have Rz : ∀ j, F0 j = R j := fun j => by
      rw [F0v, hR, List.eq_nil_of_length_eq_zero (hp0.symm.trans pz)]; rfl
    have cz : canL n p (rowAt s.1) = [] := by rw [pz]; rfl
    have eF : F0 = R := funext Rz
    rw [eF] at ti
    have cl : ∀ {hp' : Heap}, hget hp' (M + 0) = some ⟨35, 3, false, rqs (fq R n)⟩ → ExtL M hp hp' → spClean24 [.agg ⟨PV (M + 0) n R⟩, .slice (some ⟨kO, 0, none⟩) p p] hp' = some ⟨0, fun _ => .agg ⟨PV (M + 0) n R⟩, fun _ => 0, fun _ => 0, fun _ _ => []⟩ := fun hb he =>
      clean_nil (pv_dec ⟨_, _, _, hb⟩ n0) (by rw [← cz]; exact (xO _ he).rows (fun _ => n0)) (by show hget _ _ ≠ none; rw [hb]; simp)
    have leK : ∀ {hp' : Heap}, hget hp' (M + 0) = some ⟨35, 3, false, rqs (fq R n)⟩ → spLead [.slice (some ⟨M + 0, 0, none⟩) n n] hp' = some (.int .i64 kk) := fun hb => le _ ⟨_, _, _, hb⟩
    by_cases ek : kk = n
    · have ek' : ((kk : Int) = (n : Int)) = True := eq_true (by omega)
      have ek'' : (kk = n) = True := eq_true ek
      rw [if_pos ek] at stp
      cases s2 : s.2 with
      | true =>
        rw [s2] at t7 stp
        by_cases rz : R n = 0
        · have rz' := sgv.trans (eq_true rz)
          simp only [↓R0, R1, simprocAttr, -Int.reduceAbs, rdS, t0, t1, t6, t7, t8, c1, c1', hbb, nk, q1, q2, fr, ti, nwT, nwC, newHL0, newHL1, cl, M00, M10, M20, PV_len, PV_ok, PV_tk, PV_0, PV_z, e5l, e5o, o1l, o1o, xs, xh, xm, xm0, v0, v1, kOk, leK, ek', ek'', PV_1, qln, qok, sgR, rz', w1]
          refine ⟨c' - 1, by omega, i + 1, M + 2, kO, ρ, by omega, ?_, ?_, rfl, ?_, by omega, rfl⟩
          · rw [stp, hp0]
          · rw [stp, decide_eq_true rz]; rfl
          · rw [stp, ← hp0]
            exact H.mono (by omega) (fun q q1 q2 => by
              have nb : ∀ d, (M + d = q) = False := fun d => eq_false (by omega)
              simp only [↓R0, R1, simprocAttr, -Int.reduceAbs, nb])
        · have rz' := sgv.trans (eq_false rz)
          simp only [↓R0, R1, simprocAttr, -Int.reduceAbs, rdS, t0, t1, t6, t7, t8, c1, c1', hbb, nk, q1, q2, fr, ti, nwT, nwC, newHL0, newHL1, cl, M00, M10, M20, PV_len, PV_ok, PV_tk, PV_0, PV_z, e5l, e5o, o1l, o1o, xs, xh, xm, xm0, v0, v1, kOk, leK, ek', ek'', PV_1, qln, qok, sgR, rz', w1]
          refine ⟨c' - 1, by omega, i + 1, M + 2, kO, ρ, by omega, ?_, ?_, rfl, ?_, by omega, rfl⟩
          · rw [stp, hp0]
          · rw [stp, decide_eq_false rz]; rfl
          · rw [stp, ← hp0]
            exact H.mono (by omega) (fun q q1 q2 => by
              have nb : ∀ d, (M + d = q) = False := fun d => eq_false (by omega)
              simp only [↓R0, R1, simprocAttr, -Int.reduceAbs, nb])
      | false =>
        rw [s2] at t7 stp
        simp only [↓R0, R1, simprocAttr, -Int.reduceAbs, rdS, t0, t1, t6, t7, t8, c1, c1', hbb, nk, q1, q2, fr, ti, nwT, nwC, newHL0, newHL1, cl, M00, M10, M20, PV_len, PV_ok, PV_tk, PV_0, PV_z, e5l, e5o, o1l, o1o, xs, xh, xm, xm0, v0, v1, kOk, leK, ek', ek'', w1]
        refine ⟨c' - 1, by omega, i + 1, M + 2, kO, ρ, by omega, ?_, ?_, rfl, ?_, by omega, rfl⟩
        · rw [stp, hp0]
        · rw [stp, Bool.false_and]
        · rw [stp, ← hp0]
          exact H.mono (by omega) (fun q q1 q2 => by
            have nb : ∀ d, (M + d = q) = False := fun d => eq_false (by omega)
            simp only [↓R0, R1, simprocAttr, -Int.reduceAbs, nb])
    have kkl : kk < n := by omega
    rw [if_neg ek] at stp
    have nzR : R kk ≠ 0 := by rw [hkk]; exact leadN_ne (by omega)
    have ek' : ((kk : Int) = (n : Int)) = False := eq_false (by omega)
    have ek'' : (kk = n) = False := eq_false ek
    have kk' : ((kk : Int) < (n : Int)) = True := eq_true (by omega)
    have kk3 : (kk * 3 + 3 ≤ n * 3) = True := eq_true (by omega)
    have rlR : (rqs (fq R n)).length = n * 3 := by rw [rqs_len, fq_len]
    have ratR : ((rqs (fq R n)).drop (kk * 3)).take 3 = (RQ.of (R kk)).cells := rqs_at _ kk _ (fq_get kkl)
    have dv : spR3Div [.agg ⟨(RQ.of 1).cells⟩, .agg ⟨(RQ.of (R kk)).cells⟩] = some (.tuple ⟨[.agg ⟨(RQ.of (1 / R kk)).cells⟩, .bool true]⟩) := div3 RB.one (cB kk (by omega)) (by omega) (by omega) nzR
    have qtk : ∀ x : Rat, (RQ.of x).cells.take 3 = (RQ.of x).cells := fun _ => rfl
    have qst : ∀ x : Rat, setR [.bool false, .string ⟨⟨[]⟩⟩, .string ⟨⟨[]⟩⟩] 0 (RQ.of x).cells = (RQ.of x).cells := fun _ => rfl
    have rBx : RB (1 / R kk) (1 + rB p) := RB.one.div (cB _ (by omega)) (by unfold rB; omega) (Nat.le_refl _)
    obtain ⟨G, hG⟩ : ∃ G : Row, G = fun j => R j * (1 / R kk) := ⟨_, rfl⟩
    have GB : ∀ j, j ≤ n → RB (G j) (2 * rB p + 1) := fun j hj => by rw [hG]; exact (cB j hj).mul rBx (by omega)
    have ti2 : ∀ {hp' : Heap}, hget hp' (M + 0) = some ⟨35, 3, false, rqs (fq R n)⟩ → spTimes [.agg ⟨PV (M + 0) n R⟩, .agg ⟨(RQ.of (1 / R kk)).cells⟩] hp' = some ⟨1, fun σ => .agg ⟨PV (σ 0) n G⟩, fun _ => 35, fun _ => 3, fun _ _ => rqs (fq G n)⟩ := fun hb => by
      rw [times_can ⟨_, _, _, hb⟩ n0 (by omega) (fun j hj => (cB j hj).le (by omega)) (rBx.le (by omega)), ← hG, eqN]
    have hkO := H.kb
    have hbd := H.bd
    have y1 : (M + 1 = M) = False := eq_false (by omega)
    have y2 : (M + 2 = M) = False := eq_false (by omega)
    have y3 : (M + 3 = M) = False := eq_false (by omega)
    have y4 : (M + 4 = M) = False := eq_false (by omega)
    have z1 : (M = M + 1) = False := eq_false (by omega)
    have z2 : (M = M + 2) = False := eq_false (by omega)
    have z3 : (M = M + 3) = False := eq_false (by omega)
    have z4 : (M = M + 4) = False := eq_false (by omega)
    simp only [↓R0, R1, simprocAttr, -Int.reduceAbs, rdS, t0, t1, t6, t7, t8, c1, c1', hbb, nk, q1, q2, fr, ti, nwT, nwC, newHL0, newHL1, cl, M00, M10, M20, PV_len, PV_ok, PV_tk, PV_0, PV_z, e5l, e5o, o1l, o1o, xs, xh, xm, xm0, v0, v1, kOk, leK, y1, y2, y3, y4, z1, z2, z3, z4, ek', ek'', kk', kkl, kk3, rlR, ratR, dv, ti2, qln, qok, qtk, qst, PV_s]
    have kOM : kO < M := hkO.2
    refine lp_parts (fun d tm hp2 nx => ∃ (j M2 : Nat) (ρ2 : Nat → Nat) (W : Nat → Row), d + j = p ∧ tmget tm 0 = .int .i64 n ∧ tmget tm 1 = .slice (some ⟨k, off, none⟩) l.length dd ∧ tmget tm 6 = .slice (some ⟨kO, 0, none⟩) p p ∧ tmget tm 7 = .bool s.2 ∧ tmget tm 8 = .int .i64 i ∧ tmget tm 9 = .pointer (some ⟨M + 1, 0, none⟩) ∧ tmget tm 10 = .int .i64 kk ∧ tmget tm 13 = .int .i64 j ∧
        EqH hp2 N M2 kO n p ρ2 W ∧ (∀ q, q < p → ∀ i, i ≤ n → W q i = if q < j then rowAt s.1 q i - G i * rowAt s.1 q kk else rowAt s.1 q i) ∧ (∃ x, hget hp2 (M + 1) = some ⟨37, 5, x, PV (M + 3) n G⟩) ∧ (∃ y, hget hp2 (M + 3) = some ⟨35, 3, y, rqs (fq G n)⟩) ∧ (∀ q, q < p → ρ2 q ≠ M + 3 ∧ ρ2 q ≠ M + 1) ∧ ExtL N h hp2 ∧ M + 3 + 1 ≤ M2 ∧ nx = M2 + 0) ?_ p
      ⟨0, M + 3 + 1, ρ, rowAt s.1, by omega, ?_, ?_, ?_, ?_, ?_, ?_, ?_, ?_, H.mono (by omega) ?_, fun q hq i hi => (if_neg (Nat.not_lt_zero q)).symm, ⟨true, ?_⟩, ⟨false, ?_⟩, fun q hq => by have := hbd q hq; omega, ?_, Nat.le_refl _, rfl⟩
    rotate_left
    all_goals first | (simp only [↓R0, R1, simprocAttr, -Int.reduceAbs]; done) | (simp only [↓R0, R1, simprocAttr, -Int.reduceAbs]; rfl) | (simp only [↓R0, R1, simprocAttr, -Int.reduceAbs, t0, t1, t6, t7, t8]; done) | skip
    · intro q q1 q2
      have nb : ∀ d, (M + d = q) = False := fun d => eq_false (by omega)
      have nb3 : (M + 3 + 0 = q) = False := eq_false (by omega)
      simp only [↓R0, R1, simprocAttr, -Int.reduceAbs, nb, nb3]
    · intro q hq
      have nb : ∀ d, (M + d = q) = False := fun d => eq_false (by omega)
      have nb3 : (M + 3 + 0 = q) = False := eq_false (by omega)
      simp only [↓R0, R1, simprocAttr, -Int.reduceAbs, nb, nb3]
      exact hh q hq
    clear t0 t1 t6 t7 t8
    rintro d tm hp2 nx ⟨j, M2, ρ2, W, hd, t0, t1, t6, t7, t8, t9, t10, t13, H2, hW, ⟨x9, b9⟩, ⟨yG, bG⟩, hρ, hh2, hM2, hnx⟩
    rw [hnx]
    clear hnx nx
    obtain ⟨xO, bO⟩ := H2.hd
    have w0 : ∀ d, (M2 + d = kO) = False := fun d => eq_false (by omega)
    have w2 : ∀ d, (kO = M2 + d) = False := fun d => eq_false (by omega)
    have w3 : ∀ d, (M2 + d = M + 1) = False := fun d => eq_false (by omega)
    have w4 : ∀ d, (M + 1 = M2 + d) = False := fun d => eq_false (by omega)
    have w5 : ∀ d, (M2 + d = M + 3) = False := fun d => eq_false (by omega)
    have w6 : ∀ d, (M + 3 = M2 + d) = False := fun d => eq_false (by omega)
    have m20 : M2 + 0 + 0 = M2 + 0 := rfl
    have m21 : M2 + 1 + 0 = M2 + 1 := rfl
    have lenB : (blkC (pvF ρ2 n W) p).length = p * 5 := blkC_len fun i _ => PV_len _ _ _
    by_cases d1 : j < p
    case neg =>
      have ej : j = p := by omega
      subst ej
      have d1' : ((j : Int) < (j : Int)) = False := eq_false (by omega)
      have npp : (j + 1 ≤ j) = False := eq_false (by omega)
      have ovr : ((j + 1) * 72 ≤ 140737488355328) = True := eq_true (by omega)
      simp only [↓R0, R1, simprocAttr, -Int.reduceAbs, t0, t1, t6, t7, t8, t9, t10, t13, d1', b9, bO, PV_len, PV_ok, PV_tk, PV_0, PV_z, lenB, npp, ovr, v0, v1, w0, w2, w3, w4, w5, w6, w1]
      refine ⟨c' - 1, by omega, i + 1, M2 + 2, M2 + 1, updN ρ2 j (M + 3), by omega, ?_, ?_, rfl, ?_, ?_, by omega, rfl⟩
      · rw [stp]
        have : (s.1.map (fun o j => o j - R j * (1 / R kk) * o kk) ++ [fun j => R j * (1 / R kk)]).length = j + 1 := by rw [List.length_append, List.length_map, ← hp0]; rfl
        rw [this]
      · rw [stp]
      · have eln : (S (i + 1)).1.length = j + 1 := by rw [stp, List.length_append, List.length_map, ← hp0]; rfl
        rw [eln]
        refine H2.push2 (hp := hp2) (by omega) (by omega) (by omega) (by omega) (fun q hq => (hρ q hq).1) (by omega) (x := false) ?_ ⟨_, bG⟩ (fun q q1 q2 q3 => ?_) (fun q hq i' hi' => ?_) (fun i' hi' => ?_) (f := G)
        · simp only [↓R0, R1, simprocAttr, -Int.reduceAbs]
        · have nb : ∀ d, (M2 + d = q) = False := fun d => eq_false (by omega)
          have nk : (kO = q) = False := eq_false (fun e => q3 e.symm)
          simp only [↓R0, R1, simprocAttr, -Int.reduceAbs, nb, nk]
        · rw [stp, rowAt_map (by omega), hW q hq i' hi', if_pos hq, hG]
        · rw [stp, hp0, rowAt_last, hG]
      · intro q hq
        have nb : ∀ d, (M2 + d = q) = False := fun d => eq_false (by omega)
        have nk : (kO = q) = False := eq_false (by omega)
        simp only [↓R0, R1, simprocAttr, -Int.reduceAbs, nb, nk]
        exact hh2 q hq
    have d1' : ((j : Int) < (p : Int)) = True := eq_true (by omega)
    have wj : IntKind.i64.wrap ((j : Int) + 1) = ((j + 1 : Nat) : Int) := by rw [i64_in _ (by omega)]; omega
    have j5 : (j * 5 + 5 ≤ p * 5) = True := eq_true (by omega)
    obtain ⟨o, ho⟩ : ∃ o, o = W j := ⟨_, rfl⟩
    have oB : ∀ i, i ≤ n → RB (o i) (oB p) := fun i hi => by
      rw [ho, hW j d1 i hi, if_neg (Nat.lt_irrefl j), hp0]
      exact hB j (by omega) i hi
    have atB : ((blkC (pvF ρ2 n W) p).drop (j * 5)).take 5 = PV (ρ2 j) n o := by
      rw [blkC_at (f := pvF ρ2 n W) (w := 5) (fun i _ => PV_len _ _ _) d1, ho]; rfl
    have atB0 : (blkC (pvF ρ2 n W) p)[j * 5 + 0]? = some (.slice (some ⟨ρ2 j, 0, none⟩) n n) := by
      have : ((blkC (pvF ρ2 n W) p).drop (j * 5))[0]? = some (.slice (some ⟨ρ2 j, 0, none⟩) n n) := by
        rw [show ((blkC (pvF ρ2 n W) p).drop (j * 5))[0]? = (((blkC (pvF ρ2 n W) p).drop (j * 5)).take 5)[0]? by rw [List.getElem?_take, if_pos (by omega)], atB]; rfl
      rw [List.getElem?_drop] at this
      exact this
    obtain ⟨yr, br⟩ := H2.row j d1
    rw [← ho] at br
    have bdj := H2.bd j d1
    have w7 : ∀ d, (M2 + d = ρ2 j) = False := fun d => eq_false (by omega)
    have rlo : (rqs (fq o n)).length = n * 3 := by rw [rqs_len, fq_len]
    have rato : ((rqs (fq o n)).drop (kk * 3)).take 3 = (RQ.of (o kk)).cells := rqs_at _ kk _ (fq_get kkl)
    have okB := oB kk (by omega)
    have ti3 : ∀ {hp' : Heap}, hget hp' (M + 3) = some ⟨35, 3, yG, rqs (fq G n)⟩ → spTimes [.agg ⟨PV (M + 3) n G⟩, .agg ⟨(RQ.of (o kk)).cells⟩] hp' = some ⟨1, fun σ => .agg ⟨PV (σ 0) n fun q => G q * o kk⟩, fun _ => 35, fun _ => 3, fun _ _ => rqs (fq (fun q => G q * o kk) n)⟩ := fun hb => by
      rw [times_can ⟨_, _, _, hb⟩ n0 (by omega) (fun q hq => (GB q hq).le (by omega)) (okB.le (by omega)), eqN]
    have li3 : ∀ {hp' : Heap}, hget hp' (ρ2 j) = some ⟨35, 3, yr, rqs (fq o n)⟩ → hget hp' (M2 + 0) = some ⟨35, 3, false, rqs (fq (fun q => G q * o kk) n)⟩ → spLess24 [.agg ⟨PV (ρ2 j) n o⟩, .agg ⟨PV (M2 + 0) n fun q => G q * o kk⟩] hp' = some ⟨1, fun σ => .agg ⟨PV (σ 0) n fun q => o q - G q * o kk⟩, fun _ => 35, fun _ => 3, fun _ _ => rqs (fq (fun q => o q - G q * o kk) n)⟩ := fun hb hb' => by
      rw [less_can ⟨_, _, _, hb⟩ ⟨_, _, _, hb'⟩ n0 (by omega) (fun q hq => (oB q hq).le (by omega)) (fun q hq => ((GB q hq).mul okB (Nat.le_refl _)).le (by omega)), eqN]
    generalize hF1 : (fun q => G q * o kk) = F1 at *
    generalize hF2 : (fun q => o q - G q * o kk) = F2 at *
    simp only [↓R0, R1, simprocAttr, -Int.reduceAbs, rdS, t0, t1, t6, t7, t8, t9, t10, t13, d1, d1', b9, bG, bO, br, PV_len, PV_ok, PV_tk, PV_0, PV_z, PV_s, lenB, atB, atB0, j5, rlo, rato, kkl, kk', kk3, qln, qok, ti3, li3, nwT, nwS, newHL1, m20, m21, v0, v1, w0, w2, w3, w4, w5, w6, w7, wj]
    refine ⟨d - 1, by omega, j + 1, M2 + 2, updN ρ2 j (M2 + 1), updW W j F2, by omega, rfl, H2.upd d1 (by omega) (by omega) (x := xO) (y := false) ?_ ?_ (fun q q1 q2 q3 => ?_), fun q hq i' hi' => ?_, ⟨_, rfl⟩, ⟨_, rfl⟩, fun q hq => ?_, fun q hq => ?_, by omega, rfl⟩
    · simp only [↓R0, R1, simprocAttr, -Int.reduceAbs]
    · simp only [↓R0, R1, simprocAttr, -Int.reduceAbs, w0, w2]
    · have nb : ∀ d, (M2 + d = q) = False := fun d => eq_false (by omega)
      have nk : (kO = q) = False := eq_false (fun e => q3 e.symm)
      simp only [↓R0, R1, simprocAttr, -Int.reduceAbs, nb, nk]
    · by_cases e : q = j
      · rw [e, updW_eq, if_pos (by omega), ← hF2]
        have := hW j d1 i' hi'
        rw [if_neg (Nat.lt_irrefl j)] at this
        have := hW j d1 kk (by omega)
        rw [if_neg (Nat.lt_irrefl j)] at this
        simp only [ho]
        grind
      · rw [updW_ne e, hW q hq i' hi']
        by_cases c : q < j
        · rw [if_pos c, if_pos (by omega)]
        · rw [if_neg c, if_neg (by omega)]
    · by_cases e : q = j
      · rw [e, updN_eq]; omega
      · rw [updN_ne e]; exact hρ q hq
    · have nb : ∀ d, (M2 + d = q) = False := fun d => eq_false (by omega)
      have nk : (kO = q) = False := eq_false (by omega)
      simp only [↓R0, R1, simprocAttr, -Int.reduceAbs, nb, nk]
      exact hh2 q hq
  · have p0 : 0 < p := by omega
    have cl : ∀ {hp' : Heap}, hget hp' (M + 0) = some ⟨35, 3, false, rqs (fq F0 n)⟩ → ExtL M hp hp' → spClean24 [.agg ⟨PV (M + 0) n F0⟩, .slice (some ⟨kO, 0, none⟩) p p] hp' = some ⟨1, fun σ => .agg ⟨PV (σ 0) n R⟩, fun _ => 35, fun _ => 3, fun _ _ => rqs (fq R n)⟩ := fun {hp'} hb he => by
      have hr := (xO _ he).rows (fun _ => n0)
      have cat : ∀ q, q < p → eqAt (canL n p (rowAt s.1)) q = canE n (rowAt s.1 q) := fun q hq => canL_at hq
      have cll := canL_len n p (rowAt s.1)
      have oo : ∀ q, q < p → ∀ j, j ≤ n → rowAt (outR n (canL n p (rowAt s.1))) q j = rowAt s.1 q j := fun q hq j hj => by rw [outR_at (by omega), cat q hq, rowE_can hj]
      have lm : ∀ d ∈ canL n p (rowAt s.1), ∃ q, q < p ∧ d = canE n (rowAt s.1 q) := fun d hd => by
        unfold canL at hd
        obtain ⟨q, hq, rfl⟩ := List.mem_map.1 hd
        exact ⟨q, List.mem_range.1 hq, rfl⟩
      have ne : canL n p (rowAt s.1) ≠ [] := fun e => by rw [e] at cll; exact absurd cll (by simp; omega)
      have rF : ∀ j, j ≤ n → rowE n (canE n F0) j = rowE n (eqAt l i) j := fun j hj => by rw [rowE_can hj, F0v]
      have co : ClOK n (canE n F0) (canL n p (rowAt s.1)) := by
        refine ⟨n8, by omega, fun d hd => ?_, piv.congr (by rw [outR_len]; omega) (fun q hq j hj => oo q (by omega) j hj), canE_ok fun j hj => by rw [F0v]; exact (rB6 j hj).le (by omega), fun j hj => by rw [rF j hj]; exact rB6 j hj, fun d hd => ?_, fun q hq j hj => ?_⟩
        · obtain ⟨q, _, rfl⟩ := lm d hd; exact fq_len _ _
        · obtain ⟨q, hq, rfl⟩ := lm d hd
          exact canE_ok fun j hj => (hB q (by omega) j hj).le (by rw [← hp0]; omega)
        · rw [cll] at hq
          rw [cat q hq, rowE_can hj]
          exact (hB q (by omega) j hj).le (by rw [← hp0]; omega)
      rw [clean_of (pv_dec ⟨_, _, _, hb⟩ n0) hr (fq_len _ _) ne co, eqNL_congr (g := R) fun j hj => ?_, eqN]
      rw [hR]
      exact cleanR_congr (by rw [outR_len]; omega) (fun q hq j hj => oo q (by rw [outR_len] at hq; omega) j hj) rF j hj
    have leK : ∀ {hp' : Heap}, hget hp' (M + 1) = some ⟨35, 3, false, rqs (fq R n)⟩ → spLead [.slice (some ⟨M + 1, 0, none⟩) n n] hp' = some (.int .i64 kk) := fun hb => le _ ⟨_, _, _, hb⟩
    by_cases ek : kk = n
    · have ek' : ((kk : Int) = (n : Int)) = True := eq_true (by omega)
      have ek'' : (kk = n) = True := eq_true ek
      rw [if_pos ek] at stp
      cases s2 : s.2 with
      | true =>
        rw [s2] at t7 stp
        by_cases rz : R n = 0
        · have rz' := sgv.trans (eq_true rz)
          simp only [↓R0, R1, simprocAttr, -Int.reduceAbs, rdS, t0, t1, t6, t7, t8, c1, c1', hbb, nk, q1, q2, fr, ti, nwT, nwC, newHL0, newHL1, cl, M00, M10, M20, PV_len, PV_ok, PV_tk, PV_0, PV_z, e5l, e5o, o1l, o1o, xs, xh, xm, xm0, v0, v1, kOk, leK, ek', ek'', PV_1, qln, qok, sgR, rz', w1]
          refine ⟨c' - 1, by omega, i + 1, M + 3, kO, ρ, by omega, ?_, ?_, rfl, ?_, by omega, rfl⟩
          · rw [stp, hp0]
          · rw [stp, decide_eq_true rz]; rfl
          · rw [stp, ← hp0]
            exact H.mono (by omega) (fun q q1 q2 => by
              have nb : ∀ d, (M + d = q) = False := fun d => eq_false (by omega)
              simp only [↓R0, R1, simprocAttr, -Int.reduceAbs, nb])
        · have rz' := sgv.trans (eq_false rz)
          simp only [↓R0, R1, simprocAttr, -Int.reduceAbs, rdS, t0, t1, t6, t7, t8, c1, c1', hbb, nk, q1, q2, fr, ti, nwT, nwC, newHL0, newHL1, cl, M00, M10, M20, PV_len, PV_ok, PV_tk, PV_0, PV_z, e5l, e5o, o1l, o1o, xs, xh, xm, xm0, v0, v1, kOk, leK, ek', ek'', PV_1, qln, qok, sgR, rz', w1]
          refine ⟨c' - 1, by omega, i + 1, M + 3, kO, ρ, by omega, ?_, ?_, rfl, ?_, by omega, rfl⟩
          · rw [stp, hp0]
          · rw [stp, decide_eq_false rz]; rfl
          · rw [stp, ← hp0]
            exact H.mono (by omega) (fun q q1 q2 => by
              have nb : ∀ d, (M + d = q) = False := fun d => eq_false (by omega)
              simp only [↓R0, R1, simprocAttr, -Int.reduceAbs, nb])
      | false =>
        rw [s2] at t7 stp
        simp only [↓R0, R1, simprocAttr, -Int.reduceAbs, rdS, t0, t1, t6, t7, t8, c1, c1', hbb, nk, q1, q2, fr, ti, nwT, nwC, newHL0, newHL1, cl, M00, M10, M20, PV_len, PV_ok, PV_tk, PV_0, PV_z, e5l, e5o, o1l, o1o, xs, xh, xm, xm0, v0, v1, kOk, leK, ek', ek'', w1]
        refine ⟨c' - 1, by omega, i + 1, M + 3, kO, ρ, by omega, ?_, ?_, rfl, ?_, by omega, rfl⟩
        · rw [stp, hp0]
        · rw [stp, Bool.false_and]
        · rw [stp, ← hp0]
          exact H.mono (by omega) (fun q q1 q2 => by
            have nb : ∀ d, (M + d = q) = False := fun d => eq_false (by omega)
            simp only [↓R0, R1, simprocAttr, -Int.reduceAbs, nb])
    have kkl : kk < n := by omega
    rw [if_neg ek] at stp
    have nzR : R kk ≠ 0 := by rw [hkk]; exact leadN_ne (by omega)
    have ek' : ((kk : Int) = (n : Int)) = False := eq_false (by omega)
    have ek'' : (kk = n) = False := eq_false ek
    have kk' : ((kk : Int) < (n : Int)) = True := eq_true (by omega)
    have kk3 : (kk * 3 + 3 ≤ n * 3) = True := eq_true (by omega)
    have rlR : (rqs (fq R n)).length = n * 3 := by rw [rqs_len, fq_len]
    have ratR : ((rqs (fq R n)).drop (kk * 3)).take 3 = (RQ.of (R kk)).cells := rqs_at _ kk _ (fq_get kkl)
    have dv : spR3Div [.agg ⟨(RQ.of 1).cells⟩, .agg ⟨(RQ.of (R kk)).cells⟩] = some (.tuple ⟨[.agg ⟨(RQ.of (1 / R kk)).cells⟩, .bool true]⟩) := div3 RB.one (cB kk (by omega)) (by omega) (by omega) nzR
    have qtk : ∀ x : Rat, (RQ.of x).cells.take 3 = (RQ.of x).cells := fun _ => rfl
    have qst : ∀ x : Rat, setR [.bool false, .string ⟨⟨[]⟩⟩, .string ⟨⟨[]⟩⟩] 0 (RQ.of x).cells = (RQ.of x).cells := fun _ => rfl
    have rBx : RB (1 / R kk) (1 + rB p) := RB.one.div (cB _ (by omega)) (by unfold rB; omega) (Nat.le_refl _)
    obtain ⟨G, hG⟩ : ∃ G : Row, G = fun j => R j * (1 / R kk) := ⟨_, rfl⟩
    have GB : ∀ j, j ≤ n → RB (G j) (2 * rB p + 1) := fun j hj => by rw [hG]; exact (cB j hj).mul rBx (by omega)
    have ti2 : ∀ {hp' : Heap}, hget hp' (M + 1) = some ⟨35, 3, false, rqs (fq R n)⟩ → spTimes [.agg ⟨PV (M + 1) n R⟩, .agg ⟨(RQ.of (1 / R kk)).cells⟩] hp' = some ⟨1, fun σ => .agg ⟨PV (σ 0) n G⟩, fun _ => 35, fun _ => 3, fun _ _ => rqs (fq G n)⟩ := fun hb => by
      rw [times_can ⟨_, _, _, hb⟩ n0 (by omega) (fun j hj => (cB j hj).le (by omega)) (rBx.le (by omega)), ← hG, eqN]
    have hkO := H.kb
    have hbd := H.bd
    have y1 : (M + 1 = M) = False := eq_false (by omega)
    have y2 : (M + 2 = M) = False := eq_false (by omega)
    have y3 : (M + 3 = M) = False := eq_false (by omega)
    have y4 : (M + 4 = M) = False := eq_false (by omega)
    have z1 : (M = M + 1) = False := eq_false (by omega)
    have z2 : (M = M + 2) = False := eq_false (by omega)
    have z3 : (M = M + 3) = False := eq_false (by omega)
    have z4 : (M = M + 4) = False := eq_false (by omega)
    simp only [↓R0, R1, simprocAttr, -Int.reduceAbs, rdS, t0, t1, t6, t7, t8, c1, c1', hbb, nk, q1, q2, fr, ti, nwT, nwC, newHL0, newHL1, cl, M00, M10, M20, PV_len, PV_ok, PV_tk, PV_0, PV_z, e5l, e5o, o1l, o1o, xs, xh, xm, xm0, v0, v1, kOk, leK, y1, y2, y3, y4, z1, z2, z3, z4, ek', ek'', kk', kkl, kk3, rlR, ratR, dv, ti2, qln, qok, qtk, qst, PV_s]
    have kOM : kO < M := hkO.2
    refine lp_parts (fun d tm hp2 nx => ∃ (j M2 : Nat) (ρ2 : Nat → Nat) (W : Nat → Row), d + j = p ∧ tmget tm 0 = .int .i64 n ∧ tmget tm 1 = .slice (some ⟨k, off, none⟩) l.length dd ∧ tmget tm 6 = .slice (some ⟨kO, 0, none⟩) p p ∧ tmget tm 7 = .bool s.2 ∧ tmget tm 8 = .int .i64 i ∧ tmget tm 9 = .pointer (some ⟨M + 2, 0, none⟩) ∧ tmget tm 10 = .int .i64 kk ∧ tmget tm 13 = .int .i64 j ∧
        EqH hp2 N M2 kO n p ρ2 W ∧ (∀ q, q < p → ∀ i, i ≤ n → W q i = if q < j then rowAt s.1 q i - G i * rowAt s.1 q kk else rowAt s.1 q i) ∧ (∃ x, hget hp2 (M + 2) = some ⟨37, 5, x, PV (M + 4) n G⟩) ∧ (∃ y, hget hp2 (M + 4) = some ⟨35, 3, y, rqs (fq G n)⟩) ∧ (∀ q, q < p → ρ2 q ≠ M + 4 ∧ ρ2 q ≠ M + 2) ∧ ExtL N h hp2 ∧ M + 4 + 1 ≤ M2 ∧ nx = M2 + 0) ?_ p
      ⟨0, M + 4 + 1, ρ, rowAt s.1, by omega, ?_, ?_, ?_, ?_, ?_, ?_, ?_, ?_, H.mono (by omega) ?_, fun q hq i hi => (if_neg (Nat.not_lt_zero q)).symm, ⟨true, ?_⟩, ⟨false, ?_⟩, fun q hq => by have := hbd q hq; omega, ?_, Nat.le_refl _, rfl⟩
    rotate_left
    all_goals first | (simp only [↓R0, R1, simprocAttr, -Int.reduceAbs]; done) | (simp only [↓R0, R1, simprocAttr, -Int.reduceAbs]; rfl) | (simp only [↓R0, R1, simprocAttr, -Int.reduceAbs, t0, t1, t6, t7, t8]; done) | skip
    · intro q q1 q2
      have nb : ∀ d, (M + d = q) = False := fun d => eq_false (by omega)
      have nb3 : (M + 4 + 0 = q) = False := eq_false (by omega)
      simp only [↓R0, R1, simprocAttr, -Int.reduceAbs, nb, nb3]
    · intro q hq
      have nb : ∀ d, (M + d = q) = False := fun d => eq_false (by omega)
      have nb3 : (M + 4 + 0 = q) = False := eq_false (by omega)
      simp only [↓R0, R1, simprocAttr, -Int.reduceAbs, nb, nb3]
      exact hh q hq
    clear t0 t1 t6 t7 t8
    rintro d tm hp2 nx ⟨j, M2, ρ2, W, hd, t0, t1, t6, t7, t8, t9, t10, t13, H2, hW, ⟨x9, b9⟩, ⟨yG, bG⟩, hρ, hh2, hM2, hnx⟩
    rw [hnx]
    clear hnx nx
    obtain ⟨xO, bO⟩ := H2.hd
    have w0 : ∀ d, (M2 + d = kO) = False := fun d => eq_false (by omega)
    have w2 : ∀ d, (kO = M2 + d) = False := fun d => eq_false (by omega)
    have w3 : ∀ d, (M2 + d = M + 2) = False := fun d => eq_false (by omega)
    have w4 : ∀ d, (M + 2 = M2 + d) = False := fun d => eq_false (by omega)
    have w5 : ∀ d, (M2 + d = M + 4) = False := fun d => eq_false (by omega)
    have w6 : ∀ d, (M + 4 = M2 + d) = False := fun d => eq_false (by omega)
    have m20 : M2 + 0 + 0 = M2 + 0 := rfl
    have m21 : M2 + 1 + 0 = M2 + 1 := rfl
    have lenB : (blkC (pvF ρ2 n W) p).length = p * 5 := blkC_len fun i _ => PV_len _ _ _
    by_cases d1 : j < p
    case neg =>
      have ej : j = p := by omega
      subst ej
      have d1' : ((j : Int) < (j : Int)) = False := eq_false (by omega)
      have npp : (j + 1 ≤ j) = False := eq_false (by omega)
      have ovr : ((j + 1) * 72 ≤ 140737488355328) = True := eq_true (by omega)
      simp only [↓R0, R1, simprocAttr, -Int.reduceAbs, t0, t1, t6, t7, t8, t9, t10, t13, d1', b9, bO, PV_len, PV_ok, PV_tk, PV_0, PV_z, lenB, npp, ovr, v0, v1, w0, w2, w3, w4, w5, w6, w1]
      refine ⟨c' - 1, by omega, i + 1, M2 + 2, M2 + 1, updN ρ2 j (M + 4), by omega, ?_, ?_, rfl, ?_, ?_, by omega, rfl⟩
      · rw [stp]
        have : (s.1.map (fun o j => o j - R j * (1 / R kk) * o kk) ++ [fun j => R j * (1 / R kk)]).length = j + 1 := by rw [List.length_append, List.length_map, ← hp0]; rfl
        rw [this]
      · rw [stp]
      · have eln : (S (i + 1)).1.length = j + 1 := by rw [stp, List.length_append, List.length_map, ← hp0]; rfl
        rw [eln]
        refine H2.push2 (hp := hp2) (by omega) (by omega) (by omega) (by omega) (fun q hq => (hρ q hq).1) (by omega) (x := false) ?_ ⟨_, bG⟩ (fun q q1 q2 q3 => ?_) (fun q hq i' hi' => ?_) (fun i' hi' => ?_) (f := G)
        · simp only [↓R0, R1, simprocAttr, -Int.reduceAbs]
        · have nb : ∀ d, (M2 + d = q) = False := fun d => eq_false (by omega)
          have nk : (kO = q) = False := eq_false (fun e => q3 e.symm)
          simp only [↓R0, R1, simprocAttr, -Int.reduceAbs, nb, nk]
        · rw [stp, rowAt_map (by omega), hW q hq i' hi', if_pos hq, hG]
        · rw [stp, hp0, rowAt_last, hG]
      · intro q hq
        have nb : ∀ d, (M2 + d = q) = False := fun d => eq_false (by omega)
        have nk : (kO = q) = False := eq_false (by omega)
        simp only [↓R0, R1, simprocAttr, -Int.reduceAbs, nb, nk]
        exact hh2 q hq
    have d1' : ((j : Int) < (p : Int)) = True := eq_true (by omega)
    have wj : IntKind.i64.wrap ((j : Int) + 1) = ((j + 1 : Nat) : Int) := by rw [i64_in _ (by omega)]; omega
    have j5 : (j * 5 + 5 ≤ p * 5) = True := eq_true (by omega)
    obtain ⟨o, ho⟩ : ∃ o, o = W j := ⟨_, rfl⟩
    have oB : ∀ i, i ≤ n → RB (o i) (oB p) := fun i hi => by
      rw [ho, hW j d1 i hi, if_neg (Nat.lt_irrefl j), hp0]
      exact hB j (by omega) i hi
    have atB : ((blkC (pvF ρ2 n W) p).drop (j * 5)).take 5 = PV (ρ2 j) n o := by
      rw [blkC_at (f := pvF ρ2 n W) (w := 5) (fun i _ => PV_len _ _ _) d1, ho]; rfl
    have atB0 : (blkC (pvF ρ2 n W) p)[j * 5 + 0]? = some (.slice (some ⟨ρ2 j, 0, none⟩) n n) := by
      have : ((blkC (pvF ρ2 n W) p).drop (j * 5))[0]? = some (.slice (some ⟨ρ2 j, 0, none⟩) n n) := by
        rw [show ((blkC (pvF ρ2 n W) p).drop (j * 5))[0]? = (((blkC (pvF ρ2 n W) p).drop (j * 5)).take 5)[0]? by rw [List.getElem?_take, if_pos (by omega)], atB]; rfl
      rw [List.getElem?_drop] at this
      exact this
    obtain ⟨yr, br⟩ := H2.row j d1
    rw [← ho] at br
    have bdj := H2.bd j d1
    have w7 : ∀ d, (M2 + d = ρ2 j) = False := fun d => eq_false (by omega)
    have rlo : (rqs (fq o n)).length = n * 3 := by rw [rqs_len, fq_len]
    have rato : ((rqs (fq o n)).drop (kk * 3)).take 3 = (RQ.of (o kk)).cells := rqs_at _ kk _ (fq_get kkl)
    have okB := oB kk (by omega)
    have ti3 : ∀ {hp' : Heap}, hget hp' (M + 4) = some ⟨35, 3, yG, rqs (fq G n)⟩ → spTimes [.agg ⟨PV (M + 4) n G⟩, .agg ⟨(RQ.of (o kk)).cells⟩] hp' = some ⟨1, fun σ => .agg ⟨PV (σ 0) n fun q => G q * o kk⟩, fun _ => 35, fun _ => 3, fun _ _ => rqs (fq (fun q => G q * o kk) n)⟩ := fun hb => by
      rw [times_can ⟨_, _, _, hb⟩ n0 (by omega) (fun q hq => (GB q hq).le (by omega)) (okB.le (by omega)), eqN]
    have li3 : ∀ {hp' : Heap}, hget hp' (ρ2 j) = some ⟨35, 3, yr, rqs (fq o n)⟩ → hget hp' (M2 + 0) = some ⟨35, 3, false, rqs (fq (fun q => G q * o kk) n)⟩ → spLess24 [.agg ⟨PV (ρ2 j) n o⟩, .agg ⟨PV (M2 + 0) n fun q => G q * o kk⟩] hp' = some ⟨1, fun σ => .agg ⟨PV (σ 0) n fun q => o q - G q * o kk⟩, fun _ => 35, fun _ => 3, fun _ _ => rqs (fq (fun q => o q - G q * o kk) n)⟩ := fun hb hb' => by
      rw [less_can ⟨_, _, _, hb⟩ ⟨_, _, _, hb'⟩ n0 (by omega) (fun q hq => (oB q hq).le (by omega)) (fun q hq => ((GB q hq).mul okB (Nat.le_refl _)).le (by omega)), eqN]
    generalize hF1 : (fun q => G q * o kk) = F1 at *
    generalize hF2 : (fun q => o q - G q * o kk) = F2 at *
    simp only [↓R0, R1, simprocAttr, -Int.reduceAbs, rdS, t0, t1, t6, t7, t8, t9, t10, t13, d1, d1', b9, bG, bO, br, PV_len, PV_ok, PV_tk, PV_0, PV_z, PV_s, lenB, atB, atB0, j5, rlo, rato, kkl, kk', kk3, qln, qok, ti3, li3, nwT, nwS, newHL1, m20, m21, v0, v1, w0, w2, w3, w4, w5, w6, w7, wj]
    refine ⟨d - 1, by omega, j + 1, M2 + 2, updN ρ2 j (M2 + 1), updW W j F2, by omega, rfl, H2.upd d1 (by omega) (by omega) (x := xO) (y := false) ?_ ?_ (fun q q1 q2 q3 => ?_), fun q hq i' hi' => ?_, ⟨_, rfl⟩, ⟨_, rfl⟩, fun q hq => ?_, fun q hq => ?_, by omega, rfl⟩
    · simp only [↓R0, R1, simprocAttr, -Int.reduceAbs]
    · simp only [↓R0, R1, simprocAttr, -Int.reduceAbs, w0, w2]
    · have nb : ∀ d, (M2 + d = q) = False := fun d => eq_false (by omega)
      have nk : (kO = q) = False := eq_false (fun e => q3 e.symm)
      simp only [↓R0, R1, simprocAttr, -Int.reduceAbs, nb, nk]
    · by_cases e : q = j
      · rw [e, updW_eq, if_pos (by omega), ← hF2]
        have := hW j d1 i' hi'
        rw [if_neg (Nat.lt_irrefl j)] at this
        have := hW j d1 kk (by omega)
        rw [if_neg (Nat.lt_irrefl j)] at this
        simp only [ho]
        grind
      · rw [updW_ne e, hW q hq i' hi']
        by_cases c : q < j
        · rw [if_pos c, if_pos (by omega)]
        · rw [if_neg c, if_neg (by omega)]
    · by_cases e : q = j
      · rw [e, updN_eq]; omega
      · rw [updN_ne e]; exact hρ q hq
    · have nb : ∀ d, (M2 + d = q) = False := fun d => eq_false (by omega)
      have nk : (kO = q) = False := eq_false (by omega)
      simp only [↓R0, R1, simprocAttr, -Int.reduceAbs, nb, nk]
      exact hh2 q hq
end Go.Eng
end
section
set_option linter.unusedVariables false
set_option linter.unusedSimpArgs false
set_option linter.unusedSectionVars false
set_option maxRecDepth 20000
namespace Go.Eng
open Go Go.Proofs Go.IntWalk
def c12 : ICode :=
  (.seq (.reg [qq 4 (.mv (ci 0))]) (.seq (.seq (.reg [qq 6 (.mv (.t 0)), qq 7 (.bin .lss (.t 6) (ci 0)), qq 8 (.mv (.t 7)), ⟨(some 9), (some (8, false)), (.mv (.t 0))⟩, ⟨(some 10), (some (8, false)), (.bin .gtr (.t 9) (ci 100))⟩, qq 11 (.pick (.t 8) (.c (.bool true)) (.t 10)), qq 12 (.mv (.t 11)), ⟨(some 13), (some (12, false)), (.mv (.t 1))⟩, ⟨(some 14), (some (12, false)), (.lensl (.t 13))⟩, ⟨(some 15), (some (12, false)), (.bin .gtr (.t 14) (ci 100))⟩, qq 16 (.pick (.t 12) (.c (.bool true)) (.t 15))]) (.cond (.t 16) (.seq (.reg [qq 4 (.mv (ci 6))]) .ret) .skip)) (.seq (.seq (.reg [qq 5 (.mv (ci 0))]) (.block 0 (.loop (.seq (.seq (.reg [qq 17 (.mv (.t 5)), qq 18 (.mv (.t 1)), qq 19 (.lensl (.t 18)), qq 20 (.bin .lss (.t 17) (.t 19))]) (.cond (.t 20) .skip (.exit 0))) (.seq (.block 1 (.seq (.reg [qq 23 (.mv (.t 1)), qq 24 (.mv (.t 5)), qq 25 (.ixsl 5 (.t 23) (.t 24)), qq 26 (.faddr 0 (.t 25)), qq 27 (.load false 1 (.t 26)), qq 28 (.lensl (.t 27)), qq 29 (.mv (.t 0)), qq 30 (.bin .neq (.t 28) (.t 29))]) (.cond (.t 30) (.seq (.reg [qq 4 (.mv (ci 1))]) .ret) .skip))) (.reg [qq 21 (.mv (.t 5)), qq 22 (.bin .add (.t 21) (ci 1)), qq 5 (.mv (.t 22))])))))) (.seq (.reg [qq 4 (.mv (ci 0))]) .ret))))
theorem tr12 : trFun Tryz.prog 12 = some ⟨31, [.t 4], c12⟩ := by kernel_rfl
set_option maxHeartbeats 4000000 in
theorem ok_check24 : SpecOK Tryz.prog 12 (rdS spLCheck) := by
  refine rd_run (env_nil _) mixed tr12 ?_ ?_
  · intro args h h' v hle e
    unfold spLCheck at e ⊢
    split at e
    · split at e
      · rename_i l hb
        simp only [decRows_mono hle hb]; exact e
      · cases e
    · cases e
  intro args v h N hG hN
  unfold spLCheck at hG
  split at hG
  case h_2 => cases hG
  rename_i n sl
  split at hG
  case h_2 => cases hG
  rename_i l hx
  cases hG
  obtain ⟨a, c, rfl⟩ := listAt_sl (dec := decEq h) hx
  refine ⟨by rfl, by simp, ?_⟩
  have dn : ∀ a b : Int, decide (a ≠ b) = !decide (a = b) := fun a b => by by_cases h : a = b <;> simp [h]
  by_cases c1 : n < 0
  · have e : chkL n l = 6 := if_pos (.inl c1)
    rw [e]
    have c1' : (n < 0) = True := eq_true c1
    simp only [c12, G0, Nat.reduceAdd]
    simp only [↓R0, R1, simprocAttr, -Int.reduceAbs, c1', Fin, isEnd, resL, res1]
    exact ⟨_, rfl, rfl, fun k hk => by simp only [ne_nb hk, if_false]⟩
  have c1' : (n < 0) = False := eq_false c1
  by_cases c2 : n > 100
  · have e : chkL n l = 6 := if_pos (.inr (.inl c2))
    rw [e]
    have c2' : (n > 100) = True := eq_true c2
    simp only [c12, G0, Nat.reduceAdd]
    simp only [↓R0, R1, simprocAttr, -Int.reduceAbs, c1', c2', Fin, isEnd, resL, res1]
    exact ⟨_, rfl, rfl, fun k hk => by simp only [ne_nb hk, if_false]⟩
  have c2' : (n > 100) = False := eq_false c2
  by_cases c3 : l.length > 100
  · have e : chkL n l = 6 := if_pos (.inr (.inr c3))
    rw [e]
    have c3' : ((l.length : Int) > 100) = True := eq_true (by omega)
    simp only [c12, G0, Nat.reduceAdd]
    simp only [↓R0, R1, simprocAttr, -Int.reduceAbs, c1', c2', c3', Fin, isEnd, resL, res1]
    exact ⟨_, rfl, rfl, fun k hk => by simp only [ne_nb hk, if_false]⟩
  have c3' : ((l.length : Int) > 100) = False := eq_false (by omega)
  simp only [c12, G0, Nat.reduceAdd]
  simp only [↓R0, R1, simprocAttr, -Int.reduceAbs, c1', c2', c3']
  refine lp_parts (fun q tm hp nx => ∃ i, q + i = l.length ∧ tmget tm 0 = .int .i64 n ∧ tmget tm 1 = .slice a l.length c ∧ tmget tm 5 = .int .i64 (i : Nat) ∧ (∀ j, j < i → ((eqAt l j).coef.length : Int) = n) ∧ hp = h ∧ nx = N + 0) ?_ l.length
    ⟨0, by omega, ?_, ?_, ?_, fun j hj => absurd hj (Nat.not_lt_zero j), rfl, rfl⟩
  rotate_left
  all_goals first | (simp only [↓R0, R1, simprocAttr, -Int.reduceAbs]; done) | (simp only [↓R0, R1, simprocAttr, -Int.reduceAbs]; rfl) | skip
  rintro q tm hp nx ⟨i, hni, t0, t1, t5, hz, rfl, hnx⟩
  rw [hnx]
  clear hnx nx
  by_cases c4 : i < l.length
  case neg =>
    have e : i = l.length := by omega
    subst e
    have c4' : ((l.length : Int) < (l.length : Int)) = False := eq_false (by omega)
    have ev : chkL n l = 0 := by
      unfold chkL
      rw [if_neg (by omega), if_pos fun e he => ?_]
      obtain ⟨j, hj⟩ := List.getElem?_of_mem he
      have hlt := (List.getElem?_eq_some_iff.1 hj).1
      rw [eqAt_some hlt] at hj
      rw [← Option.some.inj hj]
      exact hz j hlt
    rw [ev]
    simp only [↓R0, R1, simprocAttr, -Int.reduceAbs, t0, t1, t5, c4', Fin, isEnd, resL, res1]
    exact ⟨_, rfl, rfl, fun _ _ => trivial⟩
  have c4' : ((i : Int) < (l.length : Int)) = True := eq_true (by omega)
  have w1 : IntKind.i64.wrap ((i : Int) + 1) = ((i + 1 : Nat) : Int) := by rw [i64_in _ (by omega)]; omega
  obtain ⟨k, off, blk, a', n', c'', rfl, hb, q1, q2, hn', hl'⟩ := eq_at hx c4
  have hE5 : (blk.cells.drop (off + i * 5))[0]? = some (.slice a' n' c'') := by
    rw [show (blk.cells.drop (off + i * 5))[0]? = ((blk.cells.drop (off + i * 5)).take 5)[0]? by rw [List.getElem?_take, if_pos (by omega)], q2]; rfl
  rw [List.getElem?_drop] at hE5
  by_cases z : (n' : Int) = n
  · have z' : ((n' : Int) = n) = True := eq_true z
    simp only [↓R0, R1, simprocAttr, -Int.reduceAbs, t0, t1, t5, c4, c4', hb, q1, q2, hE5, dn, z', w1, Bool.not_true, Bool.not_false]
    refine ⟨q - 1, by omega, i + 1, by omega, rfl, fun j hj => ?_⟩
    by_cases e : j = i
    · rw [e, ← hn']; exact z
    · exact hz j (by omega)
  · have z' : ((n' : Int) = n) = False := eq_false z
    have ev : chkL n l = 1 := by
      unfold chkL
      rw [if_neg (by omega), if_neg fun H => z ?_]
      have := H _ (eqAt_mem c4)
      rw [hn']; exact this
    rw [ev]
    simp only [↓R0, R1, simprocAttr, -Int.reduceAbs, t0, t1, t5, c4, c4', hb, q1, q2, hE5, dn, z', w1, Bool.not_true, Bool.not_false, Fin, isEnd, resL, res1]
    exact ⟨_, rfl, rfl, fun _ _ => trivial⟩
def ldE (e : EqR) : Nat := leadN e.coef.length (qsV e.coef)
def clE (e : EqR) (k : Nat) : Prop := ∀ j, j < e.coef.length → j ≠ k → qsV e.coef j = 0
instance {e : EqR} {k : Nat} : Decidable (clE e k) := by unfold clE; infer_instance
def heldF (l : List EqR) (k : Nat) : Nat → Nat → Option Nat
  | 0, _ => none
  | d + 1, i => if ldE (eqAt l i) = k then (if clE (eqAt l i) k then some i else none) else heldF l k d (i + 1)
def cells5 (h : Heap) (sl : Value) (i : Nat) : List Value := match lay 5 h sl with | some cs => (cs.drop (i * 5)).take 5 | none => []
def HdOK (l : List EqR) : Prop := l.length ≤ 1000 ∧ ∀ e ∈ l, e.coef.length ≤ 1000 ∧ eqOk e 8589934592
instance {l : List EqR} : Decidable (HdOK l) := by unfold HdOK; infer_instance
theorem heldF_succ (l : List EqR) (k d i : Nat) : heldF l k (d + 1) i = if ldE (eqAt l i) = k then (if clE (eqAt l i) k then some i else none) else heldF l k d (i + 1) := rfl
open Classical in
noncomputable def spHeld : List Value → Heap → Option NewL
  | [sl, .int .i64 k], h => match decRows h sl with
    | some l => if HdOK l ∧ 0 ≤ k then (match heldF l k.toNat l.length 0 with
      | some i => if okAddr h (cells5 h sl i) then some ⟨0, fun _ => .tuple ⟨[.agg ⟨cells5 h sl i⟩, .bool true]⟩, fun _ => 0, fun _ => 0, fun _ _ => []⟩ else none
      | none => some ⟨0, fun _ => .tuple ⟨[.agg ⟨[.slice none 0 0, .bool false, .string ⟨⟨[]⟩⟩, .string ⟨⟨[]⟩⟩, .int .i64 0]⟩, .bool false]⟩, fun _ => 0, fun _ => 0, fun _ _ => []⟩) else none
    | none => none
  | _, _ => none
theorem cells5_mono {h h' : Heap} (hl : hle h h') {sl : Value} {l : List EqR} (hx : decRows h sl = some l) (i : Nat) : cells5 h' sl i = cells5 h sl i := by
  unfold decRows listAt at hx
  rw [Option.bind_eq_some_iff] at hx
  obtain ⟨cs, e1, _⟩ := hx
  unfold cells5
  rw [lay_mono hl e1, e1]
theorem cells5_at {h : Heap} {a : Option Addr} {c : Nat} {l : List EqR} {i : Nat} (hx : decRows h (.slice a l.length c) = some l) (hi : i < l.length) :
    ∃ k off blk, a = some ⟨k, off, none⟩ ∧ hget h k = some blk ∧ off + i * 5 + 5 ≤ blk.cells.length ∧ (blk.cells.drop (off + i * 5)).take 5 = cells5 h (.slice a l.length c) i := by
  unfold decRows listAt at hx
  rw [Option.bind_eq_some_iff] at hx
  obtain ⟨cs, e1, _⟩ := hx
  obtain ⟨k, off, blk, rfl, hb, _, hle, rfl⟩ := lay_pos e1 (by omega)
  refine ⟨k, off, blk, rfl, hb, by omega, ?_⟩
  unfold cells5
  rw [e1]
  simp only
  rw [List.drop_take, List.take_take, List.drop_drop, Nat.min_eq_left (by omega)]
def c20 : ICode :=
  (.seq (.reg [qq 4 (.alloc 37 5 [(.slice none 0 0), (.bool false), e0, e0, (.int .i64 0)]), qq 5 (.mv (.c (.bool false)))]) (.seq (.seq (.reg [qq 6 (.mv (ci 0))]) (.block 0 (.loop (.seq (.seq (.reg [qq 8 (.mv (.t 6)), qq 9 (.mv (.t 0)), qq 10 (.lensl (.t 9)), qq 11 (.bin .lss (.t 8) (.t 10))]) (.cond (.t 11) .skip (.exit 0))) (.seq (.block 1 (.seq (.seq (.reg [qq 14 (.mv (.t 0)), qq 15 (.mv (.t 6)), qq 16 (.ixsl 5 (.t 14) (.t 15)), qq 17 (.faddr 0 (.t 16)), qq 18 (.load false 1 (.t 17)), qq 19 (.call 42 [(.t 18)]), qq 20 (.mv (.t 1)), qq 21 (.bin .neq (.t 19) (.t 20))]) (.cond (.t 21) (.exit 1) .skip)) (.seq (.seq (.reg [qq 7 (.mv (ci 0))]) (.block 2 (.loop (.seq (.seq (.reg [qq 22 (.mv (.t 7)), qq 23 (.mv (.t 0)), qq 24 (.mv (.t 6)), qq 25 (.ixsl 5 (.t 23) (.t 24)), qq 26 (.faddr 0 (.t 25)), qq 27 (.load false 1 (.t 26)), qq 28 (.lensl (.t 27)), qq 29 (.bin .lss (.t 22) (.t 28))]) (.cond (.t 29) .skip (.exit 2))) (.seq (.block 3 (.seq (.reg [qq 32 (.mv (.t 7)), qq 33 (.mv (.t 1)), qq 34 (.bin .neq (.t 32) (.t 33)), qq 35 (.mv (.t 34)), ⟨(some 36), (some (35, true)), (.mv (.t 0))⟩, ⟨(some 37), (some (35, true)), (.mv (.t 6))⟩, ⟨(some 38), (some (35, true)), (.ixsl 5 (.t 36) (.t 37))⟩, ⟨(some 39), (some (35, true)), (.faddr 0 (.t 38))⟩, ⟨(some 40), (some (35, true)), (.load false 1 (.t 39))⟩, ⟨(some 41), (some (35, true)), (.mv (.t 7))⟩, ⟨(some 42), (some (35, true)), (.ixsl 3 (.t 40) (.t 41))⟩, ⟨(some 43), (some (35, true)), (.load true 3 (.t 42))⟩, ⟨(some 44), (some (35, true)), (.call 43 [(.t 43)])⟩, ⟨(some 45), (some (35, true)), (.bin .neq (.t 44) (ci 0))⟩, qq 46 (.pick (.t 35) (.t 45) (.c (.bool false)))]) (.cond (.t 46) (.seq (.reg [qq 47 (.build [(.slice none 0 0), (.bool false), e0, e0, (.int .i64 0)] []), qn (.store 5 (.t 4) (.t 47)), qq 5 (.mv (.c (.bool false)))]) .ret) .skip))) (.reg [qq 30 (.mv (.t 7)), qq 31 (.bin .add (.t 30) (ci 1)), qq 7 (.mv (.t 31))])))))) (.seq (.reg [qq 48 (.mv (.t 0)), qq 49 (.mv (.t 6)), qq 50 (.ixsl 5 (.t 48) (.t 49)), qq 51 (.load true 5 (.t 50)), qn (.store 5 (.t 4) (.t 51)), qq 5 (.mv (.c (.bool true)))]) .ret)))) (.reg [qq 12 (.mv (.t 6)), qq 13 (.bin .add (.t 12) (ci 1)), qq 6 (.mv (.t 13))])))))) (.seq (.reg [qq 52 (.build [(.slice none 0 0), (.bool false), e0, e0, (.int .i64 0)] []), qn (.store 5 (.t 4) (.t 52)), qq 5 (.mv (.c (.bool false)))]) .ret)))
theorem tr20 : trFun Tryz.prog 20 = some ⟨53, [.cell 4 true 5, .t 5], c20⟩ := by kernel_rfl
set_option maxHeartbeats 16000000 in
theorem ok_held24 : SpecOK Tryz.prog 20 (nwL spHeld) := by
  refine newL_run (env_cons ok_lead24 (env_cons ok_r3Sign (env_nil _))) mixed tr20 ?_ ?_
  · intro args h h' r hle e
    unfold spHeld at e ⊢
    split at e
    · split at e
      · rename_i l hb
        simp only [decRows_mono hle hb]
        split at e
        · rename_i z
          rw [if_pos z]
          split at e
          · rename_i i hi
            rw [cells5_mono hle hb]
            split at e
            · rename_i w; rw [if_pos (okAddr_mono hle w)]; exact e
            · cases e
          · exact e
        · cases e
      · cases e
    · cases e
  intro args h N r hG hN
  unfold spHeld at hG
  split at hG
  case h_2 => cases hG
  rename_i sl kz
  split at hG
  case h_2 => cases hG
  rename_i l hx
  split at hG
  case isFalse => cases hG
  rename_i hs
  obtain ⟨ho, k0⟩ := hs
  obtain ⟨k, rfl⟩ := Int.eq_ofNat_of_zero_le k0
  rw [Int.toNat_natCast] at hG
  obtain ⟨a, c, rfl⟩ := listAt_sl (dec := decEq h) hx
  have hpar : r.Par h := by
    split at hG
    · rename_i i hi
      split at hG
      case isFalse => cases hG
      rename_i oa
      cases hG
      have hil : i < l.length := by
        have key : ∀ d i0 i, heldF l k d i0 = some i → i < i0 + d := by
          intro d
          induction d with
          | zero => intro i0 i h; cases h
          | succ d ih =>
            intro i0 i h
            unfold heldF at h
            split at h
            · split at h
              · cases h; omega
              · cases h
            · have := ih _ _ h; omega
        have := key _ _ _ hi; omega
      obtain ⟨k1, off, blk, e1, hb, q1, q2⟩ := cells5_at hx hil
      obtain ⟨k2, off2, blk2, a', n', c'', e2, hb2, p1, p2, _, _⟩ := eq_at hx hil
      rw [e1] at e2
      cases e2
      rw [hb] at hb2
      cases hb2
      rw [p2] at q2
      exact ⟨fun β σ σ' _ b2 => .tup _ _ (.cons _ _ _ _ (okAddr_vr q2.symm rfl oa b2) (.cons _ _ _ _ (.base _ rfl) .nil)), fun β σ σ' _ _ i hi => absurd hi (Nat.not_lt_zero i)⟩
    · cases hG
      exact ⟨fun β σ σ' _ _ => .tup _ _ (.cons _ _ _ _ (.agg _ _ (VRs.of_base rfl)) (.cons _ _ _ _ (.base _ rfl) .nil)), fun β σ σ' _ _ i hi => absurd hi (Nat.not_lt_zero i)⟩
  refine ⟨hpar, by simp, ?_⟩
  clear hpar
  have dn : ∀ a b : Int, decide (a ≠ b) = !decide (a = b) := fun a b => by by_cases h : a = b <;> simp [h]
  have gN : (N + 0 = N) = True := eq_true rfl
  have l1000 := ho.1
  have nN : ∀ q, q < N → (N = q) = False := fun q hq => eq_false (by omega)
  have nb0 : ∀ q, q < N → ∀ d, (N + d = q) = False := fun q hq d => eq_false (by omega)
  have xz : ∀ b, ExtL N h ((N + 0, b) :: h) := fun b q hq => by
    simp only [hget, nb0 q hq 0, if_false]
  simp only [c20, G0, Nat.reduceAdd]
  simp only [↓R0, R1, simprocAttr, -Int.reduceAbs]
  refine lp_parts (fun q tm hp nx => ∃ i, q + i = l.length ∧ tmget tm 0 = .slice a l.length c ∧ tmget tm 1 = .int .i64 k ∧ tmget tm 4 = .pointer (some ⟨N + 0, 0, none⟩) ∧ tmget tm 6 = .int .i64 (i : Nat) ∧ heldF l k l.length 0 = heldF l k (l.length - i) i ∧
      hp = (N + 0, some ⟨37, 5, true, [.slice none 0 0, .bool false, .string ⟨⟨[]⟩⟩, .string ⟨⟨[]⟩⟩, .int .i64 0]⟩) :: h ∧ nx = N + 1) ?_ l.length
    ⟨0, by omega, ?_, ?_, ?_, ?_, rfl, rfl, rfl⟩
  rotate_left
  all_goals first | (simp only [↓R0, R1, simprocAttr, -Int.reduceAbs]; done) | (simp only [↓R0, R1, simprocAttr, -Int.reduceAbs]; rfl) | skip
  rintro q tm hp nx ⟨i, hni, t0, t1, t4, t6, hz, rfl, hnx⟩
  rw [hnx]
  clear hnx nx
  by_cases c1 : i < l.length
  case neg =>
    have e : i = l.length := by omega
    subst e
    have c1' : ((l.length : Int) < (l.length : Int)) = False := eq_false (by omega)
    rw [hz, Nat.sub_self] at hG
    have hG : some _ = some r := hG
    cases hG
    simp only [↓R0, R1, simprocAttr, -Int.reduceAbs, t0, t1, t4, t6, c1', FinL, isEnd, resL, res1]
    refine ⟨fun i => i, _, fun i hi => absurd hi (Nat.not_lt_zero i), fun i j hi => absurd hi (Nat.not_lt_zero i), rfl, rfl, fun i hi => absurd hi (Nat.not_lt_zero i), fun q hq => ?_⟩
    have nb := nb0 q hq
    have nN := nN q hq
    simp only [↓R0, R1, simprocAttr, -Int.reduceAbs, nb, nN]
  have c1' : ((i : Int) < (l.length : Int)) = True := eq_true (by omega)
  have w1 : IntKind.i64.wrap ((i : Int) + 1) = ((i + 1 : Nat) : Int) := by rw [i64_in _ (by omega)]; omega
  rw [show l.length - i = (l.length - (i + 1)) + 1 by omega, heldF_succ] at hz
  obtain ⟨k1, off, blk, a', n', c'', rfl, hb, q1, q2, hn', hl'⟩ := eq_at hx c1
  have hk := hN _ _ hb
  have nk := nN _ hk
  have nk0 := nb0 _ hk
  have hem := eqAt_mem c1
  have hoe := ho.2 _ hem
  have hE5 : (blk.cells.drop (off + i * 5))[0]? = some (.slice a' n' c'') := by
    rw [show (blk.cells.drop (off + i * 5))[0]? = ((blk.cells.drop (off + i * 5)).take 5)[0]? by rw [List.getElem?_take, if_pos (by omega)], q2]; rfl
  rw [List.getElem?_drop] at hE5
  have le : ∀ b, spLead [.slice a' n' c''] ((N + 0, b) :: h) = some (.int .i64 (ldE (eqAt l i))) := fun b => by
    rw [lead_of (ext_rats hN hl' (xz b)) (by omega) hoe.2.1]; rfl
  by_cases c2 : ldE (eqAt l i) = k
  case neg =>
    have c2' : ((ldE (eqAt l i) : Int) = (k : Int)) = False := eq_false (by omega)
    have c2'' : (ldE (eqAt l i) = k) = False := eq_false c2
    rw [if_neg c2] at hz
    simp only [↓R0, R1, simprocAttr, -Int.reduceAbs, rdS, t0, t1, t4, t6, c1, c1', hb, nk, nk0, q1, q2, hE5, le, dn, c2', c2'', w1, Bool.not_true, Bool.not_false]
    exact ⟨q - 1, by omega, i + 1, by omega, rfl, hz⟩
  have c2' : ((ldE (eqAt l i) : Int) = (k : Int)) = True := eq_true (by omega)
  have c2'' : (ldE (eqAt l i) = k) = True := eq_true c2
  rw [if_pos c2] at hz
  obtain ⟨k3, off3, blk3, e3, hb3, p1, p2⟩ := cells5_at hx c1
  cases e3
  rw [hb] at hb3
  cases hb3
  obtain ⟨C5, hC5⟩ : ∃ x, x = cells5 h (.slice (some ⟨k1, off, none⟩) l.length c) i := ⟨_, rfl⟩
  rw [← hC5] at p2
  have eC5 : C5 = .slice a' n' c'' :: (eqAt l i).tl := by rw [← p2, q2]
  have c5l : C5.length = 5 := by rw [eC5]; rfl
  have c5o : C5.all okCell = true := by rw [eC5]; rfl
  have c5t : C5.take 5 = C5 := List.take_of_length_le (by omega)
  have c5s : setR [.slice none 0 0, .bool false, .string ⟨⟨[]⟩⟩, .string ⟨⟨[]⟩⟩, .int .i64 0] 0 C5 = C5 := by
    match C5, c5l with
    | [_, _, _, _, _], _ => rfl
  clear eC5
  simp only [↓R0, R1, simprocAttr, -Int.reduceAbs, rdS, t0, t1, t4, t6, c1, c1', hb, nk, nk0, q1, q2, hE5, le, dn, c2', c2'', w1, Bool.not_true, Bool.not_false]
  refine lp_parts (fun d tm hp nx => ∃ j, d + j = n' ∧ tmget tm 0 = .slice (some ⟨k1, off, none⟩) l.length c ∧ tmget tm 1 = .int .i64 k ∧ tmget tm 4 = .pointer (some ⟨N + 0, 0, none⟩) ∧ tmget tm 6 = .int .i64 (i : Nat) ∧ tmget tm 7 = .int .i64 (j : Nat) ∧ (∀ j', j' < j → j' ≠ k → qsV (eqAt l i).coef j' = 0) ∧
      hp = (N + 0, some ⟨37, 5, true, [.slice none 0 0, .bool false, .string ⟨⟨[]⟩⟩, .string ⟨⟨[]⟩⟩, .int .i64 0]⟩) :: h ∧ nx = N + 1) ?_ n'
    ⟨0, by omega, ?_, ?_, ?_, ?_, ?_, fun j hj => absurd hj (Nat.not_lt_zero j), rfl, rfl⟩
  rotate_left
  all_goals first | (simp only [↓R0, R1, simprocAttr, -Int.reduceAbs, t0, t1, t4, t6]; done) | (simp only [↓R0, R1, simprocAttr, -Int.reduceAbs, t0, t1, t4, t6]; rfl) | skip
  clear t0 t1 t4 t6
  rintro d tm hp nx ⟨j, hd, t0, t1, t4, t6, t7, hj, rfl, hnx⟩
  rw [hnx]
  clear hnx nx
  by_cases d1 : j < n'
  case neg =>
    have e : j = n' := by omega
    subst e
    have d1' : ((j : Int) < (j : Int)) = False := eq_false (by omega)
    have cl : clE (eqAt l i) k := fun j' h1 h2 => hj j' (by omega) h2
    rw [if_pos cl] at hz
    rw [hz] at hG
    simp only [← hC5] at hG
    split at hG
    case isFalse => cases hG
    cases hG
    simp only [↓R0, R1, simprocAttr, -Int.reduceAbs, t0, t1, t4, t6, t7, d1', c1, c1', hb, nk, nk0, q1, p2, hE5, c5l, c5o, c5t, c5s, FinL, isEnd, resL, res1]
    refine ⟨fun i => i, _, fun i hi => absurd hi (Nat.not_lt_zero i), fun i j hi => absurd hi (Nat.not_lt_zero i), rfl, rfl, fun i hi => absurd hi (Nat.not_lt_zero i), fun q hq => ?_⟩
    have nb := nb0 q hq
    have nN := nN q hq
    simp only [↓R0, R1, simprocAttr, -Int.reduceAbs, nb, nN]
  have d1' : ((j : Int) < (n' : Int)) = True := eq_true (by omega)
  have wj : IntKind.i64.wrap ((j : Int) + 1) = ((j + 1 : Nat) : Int) := by rw [i64_in _ (by omega)]; omega
  by_cases d2 : j = k
  · have d2' : ((j : Int) = (k : Int)) = True := eq_true (by omega)
    have d2'' : (j = k) = True := eq_true d2
    simp only [↓R0, R1, simprocAttr, -Int.reduceAbs, t0, t1, t4, t6, t7, d1, d1', c1, c1', hb, nk, nk0, q1, hE5, dn, d2', d2'', wj, Bool.not_true, Bool.not_false]
    refine ⟨d - 1, by omega, j + 1, by omega, rfl, fun j' h1 h2 => ?_⟩
    exact hj j' (by omega) h2
  have d2' : ((j : Int) = (k : Int)) = False := eq_false (by omega)
  have d2'' : (j = k) = False := eq_false d2
  obtain ⟨k4, f1, B1, rfl, h1, r1, r2⟩ := rq_at hl' d1
  have hk4 := hN _ _ h1
  have nk4 := nN _ hk4
  have nk40 := nb0 _ hk4
  have g1 : (rqAt (eqAt l i).coef j).cells.length = 3 := rfl
  have g2 : (rqAt (eqAt l i).coef j).cells.all okCell = true := rfl
  have g3 := sgn3 (hoe.2.1 _ (rqAt_mem (i := j) (show j < (eqAt l i).coef.length by omega)))
  have g4 := sg_v (rqAt (eqAt l i).coef j)
  have ev : (rqAt (eqAt l i).coef j).v = qsV (eqAt l i).coef j := rfl
  rw [ev] at g4
  have d1n : (j < n') = True := eq_true (by omega)
  generalize (rqAt (eqAt l i).coef j).cells = CA at *
  by_cases z : qsV (eqAt l i).coef j = 0
  · have z' := g4.trans (eq_true z)
    simp only [↓R0, R1, simprocAttr, -Int.reduceAbs, t0, t1, t4, t6, t7, d1n, d1', c1, c1', hb, nk, nk0, q1, hE5, dn, d2', d2'', h1, nk4, nk40, r1, r2, g1, g2, g3, z', wj, Bool.not_true, Bool.not_false]
    refine ⟨d - 1, by omega, j + 1, by omega, rfl, fun j' h1 h2 => ?_⟩
    by_cases e : j' = j
    · rw [e]; exact z
    · exact hj j' (by omega) h2
  · have z' := g4.trans (eq_false z)
    have cl : ¬ clE (eqAt l i) k := fun H => z (H j (by omega) d2)
    rw [if_neg cl] at hz
    rw [hz] at hG
    cases hG
    have zst : ∀ x : List Value, x = [.slice none 0 0, .bool false, .string ⟨⟨[]⟩⟩, .string ⟨⟨[]⟩⟩, .int .i64 0] → setR x 0 [.slice none 0 0, .bool false, .string ⟨⟨[]⟩⟩, .string ⟨⟨[]⟩⟩, .int .i64 0] = x := fun x e => by rw [e]; rfl
    simp only [↓R0, R1, simprocAttr, -Int.reduceAbs, t0, t1, t4, t6, t7, d1n, d1', c1, c1', hb, nk, nk0, q1, hE5, dn, d2', d2'', h1, nk4, nk40, r1, r2, g1, g2, g3, z', wj, Bool.not_true, Bool.not_false, FinL, isEnd, resL, res1]
    refine ⟨fun i => i, _, fun i hi => absurd hi (Nat.not_lt_zero i), fun i j hi => absurd hi (Nat.not_lt_zero i), rfl, rfl, fun i hi => absurd hi (Nat.not_lt_zero i), fun q hq => ?_⟩
    have nb := nb0 q hq
    have nN := nN q hq
    simp only [↓R0, R1, simprocAttr, -Int.reduceAbs, nb, nN]
end Go.Eng
end
section
set_option linter.unusedVariables false
set_option linter.unusedSimpArgs false
set_option linter.unusedSectionVars false
set_option maxRecDepth 20000
namespace Go.Eng
open Go Go.Proofs Go.IntWalk
theorem reduced_call {h : Heap} {n b : Nat} {l : List EqR} {sl : Value} (hx : decRows h sl = some l) (hs : RedOK n l) :
    ∃ D mm, nwL spReduced [.int .i64 n, sl] h b = some (.tuple ⟨[.slice (some ⟨b, 0, none⟩) (refRed n (outR n l)).1.length (refRed n (outR n l)).1.length, .bool (refRed n (outR n l)).2]⟩, D, mm) ∧ (∀ q, q < b → hget (D ++ h) q = hget h q) ∧
      EqH (D ++ h) b (b + mm) b n (refRed n (outR n l)).1.length (fun j => b + (j + 1)) (rowAt (refRed n (outR n l)).1) := by
  obtain ⟨NL, eN⟩ : ∃ x, x = redNL n (refRed n (outR n l)) := ⟨_, rfl⟩
  have e0 : spReduced [.int .i64 n, sl] h = some NL := by
    unfold spReduced
    simp only [hx, Int.toNat_natCast]
    rw [if_pos ⟨by omega, hs⟩, eN]
  have e : nwL spReduced [.int .i64 n, sl] h b = some (NL.val (b + ·), newH NL (b + ·) NL.m, NL.m) := by
    unfold nwL
    rw [e0]; rfl
  have get := newH_get (r := NL) (σ := (b + ·)) (h := h) NL.m (fun i j _ _ e => by change b + i = b + j at e; omega)
  have old : ∀ q, q < b → hget (newH NL (b + ·) NL.m ++ h) q = hget h q := fun q hq => newH_old NL.m (fun i _ => by show b + i ≠ q; omega)
  generalize refRed n (outR n l) = s at *
  have em : NL.m = 1 + s.1.length := by rw [eN]; rfl
  refine ⟨_, _, by rw [e]; refine congrArg some ?_; rw [eN]; rfl, by rw [eN] at old; exact old, ?_⟩
  rw [eN] at get
  change ∀ i, i < 1 + s.1.length → _ at get
  constructor
  · have := get 0 (by omega)
    change hget _ b = _ at this
    refine ⟨false, ?_⟩
    rw [this]; rfl
  · intro j hj
    have := get (j + 1) (by omega)
    change hget _ (b + (j + 1)) = _ at this
    refine ⟨false, ?_⟩
    rw [this]
    show some (⟨if j + 1 = 0 then 37 else 35, if j + 1 = 0 then 5 else 3, false, if j + 1 = 0 then blkC (pvF (fun j => b + (j + 1)) n (rowAt s.1)) s.1.length else rqs (fq (rowAt s.1 (j + 1 - 1)) n)⟩ : Blk) = _
    rw [if_neg (by omega), if_neg (by omega), if_neg (by omega)]; rfl
  · intro i j _ _ e; omega
  · intro j _; omega
  · intro j hj
    show b ≤ b + (j + 1) ∧ b + (j + 1) < b + (1 + s.1.length)
    omega
  · show b ≤ b ∧ b < b + (1 + s.1.length)
    omega
theorem heldF_R {n k : Nat} {rows : List Row} : ∀ {d i : Nat}, i + d = rows.length →
    (∃ t, heldF (canL n rows.length (rowAt rows)) k d i = some t ∧ t < rows.length ∧ heldR n k (rows.drop i) = some (rowAt rows t)) ∨ (heldF (canL n rows.length (rowAt rows)) k d i = none ∧ heldR n k (rows.drop i) = none)
  | 0, i, h => .inr ⟨rfl, by rw [List.drop_of_length_le (by omega)]; rfl⟩
  | d + 1, i, h => by
    have hi : i < rows.length := by omega
    have e1 : rows.drop i = rowAt rows i :: rows.drop (i + 1) := by
      rw [List.drop_eq_getElem_cons hi]
      have := rowAt_some hi
      rw [List.getElem?_eq_getElem hi] at this
      rw [Option.some.inj this]
    have ld : ldE (canE n (rowAt rows i)) = leadN n (rowAt rows i) := by
      unfold ldE
      have : (canE n (rowAt rows i)).coef.length = n := fq_len _ _
      rw [this]
      exact lead_congr fun j hj => fq_v hj
    have cl : clE (canE n (rowAt rows i)) k ↔ ∀ j, j < n → j ≠ k → rowAt rows i j = 0 := by
      unfold clE
      have : (canE n (rowAt rows i)).coef.length = n := fq_len _ _
      rw [this]
      constructor
      · intro H j h1 h2; rw [← fq_v (f := rowAt rows i) h1]; exact H j h1 h2
      · intro H j h1 h2
        have := fq_v (f := rowAt rows i) h1
        show qsV (fq (rowAt rows i) n) j = 0
        rw [this]; exact H j h1 h2
    rw [heldF_succ, canL_at hi, ld, e1]
    unfold heldR
    by_cases c : leadN n (rowAt rows i) = k
    · rw [if_pos c, if_pos c]
      by_cases c2 : ∀ j, j < n → j ≠ k → rowAt rows i j = 0
      · rw [if_pos (cl.2 c2), if_pos c2]
        exact .inl ⟨i, rfl, hi, rfl⟩
      · rw [if_neg (fun x => c2 (cl.1 x)), if_neg c2]
        exact .inr ⟨rfl, rfl⟩
    · rw [if_neg c, if_neg c]
      exact heldF_R (by omega)
theorem cells5_EqH {hp : Heap} {lo hi kO n p i : Nat} {ρ : Nat → Nat} {Rw : Nat → Row} (H : EqH hp lo hi kO n p ρ Rw) (hi1 : i < p) : cells5 hp (.slice (some ⟨kO, 0, none⟩) p p) i = PV (ρ i) n (Rw i) := by
  obtain ⟨x, hb⟩ := H.hd
  have len : (blkC (pvF ρ n Rw) p).length = p * 5 := blkC_len fun i _ => PV_len _ _ _
  have la : lay 5 hp (.slice (some ⟨kO, 0, none⟩) p p) = some (blkC (pvF ρ n Rw) p) := by
    obtain ⟨d, hd⟩ : ∃ d, p = d + 1 := ⟨p - 1, by omega⟩
    unfold lay
    rw [hd] at hb len ⊢
    simp only [hb]
    rw [if_pos ⟨by omega, by omega⟩, List.drop_zero, List.take_of_length_le (by omega)]
  unfold cells5
  rw [la]
  simp only
  rw [blkC_at (f := pvF ρ n Rw) (w := 5) (fun i _ => PV_len _ _ _) hi1]; rfl
theorem held_of {hp : Heap} {lo hi kO n k : Nat} {ρ : Nat → Nat} {rows : List Row} (H : EqH hp lo hi kO n rows.length ρ (rowAt rows)) (n0 : 0 < n) (n8 : n ≤ 100) (p8 : rows.length ≤ 1000) (hB : ∀ q, q < rows.length → ∀ j, j ≤ n → RB (rowAt rows q j) 8589934592) :
    (∃ i, i < rows.length ∧ heldR n k rows = some (rowAt rows i) ∧ spHeld [.slice (some ⟨kO, 0, none⟩) rows.length rows.length, .int .i64 k] hp = some ⟨0, fun _ => .tuple ⟨[.agg ⟨PV (ρ i) n (rowAt rows i)⟩, .bool true]⟩, fun _ => 0, fun _ => 0, fun _ _ => []⟩) ∨
    (heldR n k rows = none ∧ spHeld [.slice (some ⟨kO, 0, none⟩) rows.length rows.length, .int .i64 k] hp = some ⟨0, fun _ => .tuple ⟨[.agg ⟨[.slice none 0 0, .bool false, .string ⟨⟨[]⟩⟩, .string ⟨⟨[]⟩⟩, .int .i64 0]⟩, .bool false]⟩, fun _ => 0, fun _ => 0, fun _ _ => []⟩) := by
  have hx := H.rows (fun _ => n0)
  have ok : HdOK (canL n rows.length (rowAt rows)) := by
    refine ⟨by rw [canL_len]; exact p8, fun e he => ?_⟩
    unfold canL at he
    obtain ⟨q, hq, rfl⟩ := List.mem_map.1 he
    exact ⟨by show (fq _ _).length ≤ _; rw [fq_len]; omega, canE_ok (hB q (List.mem_range.1 hq))⟩
  unfold spHeld
  simp only [hx, Int.toNat_natCast]
  rw [if_pos ⟨ok, by omega⟩, canL_len]
  rcases heldF_R (n := n) (k := k) (rows := rows) (d := rows.length) (i := 0) (by omega) with ⟨t, h1, h2, h3⟩ | ⟨h1, h2⟩
  · rw [List.drop_zero] at h3
    refine .inl ⟨t, h2, h3, ?_⟩
    rw [h1]
    simp only
    rw [cells5_EqH H h2]
    obtain ⟨y, hr⟩ := H.row t h2
    exact if_pos (by show hget _ _ ≠ none; rw [hr]; simp)
  · rw [List.drop_zero] at h2
    refine .inr ⟨h2, ?_⟩
    rw [h1]
theorem valsR_up {n : Nat} {l : List Row} {k : Nat} (h : heldR n k l = none) : ∀ d, valsR n l (k + 1 + d) = none
  | 0 => by
    show (match valsR n l k, heldR n k l with | some v, some o => some (v ++ [o n]) | _, _ => none) = none
    rw [h]; cases valsR n l k <;> rfl
  | d + 1 => by
    show (match valsR n l (k + 1 + d), heldR n (k + 1 + d) l with | some v, some o => some (v ++ [o n]) | _, _ => none) = none
    rw [valsR_up h d]
theorem valsR_succ {n : Nat} {l : List Row} {k : Nat} {v : List Rat} {o : Row} (h : valsR n l k = some v) (h2 : heldR n k l = some o) : valsR n l (k + 1) = some (v ++ [o n]) := by
  show (match valsR n l k, heldR n k l with | some v, some o => some (v ++ [o n]) | _, _ => none) = _
  rw [h, h2]
def SysR (n : Int) (l : List EqR) : Prop := chkL n l = 0 → RedOK n.toNat l
instance {n : Int} {l : List EqR} : Decidable (SysR n l) := by unfold SysR; infer_instance
def refS (n : Nat) (l : List EqR) : List Row × Bool := refRed n (outR n l)
def solveRL (n : Int) (l : List EqR) : Int × List Rat := if chkL n l = 0 then solveR 14 17 n.toNat (refS n.toNat l) else (chkL n l, [])
def freeRL (n : Int) (l : List EqR) : List Nat := if chkL n l = 0 then freeR n.toNat (refS n.toNat l) else []
def rankRL (n : Int) (l : List EqR) : Nat := if chkL n l = 0 then (refS n.toNat l).1.length else 0
def solNR (r : Int × List Rat) : NewL := ⟨1, fun σ => .tuple ⟨[.slice (some ⟨σ 0, 0, none⟩) r.2.length r.2.length, .int .i64 r.1]⟩, fun _ => 35, fun _ => 3, fun _ _ => ratC r.2⟩
theorem solNR_par (r : Int × List Rat) (h : Heap) : (solNR r).Par h :=
  ⟨fun β σ σ' b1 _ => .tup _ _ (.cons _ _ _ _ (VR.sl (σ 0) 0 _ _ ⟨σ' 0, 0, []⟩ (b1 0 Nat.one_pos)) (.cons _ _ _ _ (.base _ rfl) .nil)), fun β σ σ' _ _ i hi => VRs.of_base (ratC_base _)⟩
def intNR (l : List Nat) : NewL := ⟨1, fun σ => .slice (some ⟨σ 0, 0, none⟩) l.length l.length, fun _ => 3, fun _ => 1, fun _ _ => intC l⟩
theorem intNR_par (l : List Nat) (h : Heap) : (intNR l).Par h :=
  ⟨fun β σ σ' b1 _ => VR.sl (σ 0) 0 _ _ ⟨σ' 0, 0, []⟩ (b1 0 Nat.one_pos), fun β σ σ' _ _ i hi => VRs.of_base (intC_base l)⟩
def spSolveR : List Value → Heap → Option NewL
  | [.int .i64 n, sl], h => match decRows h sl with
    | some l => if SysR n l then some (solNR (solveRL n l)) else none
    | none => none
  | _, _ => none
def spFreeR : List Value → Heap → Option NewL
  | [.int .i64 n, sl], h => match decRows h sl with
    | some l => if SysR n l then some (intNR (freeRL n l)) else none
    | none => none
  | _, _ => none
def spRankR : List Value → Heap → Option Value
  | [.int .i64 n, sl], h => match decRows h sl with
    | some l => if SysR n l then some (.int .i64 (rankRL n l)) else none
    | none => none
  | _, _ => none
theorem red_RdB {n : Nat} {l : List EqR} (hs : RedOK n l) : RdB n (refS n l).1 := by
  obtain ⟨n8, m100, hlen, hok⟩ := hs
  have key : ∀ t, t ≤ l.length → RdB n (refRed n ((outR n l).take t)).1 := by
    intro t
    induction t with
    | zero => intro _; rw [List.take_zero]; exact fun p hp => absurd hp (Nat.not_lt_zero p)
    | succ t ih =>
      intro ht
      rw [red_take (by rw [outR_len]; omega)]
      refine step_RB (red_piv n _) (ih (by omega)) fun j hj => ?_
      rw [outR_at (by omega)]
      have he := hok _ (eqAt_mem (l := l) (i := t) (by omega))
      have hl := hlen _ (eqAt_mem (l := l) (i := t) (by omega))
      by_cases c : j < n
      · rw [rowE_lt c]
        exact (RQ.ok.rb (k := 4) (he.1 _ (rqAt_mem (by omega)))).le (by omega)
      · have : j = n := by omega
        rw [this, rowE_n]
        exact (RQ.ok.rb (k := 4) he.2).le (by omega)
  have := key l.length (Nat.le_refl _)
  rw [show (outR n l).take l.length = outR n l by rw [← outR_len n l, List.take_length]] at this
  exact this
theorem refS_len {n : Nat} (l : List EqR) : (refS n l).1.length ≤ n := piv_len (red_piv n _)
def c14 : ICode :=
  (.seq (.reg [qq 4 (.mv (ci 0))]) (.seq (.seq (.reg [qq 7 (.mv (.t 0)), qq 8 (.mv (.t 1)), qq 9 (.call 12 [(.t 7), (.t 8)]), qq 10 (.bin .neq (.t 9) (ci 0))]) (.cond (.t 10) (.seq (.reg [qq 4 (.mv (ci 0))]) .ret) .skip)) (.seq (.reg [qq 12 (.mv (.t 0)), qq 13 (.mv (.t 1)), qq 14 (.call 19 [(.t 12), (.t 13)]), qq 11 (.mv (.t 14)), qq 15 (.ext (.t 11) 0), qq 16 (.ext (.t 11) 1), qq 5 (.mv (.t 15)), qq 6 (.mv (.t 16))]) (.seq (.reg [qq 17 (.mv (.t 5)), qq 18 (.lensl (.t 17)), qq 4 (.mv (.t 18))]) .ret))))
theorem tr14 : trFun Tryz.prog 14 = some ⟨19, [.t 4], c14⟩ := by kernel_rfl
set_option maxHeartbeats 4000000 in
theorem ok_rank24 : SpecOK Tryz.prog 14 (rdS spRankR) := by
  refine rd_run (env_cons ok_check24 (env_cons ok_reduced24 (env_nil _))) mixed tr14 ?_ ?_
  · intro args h h' v hle e
    unfold spRankR at e ⊢
    split at e
    · split at e
      · rename_i l hb
        simp only [decRows_mono hle hb]; exact e
      · cases e
    · cases e
  intro args v h N hG hN
  unfold spRankR at hG
  split at hG
  case h_2 => cases hG
  rename_i n sl
  split at hG
  case h_2 => cases hG
  rename_i l hx
  split at hG
  case isFalse => cases hG
  rename_i hs
  cases hG
  refine ⟨by rfl, by simp, ?_⟩
  have dn : ∀ a b : Int, decide (a ≠ b) = !decide (a = b) := fun a b => by by_cases h : a = b <;> simp [h]
  have ck : spLCheck [.int .i64 n, sl] h = some (.int .i64 (chkL n l)) := by unfold spLCheck; simp only [hx]
  by_cases c0 : chkL n l = 0
  case neg =>
    have e : rankRL n l = 0 := if_neg c0
    have c0' : (chkL n l = 0) = False := eq_false c0
    rw [e]
    simp only [c14, G0, Nat.reduceAdd]
    simp only [↓R0, R1, simprocAttr, -Int.reduceAbs, rdS, ck, c0', dn, Bool.not_false, Bool.not_true, Fin, isEnd, resL, res1]
    exact ⟨_, rfl, rfl, fun k hk => by simp only [ne_nb hk, if_false]⟩
  rw [c0] at ck
  have e : rankRL n l = (refS n.toNat l).1.length := if_pos c0
  rw [e]
  obtain ⟨n, rfl⟩ := Int.eq_ofNat_of_zero_le (chk0 c0).1
  have pk := hs c0
  rw [Int.toNat_natCast] at *
  obtain ⟨D, mm, kc, gq, H⟩ := reduced_call (b := N + 0) hx pk
  obtain ⟨M, hM⟩ : ∃ M, M = N + mm := ⟨_, rfl⟩
  have eM : N + 0 + mm = M + 0 := by omega
  generalize eHP : D ++ h = HP at *
  change nwL spReduced [.int .i64 n, sl] h (N + 0) = some (.tuple ⟨[.slice (some ⟨N + 0, 0, none⟩) (refS n l).1.length (refS n l).1.length, .bool (refS n l).2]⟩, D, mm) at kc
  have ac : ∀ (d : Nat) (tm : List (Nat × Value)) (V : Value) (K : St → Prop), @aft (some d) (some (V, D, mm)) ⟨(⟨tm, h, N + 0⟩, K)⟩ = K ⟨(d, V) :: tm, HP, M + 0⟩ := fun _ _ _ _ => by rw [← eM, ← eHP]; exact propext Iff.rfl
  simp only [c14, G0, Nat.reduceAdd]
  simp only [↓R0, R1, simprocAttr, -Int.reduceAbs, rdS, ck, kc, ac, dn, Bool.not_false, Bool.not_true, Fin, isEnd, resL, res1]
  exact ⟨_, rfl, rfl, gq⟩
def c7 : ICode :=
  (.seq (.reg [qq 4 (.mv (.c (.slice none 0 0))), qq 5 (.mv (ci 0))]) (.seq (.reg [qq 13 (.mv (.t 0)), qq 14 (.mv (.t 1)), qq 15 (.call 12 [(.t 13), (.t 14)]), qq 6 (.mv (.t 15))]) (.seq (.seq (.reg [qq 16 (.mv (.t 6)), qq 17 (.bin .neq (.t 16) (ci 0))]) (.cond (.t 17) (.seq (.reg [qq 18 (.bslice 35 3 0 [] []), qq 19 (.mv (.t 6)), qq 4 (.mv (.t 18)), qq 5 (.mv (.t 19))]) .ret) .skip)) (.seq (.reg [qq 21 (.mv (.t 0)), qq 22 (.mv (.t 1)), qq 23 (.call 19 [(.t 21), (.t 22)]), qq 20 (.mv (.t 23)), qq 24 (.ext (.t 20) 0), qq 25 (.ext (.t 20) 1), qq 7 (.mv (.t 24)), qq 8 (.mv (.t 25))]) (.seq (.seq (.reg [qq 26 (.mv (.t 8)), qq 27 (.un .not (.t 26))]) (.cond (.t 27) (.seq (.reg [qq 28 (.bslice 35 3 0 [] []), qq 4 (.mv (.t 28)), qq 5 (.mv (ci 14))]) .ret) .skip)) (.seq (.reg [qq 29 (.bslice 35 3 0 [] []), qq 9 (.mv (.t 29))]) (.seq (.seq (.reg [qq 10 (.mv (ci 0))]) (.block 0 (.loop (.seq (.seq (.reg [qq 30 (.mv (.t 10)), qq 31 (.mv (.t 0)), qq 32 (.bin .lss (.t 30) (.t 31))]) (.cond (.t 32) .skip (.exit 0))) (.seq (.block 1 (.seq (.reg [qq 36 (.mv (.t 7)), qq 37 (.mv (.t 10)), qq 38 (.call 20 [(.t 36), (.t 37)]), qq 35 (.mv (.t 38)), qq 39 (.ext (.t 35) 0), qq 40 (.ext (.t 35) 1), qq 11 (.alloc 37 5 [(.slice none 0 0), (.bool false), e0, e0, (.int .i64 0)]), qn (.store 5 (.t 11) (.t 39)), qq 12 (.mv (.t 40))]) (.seq (.seq (.reg [qq 41 (.mv (.t 12)), qq 42 (.un .not (.t 41))]) (.cond (.t 42) (.seq (.reg [qq 43 (.bslice 35 3 0 [] []), qq 4 (.mv (.t 43)), qq 5 (.mv (ci 17))]) .ret) .skip)) (.reg [qq 44 (.mv (.t 9)), qq 45 (.faddr 1 (.t 11)), qq 46 (.load true 3 (.t 45)), qq 47 (.bslice 35 3 1 [(.bool false), e0, e0] [(0, 3, (.t 46))]), qq 48 (.app 35 3 40 (.t 44) (.t 47)), qq 9 (.mv (.t 48))])))) (.reg [qq 33 (.mv (.t 10)), qq 34 (.bin .add (.t 33) (ci 1)), qq 10 (.mv (.t 34))])))))) (.seq (.reg [qq 49 (.mv (.t 9)), qq 4 (.mv (.t 49)), qq 5 (.mv (ci 0))]) .ret))))))))
theorem tr7 : trFun Tryz.prog 7 = some ⟨50, [.t 4, .t 5], c7⟩ := by kernel_rfl
set_option maxHeartbeats 16000000 in
theorem ok_solve24 : SpecOK Tryz.prog 7 (nwL spSolveR) := by
  refine newL_run (env_cons ok_check24 (env_cons ok_reduced24 (env_cons ok_held24 (env_nil _)))) mixed tr7 ?_ ?_
  · intro args h h' r hle e
    unfold spSolveR at e ⊢
    split at e
    · split at e
      · rename_i l hb
        simp only [decRows_mono hle hb]; exact e
      · cases e
    · cases e
  intro args h N r hG hN
  unfold spSolveR at hG
  split at hG
  case h_2 => cases hG
  rename_i n sl
  split at hG
  case h_2 => cases hG
  rename_i l hx
  split at hG
  case isFalse => cases hG
  rename_i hs
  cases hG
  refine ⟨solNR_par _ _, by simp, ?_⟩
  have dn : ∀ a b : Int, decide (a ≠ b) = !decide (a = b) := fun a b => by by_cases h : a = b <;> simp [h]
  have ck : spLCheck [.int .i64 n, sl] h = some (.int .i64 (chkL n l)) := by unfold spLCheck; simp only [hx]
  have nbN : ∀ q, q < N → ∀ j, (N + j = q) = False := fun q hq j => eq_false (by omega)
  have nN : ∀ q, q < N → (N = q) = False := fun q hq => eq_false (by omega)
  have zfin : ∀ (e : Int), (solNR (e, [])).cells = fun _ _ => [] := fun e => rfl
  by_cases c0 : chkL n l = 0
  case neg =>
    have e : solveRL n l = (chkL n l, []) := if_neg c0
    have c0' : (chkL n l = 0) = False := eq_false c0
    rw [e]
    simp only [c7, G0, Nat.reduceAdd]
    simp only [↓R0, R1, simprocAttr, -Int.reduceAbs, rdS, ck, c0', dn, Bool.not_false, Bool.not_true, FinL, isEnd, resL, res1]
    refine ⟨fun _ => N + 0, _, fun i hi => Nat.le_refl N, fun i j (hi : i < 1) (hj : j < 1) _ => by omega, rfl, rfl, fun i hi => ⟨true, ?_⟩, fun q hq => ?_⟩
    · first | (simp only [↓R0, R1, simprocAttr, -Int.reduceAbs]; done) | (simp only [↓R0, R1, simprocAttr, -Int.reduceAbs]; rfl)
    · have nb := nbN q hq
      have nN := nN q hq
      simp only [↓R0, R1, simprocAttr, -Int.reduceAbs, nb, nN]
  rw [c0] at ck
  have e : solveRL n l = solveR 14 17 n.toNat (refS n.toNat l) := if_pos c0
  rw [e]
  obtain ⟨n, rfl⟩ := Int.eq_ofNat_of_zero_le (chk0 c0).1
  have pk := hs c0
  rw [Int.toNat_natCast] at *
  have n8 := pk.1
  have rB := red_RdB pk
  have pn := refS_len (n := n) l
  obtain ⟨D, mm, kc, gq, H⟩ := reduced_call (b := N + 0) hx pk
  obtain ⟨M, hM⟩ : ∃ M, M = N + mm := ⟨_, rfl⟩
  have eM : N + 0 + mm = M + 0 := by omega
  rw [show N + 0 + mm = M by omega] at H
  generalize eHP : D ++ h = HP at *
  change nwL spReduced [.int .i64 n, sl] h (N + 0) = some (.tuple ⟨[.slice (some ⟨N + 0, 0, none⟩) (refS n l).1.length (refS n l).1.length, .bool (refS n l).2]⟩, D, mm) at kc
  change EqH HP (N + 0) M (N + 0) n (refS n l).1.length (fun j => N + 0 + (j + 1)) (rowAt (refS n l).1) at H
  generalize refS n l = s at *
  have hB8 : ∀ q, q < s.1.length → ∀ j, j ≤ n → RB (rowAt s.1 q j) 8589934592 := fun q hq j hj => (rB q hq j hj).le (by have := oB_le s.1.length (by omega); omega)
  have ac : ∀ (d : Nat) (tm : List (Nat × Value)) (V : Value) (K : St → Prop), @aft (some d) (some (V, D, mm)) ⟨(⟨tm, h, N + 0⟩, K)⟩ = K ⟨(d, V) :: tm, HP, M + 0⟩ := fun _ _ _ _ => by rw [← eM, ← eHP]; exact propext Iff.rfl
  have gM : N ≤ M := by omega
  have nb : ∀ q, q < N → ∀ j, (M + j = q) = False := fun q hq j => eq_false (by omega)
  have nM : ∀ q, q < N → (M = q) = False := fun q hq => eq_false (by omega)
  have hkb := H.kb
  cases s2 : s.2 with
  | false =>
    rw [s2] at kc
    have e : solveR 14 17 n s = (14, []) := if_pos s2
    rw [e]
    simp only [c7, G0, Nat.reduceAdd]
    simp only [↓R0, R1, simprocAttr, -Int.reduceAbs, rdS, ck, kc, ac, dn, Bool.not_false, Bool.not_true, FinL, isEnd, resL, res1]
    refine ⟨fun _ => M + 0, _, fun i hi => gM, fun i j (hi : i < 1) (hj : j < 1) _ => by omega, rfl, rfl, fun i hi => ⟨true, ?_⟩, fun q hq => ?_⟩
    · first | (simp only [↓R0, R1, simprocAttr, -Int.reduceAbs]; done) | (simp only [↓R0, R1, simprocAttr, -Int.reduceAbs]; rfl)
    · have nb := nb q hq
      have nM := nM q hq
      simp only [↓R0, R1, simprocAttr, -Int.reduceAbs, nb, nM]
      exact gq q hq
  | true =>
    rw [s2] at kc
    have e : solveR 14 17 n s = match valsR n s.1 n with | some v => (0, v) | none => (17, []) := by unfold solveR; rw [if_neg (by rw [s2]; simp)]; cases valsR n s.1 n <;> rfl
    rw [e]
    clear e
    simp only [c7, G0, Nat.reduceAdd]
    simp only [↓R0, R1, simprocAttr, -Int.reduceAbs, rdS, ck, kc, ac, dn, Bool.not_false, Bool.not_true]
    refine lp_parts (fun d tm hp nx => ∃ (k M2 ko : Nat) (v : List Rat) (x : Bool), d + k = n ∧ tmget tm 0 = .int .i64 n ∧ tmget tm 7 = .slice (some ⟨N + 0, 0, none⟩) s.1.length s.1.length ∧ tmget tm 9 = .slice (some ⟨ko, 0, none⟩) k k ∧ tmget tm 10 = .int .i64 (k : Nat) ∧
        valsR n s.1 k = some v ∧ hget hp ko = some ⟨35, 3, x, ratC v⟩ ∧ M ≤ ko ∧ ko < M2 ∧ ExtL M HP hp ∧ M + 1 ≤ M2 ∧ nx = M2 + 0) ?_ n
      ⟨0, M + 1, M + 0, [], true, by omega, ?_, ?_, ?_, ?_, rfl, ?_, Nat.le_refl _, by omega, ?_, Nat.le_refl _, rfl⟩
    rotate_left
    all_goals first | (simp only [↓R0, R1, simprocAttr, -Int.reduceAbs]; done) | (simp only [↓R0, R1, simprocAttr, -Int.reduceAbs]; rfl) | skip
    · intro q hq
      have nb : ∀ d, (M + d = q) = False := fun d => eq_false (by omega)
      have nM : (M = q) = False := eq_false (by omega)
      simp only [↓R0, R1, simprocAttr, -Int.reduceAbs, nb, nM]
    rintro d tm hp nx ⟨k, M2, ko, v, x, hd, t0, t7, t9, t10, hv, bk, hk1, hk2, hh, hM2, hnx⟩
    rw [hnx]
    clear hnx nx
    have vl := ratC_len v
    have vn := (valsR_some hv).1
    rw [vn] at vl
    by_cases c1 : k < n
    case neg =>
      have ek : k = n := by omega
      subst ek
      have c1' : ((k : Int) < (k : Int)) = False := eq_false (by omega)
      rw [hv]
      unfold solNR
      simp only [vn]
      simp only [↓R0, R1, simprocAttr, -Int.reduceAbs, t0, t7, t9, t10, c1', FinL, isEnd, resL, res1]
      refine ⟨fun _ => ko, _, fun i hi => (by omega : N ≤ ko), fun i j (hi : i < 1) (hj : j < 1) _ => by omega, rfl, rfl, fun i hi => ⟨x, bk⟩, fun q hq => ?_⟩
      rw [hh q (by omega)]
      exact gq q hq
    have c1' : ((k : Int) < (n : Int)) = True := eq_true (by omega)
    have wk : IntKind.i64.wrap ((k : Int) + 1) = ((k + 1 : Nat) : Int) := by rw [i64_in _ (by omega)]; omega
    have w0 : ∀ d, (M2 + d = ko) = False := fun d => eq_false (by omega)
    have w1 : ∀ d, (ko = M2 + d) = False := fun d => eq_false (by omega)
    have m20 : M2 + 0 + 0 = M2 + 0 := rfl
    have nwH : ∀ (args : List Value) (hp : Heap) (k : Nat), nwL spHeld args hp k = (spHeld args hp).map fun r => (r.val (k + ·), newH r (k + ·) r.m, r.m) := fun _ _ _ => rfl
    have H2 := H.mono (hp' := hp) (Nat.le_refl _) (fun q _ q2 => hh q q2)
    rcases held_of (k := k) H2 (by omega) (by omega) (by omega) hB8 with ⟨i, hi, h1, h2⟩ | ⟨h1, h2⟩
    · have vs := valsR_succ hv h1
      have npp : (k + 1 ≤ k) = False := eq_false (by omega)
      have ovr : ((k + 1) * 40 ≤ 140737488355328) = True := eq_true (by omega)
      have qln : ∀ x : Rat, (RQ.of x).cells.length = 3 := fun _ => rfl
      have qok : ∀ x : Rat, (RQ.of x).cells.all okCell = true := fun _ => rfl
      have qst : ∀ x : Rat, setR [.bool false, .string ⟨⟨[]⟩⟩, .string ⟨⟨[]⟩⟩] 0 (RQ.of x).cells = (RQ.of x).cells := fun _ => rfl
      have qtk : ∀ x : Rat, (RQ.of x).cells.take 3 = (RQ.of x).cells := fun _ => rfl
      simp only [↓R0, R1, simprocAttr, -Int.reduceAbs, rdS, t0, t7, t9, t10, c1, c1', nwH, newHL0, h2, m20, PV_len, PV_ok, PV_tk, PV_0, PV_z, PV_1, qln, qok, qst, qtk, bk, vl, npp, ovr, w0, w1, wk, Bool.not_true, Bool.not_false]
      refine ⟨d - 1, by omega, k + 1, M2 + 3, M2 + 2, v ++ [rowAt s.1 i n], false, by omega, rfl, rfl, vs, ?_, by omega, by omega, fun q hq => ?_, by omega, rfl⟩
      · have : ratC (v ++ [rowAt s.1 i n]) = ratC v ++ (RQ.of (rowAt s.1 i n)).cells := by unfold ratC; simp; rfl
        rw [this]
        simp only [↓R0, R1, simprocAttr, -Int.reduceAbs]
      · have nb : ∀ d, (M2 + d = q) = False := fun d => eq_false (by omega)
        have nk : (ko = q) = False := eq_false (by omega)
        simp only [↓R0, R1, simprocAttr, -Int.reduceAbs, nb, nk]
        exact hh q hq
    · have vn : valsR n s.1 n = none := by
        have := valsR_up h1 (n - (k + 1))
        rw [show k + 1 + (n - (k + 1)) = n by omega] at this; exact this
      rw [vn]
      have z5l : ([Value.slice none 0 0, .bool false, .string ⟨⟨[]⟩⟩, .string ⟨⟨[]⟩⟩, .int .i64 0] : List Value).length = 5 := rfl
      simp only [↓R0, R1, simprocAttr, -Int.reduceAbs, rdS, t0, t7, t9, t10, c1, c1', nwH, newHL0, h2, m20, w0, w1, wk, Bool.not_true, Bool.not_false, FinL, isEnd, resL, res1]
      refine ⟨fun _ => M2 + 1, _, fun i hi => (by omega : N ≤ M2 + 1), fun i j (hi : i < 1) (hj : j < 1) _ => by omega, rfl, rfl, fun i hi => ⟨true, ?_⟩, fun q hq => ?_⟩
      · first | (simp only [↓R0, R1, simprocAttr, -Int.reduceAbs]; done) | (simp only [↓R0, R1, simprocAttr, -Int.reduceAbs]; rfl)
      · have nb : ∀ d, (M2 + d = q) = False := fun d => eq_false (by omega)
        simp only [↓R0, R1, simprocAttr, -Int.reduceAbs, nb]
        rw [hh q (by omega)]
        exact gq q hq
end Go.Eng
end
