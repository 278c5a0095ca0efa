/-
  A part of the proof: the machine, the contracts of the functions and the plain laws, merged from smaller texts.
-/
import Derived.Test.YtmhjnlcmmokniaaDoorSo4
import Derived.RowKit3
import Derived.ChangeSame
import Derived.ReadAgain
import Derived.Deep.Slices
import Derived.WideShapes
section
set_option linter.unusedVariables false
set_option linter.unusedSimpArgs false
set_option linter.unusedSectionVars false
set_option maxRecDepth 20000
namespace Go.Eng
open Go Go.Proofs Go.IntWalk
theorem ext_tr {N M : Nat} {h hp hp' : Heap} (hM : N ≤ M) (a : ExtL N h hp) (b : ExtL M hp hp') : ExtL N h hp' := fun k hk => by rw [b k (by omega), a k hk]
theorem ext_rats {N : Nat} {h hp : Heap} {sl : Value} {l : List RQ} (hN : ∀ k b, hget h k = some b → k < N) (hx : listAt 3 dec1 h sl = some l) (he : ExtL N h hp) : listAt 3 dec1 hp sl = some l := listAt_mono (fun k b e => by rw [he k (hN _ _ e)]; exact e) (fun _ _ e => e) hx
theorem extL_up {N M : Nat} {h hp hp' : Heap} (hM : N ≤ M) (a : ExtL N h hp) (b : ∀ q, q < M → hget hp' q = hget hp q) : ExtL N h hp' := fun k hk => by rw [b k (by omega), a k hk]
def sameTo (xs ys : Nat → Rat) (i : Nat) : Prop := ∀ j, j < i → xs j = ys j
instance {xs ys : Nat → Rat} {i : Nat} : Decidable (sameTo xs ys i) := by unfold sameTo; infer_instance
def allTo (l : List EqR) (vs : List RQ) (i : Nat) : Prop := ∀ j, j < i → holdsE (eqAt l j) vs = true
instance {l : List EqR} {vs : List RQ} {i : Nat} : Decidable (allTo l vs i) := by unfold allTo; infer_instance
theorem sameTo_0 (xs ys : Nat → Rat) : decide (sameTo xs ys 0) = true := decide_eq_true fun j hj => absurd hj (Nat.not_lt_zero j)
theorem allTo_0 (l : List EqR) (vs : List RQ) : decide (allTo l vs 0) = true := decide_eq_true fun j hj => absurd hj (Nat.not_lt_zero j)
theorem sameTo_s {xs ys : Nat → Rat} {i : Nat} (h : sameTo xs ys i) : decide (xs i = ys i) = decide (sameTo xs ys (i + 1)) := decide_eq_decide.2 ⟨fun e j hj => by
  by_cases c : j = i
  · rw [c]; exact e
  · exact h j (by omega), fun e => e i (by omega)⟩
theorem sameTo_n {xs ys : Nat → Rat} {i : Nat} (h : ¬ sameTo xs ys i) : ¬ sameTo xs ys (i + 1) := fun e => h fun j hj => e j (by omega)
theorem allTo_s {l : List EqR} {vs : List RQ} {i : Nat} (h : allTo l vs i) : holdsE (eqAt l i) vs = decide (allTo l vs (i + 1)) := by
  cases e : holdsE (eqAt l i) vs with
  | true => exact (decide_eq_true fun j hj => by
      by_cases c : j = i
      · rw [c]; exact e
      · exact h j (by omega)).symm
  | false => exact (decide_eq_false fun x => by have := x i (by omega); rw [e] at this; cases this).symm
theorem allTo_n {l : List EqR} {vs : List RQ} {i : Nat} (h : ¬ allTo l vs i) : ¬ allTo l vs (i + 1) := fun e => h fun j hj => e j (by omega)
theorem same_all {n : Nat} {l : List EqR} {os : List RQ} (c : chkL n l = 0) (e0 : (solveL n l).1 = 0) : decide (sameTo (qsV (vq (solveL n l).2)) (qsV os) n) = decide (allTo l os l.length) := by
  obtain ⟨_, _, _, h4, h5⟩ := solL_sol c e0
  have L := chk0_nat c
  refine decide_eq_decide.2 ⟨fun h j hj => ?_, fun h k hk => ?_⟩
  · refine decide_eq_true ?_
    have hm := eqAt_mem hj
    rw [L _ hm, ← lin_congr (r := qsV (eqAt l j).coef) (fun _ _ => rfl) h]
    exact h4 _ hm
  · refine h5 (qsV os) (fun e he => ?_) k hk
    obtain ⟨j, hj⟩ := List.getElem?_of_mem he
    have hlt := (List.getElem?_eq_some_iff.1 hj).1
    rw [eqAt_some hlt] at hj
    cases hj
    have := of_decide_eq_true (h j hlt)
    rw [L _ he] at this; exact this
theorem small_hold {n : Nat} {l : List EqR} {vs : List RQ} (hs : smallS n l) (c : chkL n l = 0) (hn : vs.length = n) (ok : ∀ j, j < n → (rqAt vs j).ok 200000000) {e : EqR} (he : e ∈ l) : HoldOK e vs := by
  have L := chk0_nat c e he
  obtain ⟨_, h4⟩ := hs.2.2 e he
  have f : ∀ q, smallQ q → q.ok 1000 := fun q hq => ⟨by have := hq.1; omega, by have := hq.2; omega⟩
  exact ⟨by omega, by rw [L]; have := (hs.sys c).n8; omega, fun q hq => f q (h4 q (List.mem_append_left _ hq)), f _ (h4 _ (List.mem_append_right _ (List.mem_singleton.2 rfl))), fun i hi => ok i (by omega)⟩
theorem solL_chk {n : Nat} {l : List EqR} (h : (solveL n l).1 = 0) : chkL n l = 0 := by
  unfold solveL at h
  split at h
  · assumption
  · exact h
def spL24sol : List Value → Heap → Option Value
  | [.int .i64 _, sl, ov], h => match decRows h sl, listAt 3 dec1 h ov with
    | some l, some os => if l.length ≤ 9223372036854775807 ∧ os.length ≤ 9223372036854775807 then some (.bool true) else none
    | _, _ => none
  | _, _ => none
theorem fr_L24sol {h : Heap} {N : Nat} {n : Int} {sl ov : Value} {l : List EqR} {os : List RQ} (hn : -9223372036854775808 ≤ n ∧ n ≤ 9223372036854775807) (e : decRows h sl = some l) (m : l.length ≤ maxLen) (e' : listAt 3 dec1 h ov = some os) (m' : os.length ≤ maxLen) : rdS spL24sol [.int .i64 n, sl, ov] h N = some (.bool true, [], 0) := by
  unfold rdS spL24sol
  simp only [e, e']
  rw [if_pos ⟨m, m'⟩]; rfl
def c7 : ICode :=
  (.seq (.reg [qq 6 (.mv (.c (.bool false)))]) (.seq (.seq (.reg [qq 16 (.mv (.t 0)), qq 17 (.mv (.t 1)), qq 18 (.call 8 [(.t 16), (.t 17)]), qq 19 (.bin .gtr (.t 18) (ci 0)), qq 20 (.mv (.t 19)), ⟨(some 21), (some (20, false)), (.mv (.t 2))⟩, ⟨(some 22), (some (20, false)), (.lensl (.t 21))⟩, ⟨(some 23), (some (20, false)), (.mv (.t 0))⟩, ⟨(some 24), (some (20, false)), (.bin .neq (.t 22) (.t 23))⟩, qq 25 (.pick (.t 20) (.c (.bool true)) (.t 24))]) (.cond (.t 25) (.seq (.reg [qq 26 (.call 11 []), qq 6 (.mv (.t 26))]) .ret) .skip)) (.seq (.seq (.reg [qq 27 (.mv (.t 2)), qq 28 (.lensl (.t 27)), qq 29 (.mv (ci 0))]) (.block 0 (.loop (.seq (.reg [qq 30 (.bin .lss (.t 29) (.t 28))]) (.seq (.cond (.t 30) .skip (.exit 0)) (.seq (.block 1 (.seq (.reg [qq 31 (.ixsl 3 (.t 27) (.t 29)), qq 32 (.load true 3 (.t 31)), qq 8 (.alloc 24 3 [(.bool false), e0, e0]), qn (.store 3 (.t 8) (.t 32))]) (.seq (.reg [qq 33 (.faddr 1 (.t 8)), qq 34 (.load false 1 (.t 33)), qq 35 (.lens (.t 34)), qq 36 (.bin .gtr (.t 35) (ci 4)), qq 37 (.mv (.t 36)), ⟨(some 38), (some (37, false)), (.faddr 2 (.t 8))⟩, ⟨(some 39), (some (37, false)), (.load false 1 (.t 38))⟩, ⟨(some 40), (some (37, false)), (.lens (.t 39))⟩, ⟨(some 41), (some (37, false)), (.bin .gtr (.t 40) (ci 4))⟩, qq 42 (.pick (.t 37) (.c (.bool true)) (.t 41))]) (.cond (.t 42) (.seq (.reg [qq 43 (.call 11 []), qq 6 (.mv (.t 43))]) .ret) .skip)))) (.reg [qq 44 (.bin .add (.t 29) (ci 1)), qq 29 (.mv (.t 44))]))))))) (.seq (.reg [qq 46 (.mv (.t 0)), qq 47 (.mv (.t 1)), qq 48 (.call 14 [(.t 46), (.t 47)]), qq 45 (.mv (.t 48)), qq 49 (.ext (.t 45) 0), qq 50 (.ext (.t 45) 1), qq 9 (.mv (.t 49)), qq 10 (.mv (.t 50))]) (.seq (.seq (.reg [qq 51 (.mv (.t 10)), qq 52 (.bin .neq (.t 51) (ci 0))]) (.cond (.t 52) (.seq (.reg [qq 53 (.call 11 []), qq 54 (.mv (.t 53)), ⟨(some 55), (some (54, true)), (.mv (.t 9))⟩, ⟨(some 56), (some (54, true)), (.lensl (.t 55))⟩, ⟨(some 57), (some (54, true)), (.bin .eql (.t 56) (ci 0))⟩, qq 58 (.pick (.t 54) (.t 57) (.c (.bool false))), qq 6 (.mv (.t 58))]) .ret) .skip)) (.seq (.seq (.reg [qq 59 (.mv (.t 9)), qq 60 (.lensl (.t 59)), qq 61 (.mv (.t 0)), qq 62 (.bin .neq (.t 60) (.t 61)), qq 63 (.mv (.t 62)), ⟨(some 64), (some (63, false)), (.mv (.t 0))⟩, ⟨(some 65), (some (63, false)), (.mv (.t 1))⟩, ⟨(some 66), (some (63, false)), (.call 17 [(.t 64), (.t 65)])⟩, ⟨(some 67), (some (63, false)), (.mv (.t 0))⟩, ⟨(some 68), (some (63, false)), (.bin .neq (.t 66) (.t 67))⟩, qq 69 (.pick (.t 63) (.c (.bool true)) (.t 68)), qq 70 (.mv (.t 69)), ⟨(some 71), (some (70, false)), (.mv (.t 0))⟩, ⟨(some 72), (some (70, false)), (.mv (.t 1))⟩, ⟨(some 73), (some (70, false)), (.call 15 [(.t 71), (.t 72)])⟩, ⟨(some 74), (some (70, false)), (.lensl (.t 73))⟩, ⟨(some 75), (some (70, false)), (.bin .neq (.t 74) (ci 0))⟩, qq 76 (.pick (.t 70) (.c (.bool true)) (.t 75))]) (.cond (.t 76) (.seq (.reg [qq 6 (.mv (.c (.bool false)))]) .ret) .skip)) (.seq (.reg [qq 11 (.mv (.c (.bool true))), qq 12 (.mv (.c (.bool true)))]) (.seq (.seq (.reg [qq 77 (.mv (.t 9)), qq 78 (.lensl (.t 77)), qq 79 (.mv (ci 0))]) (.block 2 (.loop (.seq (.reg [qq 80 (.bin .lss (.t 79) (.t 78))]) (.seq (.cond (.t 80) .skip (.exit 2)) (.seq (.block 3 (.seq (.reg [qq 81 (.mv (.t 79)), qq 13 (.mv (.t 81))]) (.dreg [qu 82 (.mv (.t 11)), qu 83 (.mv (.t 82)), ⟨(some 84), (some (83, true)), [], (.mv (.t 9))⟩, ⟨(some 85), (some (83, true)), [], (.mv (.t 13))⟩, ⟨(some 86), (some (83, true)), [], (.ixsl 3 (.t 84) (.t 85))⟩, ⟨(some 87), (some (83, true)), [], (.load true 3 (.t 86))⟩, ⟨(some 88), (some (83, true)), [], (.mv (.t 2))⟩, ⟨(some 89), (some (83, true)), [], (.mv (.t 13))⟩, ⟨(some 90), (some (83, true)), [], (.ixsl 3 (.t 88) (.t 89))⟩, ⟨(some 91), (some (83, true)), [], (.load true 3 (.t 90))⟩, ⟨(some 92), (some (83, true)), [], (.call 19 [(.t 87), (.t 91)])⟩, ⟨(some 93), (some (83, true)), [], (.bin .eql (.t 92) (ci 0))⟩, qu 94 (.pick (.t 83) (.t 93) (.c (.bool false))), qu 11 (.mv (.t 94))]))) (.reg [qq 95 (.bin .add (.t 79) (ci 1)), qq 79 (.mv (.t 95))]))))))) (.seq (.seq (.reg [qq 96 (.mv (.t 1)), qq 97 (.lensl (.t 96)), qq 98 (.mv (ci 0))]) (.block 4 (.loop (.seq (.reg [qq 99 (.bin .lss (.t 98) (.t 97))]) (.seq (.cond (.t 99) .skip (.exit 4)) (.seq (.block 5 (.seq (.reg [qq 100 (.ixsl 5 (.t 96) (.t 98)), qq 101 (.load true 5 (.t 100)), qq 15 (.alloc 28 5 [(.slice none 0 0), (.bool false), e0, e0, (.int .i64 0)]), qn (.store 5 (.t 15) (.t 101))]) (.seq (.seq (.reg [qq 102 (.load true 5 (.t 15)), qq 103 (.mv (.t 9)), qq 104 (.call 20 [(.t 102), (.t 103)]), qq 105 (.un .not (.t 104))]) (.cond (.t 105) (.seq (.reg [qq 6 (.mv (.c (.bool false)))]) .ret) .skip)) (.reg [qq 106 (.mv (.t 12)), qq 107 (.mv (.t 106)), ⟨(some 108), (some (107, true)), (.load true 5 (.t 15))⟩, ⟨(some 109), (some (107, true)), (.mv (.t 2))⟩, ⟨(some 110), (some (107, true)), (.call 20 [(.t 108), (.t 109)])⟩, qq 111 (.pick (.t 107) (.t 110) (.c (.bool false))), qq 12 (.mv (.t 111))])))) (.reg [qq 112 (.bin .add (.t 98) (ci 1)), qq 98 (.mv (.t 112))]))))))) (.seq (.reg [qq 113 (.call 11 []), qq 114 (.mv (.t 113)), ⟨(some 115), (some (114, true)), (.mv (.t 11))⟩, ⟨(some 116), (some (114, true)), (.mv (.t 12))⟩, ⟨(some 117), (some (114, true)), (.eqb false (.t 115) (.t 116))⟩, qq 118 (.pick (.t 114) (.t 117) (.c (.bool false))), qq 6 (.mv (.t 118))]) .ret))))))))))
theorem tr7 : trFun Tryd.prog 7 = some ⟨119, [.t 6], c7⟩ := by kernel_rfl
set_option maxHeartbeats 32000000 in
theorem ok_L24sol : SpecOK Tryd.prog 7 (rdS spL24sol) := by
  refine rd_run (env_cons ok_lGreat24 (env_cons ok_fixed (env_cons ok_solve (env_cons ok_rank (env_cons ok_freeV (env_cons ok_qCmp (env_cons ok_holds (env_nil _)))))))) mixed tr7 ?_ ?_
  · intro args h h' v hle e
    unfold spL24sol at e ⊢
    split at e
    · split at e
      · rename_i l os hb hc
        simp only [decRows_mono hle hb, listAt_mono hle (fun _ _ e => e) hc]; exact e
      · cases e
    · cases e
  intro args v h N hG hN
  unfold spL24sol at hG
  split at hG
  case h_2 => cases hG
  rename_i n sl ov
  split at hG
  case h_2 => cases hG
  rename_i l os hx hv
  split at hG
  case isFalse => cases hG
  rename_i hm
  obtain ⟨hm, hmo⟩ := hm
  cases hG
  obtain ⟨a, cc, rfl⟩ := listAt_sl (dec := decEq h) hx
  obtain ⟨b, dd, rfl⟩ := listAt_sl hv
  refine ⟨by rfl, by simp, ?_⟩
  have gr := great24_of (n := n) hx hm
  have fx : spFixed [] = some (.bool true) := rfl
  by_cases sS : smallS n l
  case neg =>
    rw [if_neg sS] at gr
    simp only [c7, G0, Nat.reduceAdd]
    simp only [↓R0, R1, simprocAttr, -Int.reduceAbs, rdS, gr, fx, Fin, isEnd, resL, res1]
    exact ⟨_, rfl, rfl, fun k hk => by simp only [ne_nb hk, if_false]⟩
  rw [if_pos sS] at gr
  by_cases en : (os.length : Int) = n
  case neg =>
    have en' : ((os.length : Int) = n) = False := eq_false en
    simp only [c7, G0, Nat.reduceAdd]
    simp only [↓R0, R1, simprocAttr, -Int.reduceAbs, rdS, gr, fx, en', Bool.not_false, Fin, isEnd, resL, res1]
    exact ⟨_, rfl, rfl, fun k hk => by simp only [ne_nb hk, if_false]⟩
  subst en
  have dn : ∀ a b : Int, decide (a ≠ b) = !decide (a = b) := fun a b => by by_cases h : a = b <;> simp [h]
  simp only [c7, G0, Nat.reduceAdd]
  simp only [↓R0, R1, simprocAttr, -Int.reduceAbs, rdS, gr, fx, dn, Bool.not_true]
  refine lp_parts (fun q tm hp nx => ∃ (i M : Nat), q + i = os.length ∧ tmget tm 0 = .int .i64 os.length ∧ tmget tm 1 = .slice a l.length cc ∧ tmget tm 2 = .slice b os.length dd ∧ tmget tm 27 = .slice b os.length dd ∧ tmget tm 28 = .int .i64 os.length ∧ tmget tm 29 = .int .i64 i ∧ (∀ j, j < i → smallQ (rqAt os j)) ∧ ExtL N h hp ∧ N ≤ M ∧ nx = M + 0) ?_ os.length
    ⟨0, N, by omega, ?_, ?_, ?_, ?_, ?_, ?_, fun j hj => absurd hj (Nat.not_lt_zero j), fun q _ => rfl, Nat.le_refl _, rfl⟩
  rotate_left
  all_goals first | (simp only [↓R0, R1, simprocAttr, -Int.reduceAbs]; done) | (simp only [↓R0, R1, simprocAttr, -Int.reduceAbs]; rfl) | skip
  rintro q tm hp nx ⟨i, M, hni, t0, t1, t2, t27, t28, t29, hall, hh, hM, hnx⟩
  rw [hnx]
  clear hnx nx
  have nbq : ∀ q, q < N → ∀ d, (M + d = q) = False := fun q hq d => eq_false (by omega)
  by_cases c1 : i < os.length
  case pos =>
    have c1' : ((i : Int) < (os.length : Int)) = True := eq_true (by omega)
    have w1 : IntKind.i64.wrap ((i : Int) + 1) = ((i + 1 : Nat) : Int) := by rw [i64_in _ (by omega)]; omega
    obtain ⟨k1, f1, B1, rfl, h1, q1, q2⟩ := rq_at hv c1
    have l1 := hN _ _ h1
    have b1 : hget hp k1 = some B1 := by rw [hh k1 l1]; exact h1
    have n1 := nbq k1 l1
    have ql : (rqAt os i).cells.length = 3 := rfl
    have qo : (rqAt os i).cells.all okCell = true := rfl
    have qs : setR [.bool false, .string ⟨⟨[]⟩⟩, .string ⟨⟨[]⟩⟩] 0 (rqAt os i).cells = (rqAt os i).cells := rfl
    have qc1 : (rqAt os i).cells[1]? = some (.string ⟨⟨(rqAt os i).n⟩⟩) := rfl
    have qc2 : (rqAt os i).cells[2]? = some (.string ⟨⟨(rqAt os i).d⟩⟩) := rfl
    have fin : ∀ q, q < N → hget hp q = hget h q := hh
    generalize (rqAt os i).cells = QC at *
    by_cases s1 : (rqAt os i).n.length > 4
    · have s1' : (((rqAt os i).n.length : Int) > 4) = True := eq_true (by omega)
      simp only [↓R0, R1, simprocAttr, -Int.reduceAbs, rdS, fx, t0, t1, t2, t27, t28, t29, c1, c1', b1, q1, q2, n1, ql, qo, qs, qc1, qc2, s1', Fin, isEnd, resL, res1]
      refine ⟨_, rfl, rfl, fun q hq => ?_⟩
      have nb := nbq q hq
      simp only [↓R0, R1, simprocAttr, -Int.reduceAbs, nb]
      exact hh q hq
    have s1' : (((rqAt os i).n.length : Int) > 4) = False := eq_false (by omega)
    by_cases s2 : (rqAt os i).d.length > 4
    · have s2' : (((rqAt os i).d.length : Int) > 4) = True := eq_true (by omega)
      simp only [↓R0, R1, simprocAttr, -Int.reduceAbs, rdS, fx, t0, t1, t2, t27, t28, t29, c1, c1', b1, q1, q2, n1, ql, qo, qs, qc1, qc2, s1', s2', Fin, isEnd, resL, res1]
      refine ⟨_, rfl, rfl, fun q hq => ?_⟩
      have nb := nbq q hq
      simp only [↓R0, R1, simprocAttr, -Int.reduceAbs, nb]
      exact hh q hq
    have s2' : (((rqAt os i).d.length : Int) > 4) = False := eq_false (by omega)
    simp only [↓R0, R1, simprocAttr, -Int.reduceAbs, rdS, fx, t0, t1, t2, t27, t28, t29, c1, c1', b1, q1, q2, n1, ql, qo, qs, qc1, qc2, s1', s2', w1]
    refine ⟨q - 1, by omega, i + 1, M + 1, by omega, rfl, fun j hj => ?_, fun q hq => ?_, by omega, rfl⟩
    · by_cases x : j = i
      · subst x; exact ⟨by omega, by omega⟩
      · exact hall j (by omega)
    · have nb := nbq q hq
      simp only [↓R0, R1, simprocAttr, -Int.reduceAbs, nb]
      exact hh q hq
  have e' : i = os.length := by omega
  subst e'
  have c1' : ((os.length : Int) < (os.length : Int)) = False := eq_false (by omega)
  have sys := sS.sys
  have hxp := ext_rows hN hx hh
  obtain ⟨a9, D, mm, kc, gq, hV⟩ := solve_call (b := M + 0) hxp sys
  obtain ⟨M1, hM1⟩ : ∃ M1, M1 = M + mm := ⟨_, rfl⟩
  have eM : M + 0 + mm = M1 + 0 := by omega
  have hbM : M + 0 + mm = M1 := by omega
  rw [hbM] at hV
  generalize eHP : D ++ hp = HP at *
  have ac : ∀ (d : Nat) (tm : List (Nat × Value)) (V : Value) (K : St → Prop), @aft (some d) (some (V, D, mm)) ⟨(⟨tm, hp, M + 0⟩, K)⟩ = K ⟨(d, V) :: tm, HP, M1 + 0⟩ := fun _ _ _ _ => by rw [← eM, ← eHP]; exact propext Iff.rfl
  have xH : ExtL N h HP := extL_up (M := M + 0) (by omega) hh gq
  by_cases e0 : (solveL os.length l).1 = 0
  case neg =>
    have e0' : ((solveL os.length l).1 = 0) = False := eq_false e0
    rw [solL_nil e0, List.length_nil] at kc
    simp only [↓R0, R1, simprocAttr, -Int.reduceAbs, rdS, fx, t0, t1, t2, t27, t28, t29, c1', kc, ac, e0', Bool.not_false, Fin, isEnd, resL, res1]
    exact ⟨_, rfl, rfl, xH⟩
  have ck := solL_chk e0
  obtain ⟨L1, L2, L3, _, _⟩ := solL_sol ck e0
  have L4 := (same_all (os := os) ck e0)
  have L5 : ∀ e ∈ l, holdsE e (vq (solveL os.length l).2) = true := fun e he => decide_eq_true (by
    rw [chk0_nat ck e he]; exact (solL_sol ck e0).2.2.2.1 e he)
  have oV : ∀ j, j < os.length → (rqAt (vq (solveL os.length l).2) j).ok 200000000 := fun j hj => (solL_ok sys (by omega)).le (by omega)
  have oO : ∀ j, j < os.length → (rqAt os j).ok 200000000 := fun j hj => ⟨by have := (hall j hj).1; omega, by have := (hall j hj).2; omega⟩
  have ho1 : ∀ e ∈ l, HoldOK e (vq (solveL os.length l).2) := fun e he => small_hold sS ck (by rw [vq_len, L1]) oV he
  have ho2 : ∀ e ∈ l, HoldOK e os := fun e he => small_hold sS ck rfl oO he
  have hVl : (vq (solveL os.length l).2).length = os.length := by rw [vq_len, L1]
  rw [L1] at kc hV
  rw [e0] at kc
  have hlm := (sys ck).m
  have hn8 := (sys ck).n8
  generalize vq (solveL os.length l).2 = VS at *
  have rk : ∀ {hp' : Heap}, ExtL N h hp' → spRank [.int .i64 os.length, .slice a l.length cc] hp' = some (.int .i64 os.length) := fun he => by rw [rank_of (ext_rows hN hx he) sys, L2]
  have fr : ∀ {hp' : Heap}, ExtL N h hp' → spFreeV [.int .i64 os.length, .slice a l.length cc] hp' = some ⟨0, fun _ => .slice none 0 0, fun _ => 0, fun _ => 0, fun _ _ => []⟩ := fun he => by rw [freeV_of (ext_rows hN hx he) sys, L3]; rfl
  have nwF : ∀ (args : List Value) (hp : Heap) (k : Nat), nwL spFreeV args hp k = (spFreeV args hp).map fun r => (r.val (k + ·), newH r (k + ·) r.m, r.m) := fun _ _ _ => rfl
  have e00 : M1 + 0 + 0 = M1 + 0 := rfl
  have xHt : ExtL N h HP = True := eq_true xH
  simp only [↓R0, R1, simprocAttr, -Int.reduceAbs, rdS, fx, t0, t1, t2, t27, t28, t29, c1', kc, ac, dn, rk, fr, nwF, newHL0, xHt, e00, Bool.not_true, Bool.not_false]
  have s00 := sameTo_0 (qsV VS) (qsV os)
  have hM2 : N ≤ M1 := by omega
  refine lp_parts (fun q tm hp nx => ∃ (i M : Nat), q + i = os.length ∧ tmget tm 1 = .slice a l.length cc ∧ tmget tm 2 = .slice b os.length dd ∧ tmget tm 9 = .slice a9 os.length os.length ∧ tmget tm 77 = .slice a9 os.length os.length ∧ tmget tm 78 = .int .i64 os.length ∧ tmget tm 79 = .int .i64 i ∧ tmget tm 11 = .bool (decide (sameTo (qsV VS) (qsV os) i)) ∧ tmget tm 12 = .bool true ∧ ExtL M1 HP hp ∧ M1 ≤ M ∧ nx = M + 0) ?_ os.length
    ⟨0, M1, by omega, ?_, ?_, ?_, ?_, ?_, ?_, ?_, ?_, fun q _ => rfl, Nat.le_refl _, rfl⟩
  rotate_left
  all_goals first | (simp only [↓R0, R1, simprocAttr, -Int.reduceAbs, t1, t2, s00]; done) | (simp only [↓R0, R1, simprocAttr, -Int.reduceAbs, t1, t2, s00]; rfl) | skip
  clear t0 t1 t2 t27 t28 t29 kc ac eHP hh gq hall rk fr xHt c1'
  rintro q tm hp2 nx ⟨i, M2, hni, t1, t2, t9, t77, t78, t79, t11, t12, hh, hM2, hnx⟩
  rw [hnx]
  clear hnx nx
  have hh0 : ExtL N h hp2 := ext_tr (by omega) xH hh
  have hv2 := ext_rats hN hv hh0
  have hv9 := hV _ hh
  by_cases c1 : i < os.length
  case pos =>
    have c1' : ((i : Int) < (os.length : Int)) = True := eq_true (by omega)
    have w1 : IntKind.i64.wrap ((i : Int) + 1) = ((i + 1 : Nat) : Int) := by rw [i64_in _ (by omega)]; omega
    by_cases s : sameTo (qsV VS) (qsV os) i
    case neg =>
      rw [decide_eq_false s] at t11
      have s' := decide_eq_false (sameTo_n s)
      simp only [↓R0, R1, simprocAttr, -Int.reduceAbs, rdS, t1, t2, t9, t77, t78, t79, t11, t12, c1', w1, s', Bool.not_false, Bool.not_true]
      exact ⟨q - 1, by omega, i + 1, M2, by omega, rfl, s'.symm ▸ rfl, hh, hM2, rfl⟩
    rw [decide_eq_true s] at t11
    obtain ⟨k1, f1, B1, rfl, b1, q1, q2⟩ := rq_at hv2 c1
    obtain ⟨k2, f2, B2, rfl, b2, q3, q4⟩ := rq_at (i := i) hv9 c1
    have cq : spQCmp [.agg ⟨(rqAt VS i).cells⟩, .agg ⟨(rqAt os i).cells⟩] = some (.int .i64 (qsV VS i - qsV os i).num.sign) := if_pos ⟨by have := (oV i c1).1; omega, by have := (oV i c1).2; omega, by have := (oO i c1).1; omega, by have := (oO i c1).2; omega⟩
    have s0 := sgn0 (qsV VS i) (qsV os i)
    have s' := sameTo_s s
    have ql : ∀ q : RQ, q.cells.length = 3 := fun _ => rfl
    have qo : ∀ q : RQ, q.cells.all okCell = true := fun _ => rfl
    have ql1 := ql (rqAt os i)
    have ql2 := ql (rqAt VS i)
    have qo1 := qo (rqAt os i)
    have qo2 := qo (rqAt VS i)
    generalize (rqAt os i).cells = P1 at *
    generalize (rqAt VS i).cells = P2 at *
    simp only [↓R0, R1, simprocAttr, -Int.reduceAbs, rdS, t1, t2, t9, t77, t78, t79, t11, t12, c1, c1', b1, b2, q1, q2, q3, q4, ql1, ql2, qo1, qo2, cq, s0, s', w1, Bool.not_false, Bool.not_true]
    exact ⟨q - 1, by omega, i + 1, M2, by omega, rfl, rfl, hh, hM2, rfl⟩
  have e' : i = os.length := by omega
  subst e'
  have c1' : ((os.length : Int) < (os.length : Int)) = False := eq_false (by omega)
  rw [L4] at t11
  have a00 := allTo_0 l os
  simp only [↓R0, R1, simprocAttr, -Int.reduceAbs, t1, t2, t9, t77, t78, t79, t11, t12, c1']
  refine lp_parts (fun q tm hp nx => ∃ (i M : Nat), q + i = l.length ∧ tmget tm 2 = .slice b os.length dd ∧ tmget tm 9 = .slice a9 os.length os.length ∧ tmget tm 96 = .slice a l.length cc ∧ tmget tm 97 = .int .i64 l.length ∧ tmget tm 98 = .int .i64 i ∧ tmget tm 11 = .bool (decide (allTo l os l.length)) ∧ tmget tm 12 = .bool (decide (allTo l os i)) ∧ ExtL M1 HP hp ∧ M1 ≤ M ∧ nx = M + 0) ?_ l.length
    ⟨0, M2, by omega, ?_, ?_, ?_, ?_, ?_, ?_, ?_, hh, hM2, rfl⟩
  rotate_left
  all_goals first | (simp only [↓R0, R1, simprocAttr, -Int.reduceAbs, t1, t2, t9, t11, t12, a00]; done) | (simp only [↓R0, R1, simprocAttr, -Int.reduceAbs, t1, t2, t9, t11, t12, a00]; rfl) | skip
  clear t1 t2 t9 t77 t78 t79 t11 t12 hh hh0 hv2 hv9 c1 c1' hM2 hni
  rintro q tm hp3 nx ⟨i, M3, hni, t2, t9, t96, t97, t98, t11, t12, hh, hM3, hnx⟩
  rw [hnx]
  clear hnx nx
  have hh0 : ExtL N h hp3 := ext_tr (by omega) xH hh
  have nbq : ∀ q, q < M1 → ∀ d, (M3 + d = q) = False := fun q hq d => eq_false (by omega)
  by_cases c1 : i < l.length
  case neg =>
    have e' : i = l.length := by omega
    subst e'
    have c1' : ((l.length : Int) < (l.length : Int)) = False := eq_false (by omega)
    generalize decide (allTo l os l.length) = bb at *
    simp only [↓R0, R1, simprocAttr, -Int.reduceAbs, rdS, fx, t2, t9, t96, t97, t98, t11, t12, c1', Fin, isEnd, resL, res1]
    exact ⟨_, rfl, rfl, hh0⟩
  have c1' : ((i : Int) < (l.length : Int)) = True := eq_true (by omega)
  have w1 : IntKind.i64.wrap ((i : Int) + 1) = ((i + 1 : Nat) : Int) := by rw [i64_in _ (by omega)]; omega
  obtain ⟨k, off, blk, a', n', c', rfl, hb, q1, q2, hn', hl'⟩ := eq_at hx c1
  have hk := hN _ _ hb
  have hbb : hget hp3 k = some blk := by rw [hh0 k hk]; exact hb
  have nk := nbq k (by omega)
  have he := eqAt_mem c1
  have xM := fun j b hp' => extL_ge (show M1 ≤ M3 by omega) j b HP hp'
  have xh : ExtL M1 HP hp3 = True := eq_true hh
  have h1 : ∀ {hp' : Heap}, ExtL M1 HP hp' → spHolds [.agg ⟨Value.slice a' n' c' :: (eqAt l i).tl⟩, .slice a9 os.length os.length] hp' = some (.bool true) := fun {hp'} hx' => by
    rw [holds_of (decEq_of (ext_rats hN hl' (ext_tr (by omega) xH hx'))) (hV _ hx') (ho1 _ he), L5 _ he]
  have h2 : ∀ {hp' : Heap}, ExtL M1 HP hp' → spHolds [.agg ⟨Value.slice a' n' c' :: (eqAt l i).tl⟩, .slice b os.length dd] hp' = some (.bool (holdsE (eqAt l i) os)) := fun {hp'} hx' => by
    have hx0 := ext_tr (by omega) xH hx'
    rw [holds_of (decEq_of (ext_rats hN hl' hx0)) (ext_rats hN hv hx0) (ho2 _ he)]
  have e5l : (Value.slice a' n' c' :: (eqAt l i).tl).length = 5 := rfl
  have e5o : (Value.slice a' n' c' :: (eqAt l i).tl).all okCell = true := rfl
  have e5t : (Value.slice a' n' c' :: (eqAt l i).tl).take 5 = Value.slice a' n' c' :: (eqAt l i).tl := rfl
  have e5s : setR [.slice none 0 0, .bool false, .string ⟨⟨[]⟩⟩, .string ⟨⟨[]⟩⟩, .int .i64 0] 0 (Value.slice a' n' c' :: (eqAt l i).tl) = Value.slice a' n' c' :: (eqAt l i).tl := rfl
  generalize Value.slice a' n' c' :: (eqAt l i).tl = C5 at *
  by_cases s : allTo l os i
  case neg =>
    rw [decide_eq_false s] at t12
    have s' := decide_eq_false (allTo_n s)
    generalize decide (allTo l os l.length) = bb at *
    simp only [↓R0, R1, simprocAttr, -Int.reduceAbs, rdS, t2, t9, t96, t97, t98, t11, t12, c1, c1', hbb, q1, q2, nk, e5l, e5o, e5t, e5s, h1, h2, xM, xh, w1, s', Bool.not_false, Bool.not_true]
    exact ⟨q - 1, by omega, i + 1, M3 + 1, by omega, rfl, s'.symm ▸ rfl, by omega, rfl⟩
  rw [decide_eq_true s] at t12
  have s' := allTo_s s
  rw [s'] at h2
  generalize decide (allTo l os l.length) = bb at *
  simp only [↓R0, R1, simprocAttr, -Int.reduceAbs, rdS, t2, t9, t96, t97, t98, t11, t12, c1, c1', hbb, q1, q2, nk, e5l, e5o, e5t, e5s, h1, h2, xM, xh, w1, Bool.not_false, Bool.not_true]
  exact ⟨q - 1, by omega, i + 1, M3 + 1, by omega, rfl, rfl, by omega, rfl⟩
end Go.Eng
end
section
set_option linter.unusedVariables false
set_option linter.unusedSimpArgs false
set_option linter.unusedSectionVars false
namespace Go.Eng.K
open Go.Eng
inductive Ki where
  | b | i (k : IntKind) | s
def kiFs (ty : TypeId → Option (List Ki)) (P : Program) : List Field → Nat → Option (List Ki)
  | [], _ => some []
  | f :: r, off =>
    if f.name ≠ "_" ∧ f.offset = off then
      match ty f.type, szOf P f.type with
      | some ks, some n => if ks.length = n then (kiFs ty P r (off + n)).map (ks ++ ·) else none
      | _, _ => none
    else none
def kiTy (P : Program) : Nat → TypeId → Option (List Ki)
  | 0, _ => none
  | d + 1, t =>
    match P.underlying t with
    | some .bool => some [.b]
    | some (.int k) => some [.i k]
    | some .string => some [.s]
    | some (.struct fs) => if P.stoodInHeld t then none else kiFs (kiTy P d) P fs.toList 0
    | some (.array len e) => match kiTy P d e, szOf P e with
      | some ks, some n => if ks.length = n then some (List.replicate len ks).flatten else none
      | _, _ => none
    | _ => none
def kmatch : List Ki → List Value → Prop
  | [], [] => True
  | .b :: ks, .bool _ :: r => kmatch ks r
  | .i k :: ks, .int k' n :: r => (k' = k ∧ (Lit.int k n).wf = true) ∧ kmatch ks r
  | .s :: ks, .string s :: r => s.size ≤ maxLen ∧ kmatch ks r
  | _, _ => False
theorem kmatch_append : ∀ {ks ks' : List Ki} {cs cs' : List Value}, kmatch ks cs → kmatch ks' cs' → kmatch (ks ++ ks') (cs ++ cs')
  | [], _, [], _, _, h => h
  | [], _, _ :: _, _, h, _ => h.elim
  | .b :: ks, ks', cs, cs', h, h' => by
    match cs, h with
    | .bool _ :: r, h => exact kmatch_append (ks := ks) h h'
  | .i k :: ks, ks', cs, cs', h, h' => by
    match cs, h with
    | .int _ _ :: r, h => exact ⟨h.1, kmatch_append (ks := ks) h.2 h'⟩
  | .s :: ks, ks', cs, cs', h, h' => by
    match cs, h with
    | .string _ :: r, h => exact ⟨h.1, kmatch_append (ks := ks) h.2 h'⟩
section
variable {H : Type} {enc : TypeId × Value → H} {P : Program}
theorem cellsOf_sz {t : TypeId} {n : Nat} (h : szOf P t = some n) : P.cellsOf t = n := by
  unfold Program.cellsOf; unfold szOf at h; rw [h]; rfl
def Plain (P : Program) (enc : TypeId × Value → H) (fuel : Nat) (t : TypeId) (ks : List Ki) : Prop :=
  ∀ (w : World) (base : Nat) (spare : Nat → Bool) (held : Bool) (cs : List Value) (x : DataW H × List MemPlace), DataW.trod enc P w base spare held fuel t cs = some x →
    kmatch ks cs ∧ x.2 = [] ∧ ∀ w' base' spare' held', DataW.trod enc P w' base' spare' held' fuel t cs = some x
theorem plain_fields {fuel : Nat} {ty : TypeId → Option (List Ki)} (hty : ∀ t ks n, ty t = some ks → szOf P t = some n → ks.length = n → Plain P enc fuel t ks) :
    ∀ (fs : List Field) (off : Nat) (ks : List Ki), kiFs ty P fs off = some ks → ∀ (w : World) (base : Nat) (spare : Nat → Bool) (held : Bool) (cs : List Value) (xs : List (DataW H × List MemPlace)),
      (fs.mapM fun f => DataW.trod enc P w base spare held fuel f.type ((cs.drop f.offset).take (P.cellsOf f.type))) = some xs → cs.length = off + ks.length →
      kmatch ks (cs.drop off) ∧ xs.flatMap (·.2) = [] ∧ ∀ w' base' spare' held', (fs.mapM fun f => DataW.trod enc P w' base' spare' held' fuel f.type ((cs.drop f.offset).take (P.cellsOf f.type))) = some xs
  | [], off, ks, h, w, base, spare, held, cs, xs, hm, hl => by
    simp only [kiFs, Option.some.injEq] at h
    subst h
    simp only [List.mapM_nil, Option.pure_def, Option.some.injEq] at hm
    subst hm
    simp only [List.length_nil, Nat.add_zero] at hl
    rw [List.drop_eq_nil_of_le (by omega)]
    exact ⟨trivial, rfl, fun _ _ _ _ => rfl⟩
  | f :: r, off, ks, h, w, base, spare, held, cs, xs, hm, hl => by
    simp only [kiFs] at h
    split at h
    case isFalse => cases h
    rename_i hc
    obtain ⟨_, hoff⟩ := hc
    split at h
    case h_2 => cases h
    rename_i ks0 n hk hn
    split at h
    case isFalse => cases h
    rename_i hlen
    rw [Option.map_eq_some_iff] at h
    obtain ⟨ks1, h1, rfl⟩ := h
    have hsz := cellsOf_sz hn
    simp only [List.mapM_cons, Option.bind_eq_bind, Option.bind_eq_some_iff, Option.pure_def, Option.some.injEq] at hm
    obtain ⟨y, hy, ys, hys, rfl⟩ := hm
    have hp := hty f.type ks0 n hk hn hlen w base spare held _ y hy
    obtain ⟨p1, p2, p3⟩ := hp
    simp only [List.length_append] at hl
    obtain ⟨q1, q2, q3⟩ := plain_fields hty r (off + n) ks1 h1 w base spare held cs ys hys (by omega)
    rw [hoff, hsz] at p1
    refine ⟨?_, ?_, ?_⟩
    · have e : cs.drop off = (cs.drop off).take n ++ cs.drop (off + n) := by
        rw [← List.drop_drop, List.take_append_drop]
      rw [e]
      exact kmatch_append p1 q1
    · simp only [List.flatMap_cons, p2, q2, List.nil_append]
    · intro w' base' spare' held'
      simp only [List.mapM_cons, Option.bind_eq_bind, Option.bind_eq_some_iff, Option.pure_def, Option.some.injEq]
      exact ⟨y, p3 w' base' spare' held', ys, q3 w' base' spare' held', rfl⟩
theorem plain_elems {fuel : Nat} {e : TypeId} {ks : List Ki} {n : Nat} (hn : szOf P e = some n) (hl : ks.length = n) (he : Plain P enc fuel e ks) :
    ∀ (m i0 : Nat) (w : World) (base : Nat) (spare : Nat → Bool) (held : Bool) (cs : List Value) (xs : List (DataW H × List MemPlace)),
      ((List.range' i0 m).mapM fun i => DataW.trod enc P w base spare held fuel e ((cs.drop (i * P.cellsOf e)).take (P.cellsOf e))) = some xs → cs.length = (i0 + m) * n →
      kmatch (List.replicate m ks).flatten (cs.drop (i0 * n)) ∧ xs.flatMap (·.2) = [] ∧ ∀ w' base' spare' held', ((List.range' i0 m).mapM fun i => DataW.trod enc P w' base' spare' held' fuel e ((cs.drop (i * P.cellsOf e)).take (P.cellsOf e))) = some xs
  | 0, i0, w, base, spare, held, cs, xs, hm, hlen => by
    simp only [List.range'_zero, List.mapM_nil, Option.pure_def, Option.some.injEq] at hm
    subst hm
    simp only [Nat.add_zero] at hlen
    rw [List.drop_eq_nil_of_le (by omega)]
    exact ⟨trivial, rfl, fun _ _ _ _ => by simp⟩
  | m + 1, i0, w, base, spare, held, cs, xs, hm, hlen => by
    have hsz := cellsOf_sz hn
    simp only [List.range'_succ, List.mapM_cons, Option.bind_eq_bind, Option.bind_eq_some_iff, Option.pure_def, Option.some.injEq] at hm
    obtain ⟨y, hy, ys, hys, rfl⟩ := hm
    obtain ⟨p1, p2, p3⟩ := he w base spare held _ y hy
    obtain ⟨q1, q2, q3⟩ := plain_elems hn hl he m (i0 + 1) w base spare held cs ys hys (by rw [hlen]; congr 1; omega)
    rw [hsz] at p1
    refine ⟨?_, ?_, ?_⟩
    · rw [List.replicate_succ, List.flatten_cons]
      have e : cs.drop (i0 * n) = (cs.drop (i0 * n)).take n ++ cs.drop ((i0 + 1) * n) := by
        rw [Nat.succ_mul, ← List.drop_drop, List.take_append_drop]
      rw [e]
      exact kmatch_append p1 q1
    · simp only [List.flatMap_cons, p2, q2, List.nil_append]
    · intro w' base' spare' held'
      simp only [List.range'_succ, List.mapM_cons, Option.bind_eq_bind, Option.bind_eq_some_iff, Option.pure_def, Option.some.injEq]
      exact ⟨y, p3 w' base' spare' held', ys, q3 w' base' spare' held', rfl⟩
theorem plain_ty : ∀ (fuel d : Nat) (t : TypeId) (ks : List Ki) (n : Nat), kiTy P d t = some ks → szOf P t = some n → ks.length = n → Plain P enc fuel t ks
  | 0, d, t, ks, n, h, hn, hl => by intro w base spare held cs x hx; simp [DataW.trod] at hx
  | fuel + 1, 0, t, ks, n, h, hn, hl => by simp [kiTy] at h
  | fuel + 1, d + 1, t, ks, n, h, hn, hl => by
    intro w base spare held cs x hx
    unfold kiTy at h
    unfold DataW.trod at hx ⊢
    split at h
    · rename_i hu
      cases h
      rw [hu] at hx ⊢
      match cs, hx with
      | [.bool b], hx => simp only [Option.some.injEq] at hx; subst hx; exact ⟨trivial, rfl, fun _ _ _ _ => rfl⟩
    · rename_i k hu
      cases h
      rw [hu] at hx ⊢
      match cs, hx with
      | [.int k' m], hx =>
        simp only at hx
        split at hx
        · rename_i hc
          simp only [Option.some.injEq] at hx; subst hx
          exact ⟨⟨hc, trivial⟩, rfl, fun _ _ _ _ => by simp only; rw [if_pos hc]⟩
        · cases hx
    · rename_i hu
      cases h
      rw [hu] at hx ⊢
      match cs, hx with
      | [.string s], hx =>
        simp only at hx
        split at hx
        · rename_i hc
          simp only [Option.some.injEq] at hx; subst hx
          exact ⟨⟨hc, trivial⟩, rfl, fun _ _ _ _ => by simp only; rw [if_pos hc]⟩
        · cases hx
    · rename_i fs hu
      split at h
      · cases h
      rw [hu] at hx ⊢
      simp only at hx ⊢
      split at hx
      case isFalse => cases hx
      rename_i hlen
      rw [Option.map_eq_some_iff] at hx
      obtain ⟨xs, hxs, rfl⟩ := hx
      rw [cellsOf_sz hn, ← hl] at hlen
      obtain ⟨p1, p2, p3⟩ := plain_fields (fuel := fuel) (fun t ks n h1 h2 h3 => plain_ty fuel d t ks n h1 h2 h3) fs.toList 0 ks h w base spare held cs xs hxs (by omega)
      refine ⟨by simpa using p1, p2, fun w' base' spare' held' => ?_⟩
      rw [if_pos (by rw [cellsOf_sz hn, ← hl, hlen]), p3]; rfl
    · rename_i len e hu
      split at h
      case h_2 => cases h
      rename_i ks0 m hk hm
      split at h
      case isFalse => cases h
      rename_i hlm
      simp only [Option.some.injEq] at h
      subst h
      rw [hu] at hx ⊢
      simp only at hx ⊢
      split at hx
      case isFalse => cases hx
      rename_i hlen
      rw [Option.map_eq_some_iff] at hx
      obtain ⟨xs, hxs, rfl⟩ := hx
      rw [cellsOf_sz hn, ← hl] at hlen
      rw [List.range_eq_range'] at hxs
      have hfl : ((List.replicate len ks0).flatten).length = len * m := by rw [List.length_flatten]; simp [hlm]
      obtain ⟨p1, p2, p3⟩ := plain_elems hm hlm (plain_ty fuel d e ks0 m hk hm hlm) len 0 w base spare held cs xs hxs (by rw [hlen, hfl, Nat.zero_add])
      refine ⟨by simpa using p1, p2, fun w' base' spare' held' => ?_⟩
      rw [if_pos (by rw [cellsOf_sz hn, ← hl, hlen]), List.range_eq_range', p3]; rfl
    · cases h
end
theorem wf_i64 {n : Int} (h : (Lit.int .i64 n).wf = true) : -9223372036854775808 ≤ n ∧ n ≤ 9223372036854775807 := by simpa [Lit.wf, IntKind.min, IntKind.max, IntKind.signed, IntKind.bits] using h
end Go.Eng.K
end
section
set_option linter.unusedVariables false
set_option linter.unusedSimpArgs false
set_option linter.unusedSectionVars false
namespace Go.Eng.K
open Go.Eng
theorem vr_ex (β : Emb) : ∀ v : Value, ∃ a, VR β a v := by
  have key : ∀ (n : Nat) (v : Value), SizeOf.sizeOf v < n → ∃ a, VR β a v := by
    intro n
    induction n with
    | zero => intro v h; omega
    | succ n ih =>
      intro v h
      have list : ∀ l : List Value, (∀ x ∈ l, SizeOf.sizeOf x < n) → ∃ bs, VRs β bs l := by
        intro l
        induction l with
        | nil => intro _; exact ⟨[], .nil⟩
        | cons x r ihl =>
          intro hx
          obtain ⟨a, ha⟩ := ih x (hx x (List.mem_cons_self ..))
          obtain ⟨bs, hs⟩ := ihl (fun y hy => hx y (List.mem_cons_of_mem _ hy))
          exact ⟨a :: bs, .cons _ _ _ _ ha hs⟩
      by_cases ho : okCell v = true
      · exact ⟨.chan none, .junk none v ho⟩
      · match v, ho, h with
        | .agg ⟨l⟩, _, h =>
          obtain ⟨bs, hs⟩ := list l (fun x hx => by
            have := List.sizeOf_lt_of_mem hx
            simp only [Value.agg.sizeOf_spec, Array.mk.sizeOf_spec] at h
            omega)
          exact ⟨.agg ⟨bs⟩, .agg _ _ hs⟩
        | .tuple ⟨l⟩, _, h =>
          obtain ⟨bs, hs⟩ := list l (fun x hx => by
            have := List.sizeOf_lt_of_mem hx
            simp only [Value.tuple.sizeOf_spec, Array.mk.sizeOf_spec] at h
            omega)
          exact ⟨.tuple ⟨bs⟩, .tup _ _ hs⟩
  exact fun v => key (SizeOf.sizeOf v + 1) v (Nat.lt_succ_self _)
def mirE (W : World) : Emb := fun k => if k < W.heap.size then some ⟨k, 0, []⟩ else none
open Classical in
noncomputable def absV (W : World) (v : Value) : Value :=
  match v with
  | .slice (some a) len cap =>
    if len = 0 then .slice (some ⟨0, 0, some 1⟩) 0 0
    else if a.spot = none ∧ a.block < W.heap.size then .slice (some a) len cap
    else Classical.choose (vr_ex (mirE W) (.slice (some a) len cap))
  | v => if isBase v = true then v else Classical.choose (vr_ex (mirE W) v)
theorem absV_vr (W : World) (v : Value) : VR (mirE W) (absV W v) v := by
  unfold absV
  split
  · rename_i a len cap
    split
    · rename_i h; subst h; exact .sle _ _
    · split
      · rename_i h
        obtain ⟨b, off, s⟩ := a
        obtain ⟨h1, h2⟩ := h
        simp only at h1 h2
        subst h1
        exact VR.sl b off len cap ⟨b, 0, []⟩ (by unfold mirE; rw [if_pos h2])
      · exact Classical.choose_spec (vr_ex (mirE W) _)
  · split
    · rename_i h; exact .base _ h
    · exact Classical.choose_spec (vr_ex (mirE W) _)
theorem absV_base {W : World} {v : Value} (h : isBase v = true) : absV W v = v := by
  unfold absV
  split
  · simp [isBase] at h
  · rw [if_pos h]
theorem absV_map (W : World) : ∀ l : List Value, VRs (mirE W) (l.map (absV W)) l
  | [] => .nil
  | v :: r => .cons _ _ _ _ (absV_vr W v) (absV_map W r)
theorem absV_bases {W : World} : ∀ {l : List Value}, l.all isBase = true → l.map (absV W) = l
  | [], _ => rfl
  | v :: r, h => by
    simp only [List.all_cons, Bool.and_eq_true] at h
    rw [List.map_cons, absV_base h.1, absV_bases h.2]
noncomputable def mirB (W : World) (b : Nat) : Option Blk :=
  match W.heap[b]? with
  | some (.cells c elem _) => some ⟨elem, 0, true, c.toList.map (absV W)⟩
  | _ => none
noncomputable def mirror (W : World) : Heap := (List.range W.heap.size).map fun b => (b, mirB W b)
theorem hget_map {f : Nat → Option Blk} {k : Nat} : ∀ (l : List Nat), hget (l.map fun b => (b, f b)) k = if k ∈ l then f k else none
  | [] => rfl
  | b :: r => by
    simp only [List.map_cons, hget]
    by_cases e : b = k
    · subst e; simp
    · rw [if_neg e, hget_map r]
      simp [Ne.symm e]
theorem mir_get (W : World) (k : Nat) : hget (mirror W) k = mirB W k := by
  unfold mirror
  rw [hget_map]
  by_cases h : k < W.heap.size
  · rw [if_pos (List.mem_range.2 h)]
  · rw [if_neg (by simpa using h)]
    unfold mirB
    rw [Array.getElem?_eq_none (by omega)]
theorem mir_blk {W : World} {k : Nat} {blk : Blk} (h : hget (mirror W) k = some blk) : k < W.heap.size ∧ ∃ C fr, W.heap[k]? = some (.cells ⟨C⟩ blk.elem fr) ∧ blk.sz = 0 ∧ blk.cells = C.map (absV W) := by
  rw [mir_get] at h
  unfold mirB at h
  split at h
  · rename_i c elem fr hk
    cases h
    refine ⟨?_, c.toList, fr, hk, rfl, rfl⟩
    rcases Nat.lt_or_ge k W.heap.size with h | h
    · exact h
    · rw [Array.getElem?_eq_none h] at hk; cases hk
  · cases h
theorem mir_wr {W : World} {k : Nat} : ¬ wr (mirror W) k := fun ⟨blk, h1, h2⟩ => by
  obtain ⟨_, C, fr, _, h3, _⟩ := mir_blk h1
  exact h2 h3
theorem mir_rel (W : World) : Rel (mirE W) (mirror W) W := by
  refine ⟨fun k blk hk => ?_, fun k k' L L' _ b => absurd b mir_wr, fun k L h => ?_⟩
  · obtain ⟨h1, C, fr, h2, h3, h4⟩ := mir_blk hk
    refine ⟨⟨k, 0, []⟩, C, fr, by unfold mirE; rw [if_pos h1], by simpa using h2, fun h => absurd h3 h, by rw [h4]; exact absV_map W C, by simp, fun _ => rfl⟩
  · unfold mirE at h
    split at h
    · rename_i hk; cases h; exact hk
    · cases h
theorem mir_calls {P : Program} {f : Nat} {S : List Value → Heap → Nat → Option Out} (hS : SpecOK P f S) {W : World} {aargs args : List Value} {v : Value} (h : S aargs (mirror W) W.heap.size = some (v, [], 0))
    (ha : VRs (mirE W) aargs args) (hv : isBase v = true) :
    Calls P f ⟨args⟩ W fun e W' => e = .returned v ∧ W'.os = W.os ∧ W'.output = W.output ∧ ∀ b, b < W.heap.size → W'.heap[b]? = W.heap[b]? := by
  have h := hS.ok aargs (mirror W) W.heap.size (v, [], 0) h (mirE W) W args ha (mir_rel W) (fun k h1 h2 => by simp only at h2; omega)
    ⟨W.heap.size, fun k hk => by
      rcases Nat.lt_or_ge k W.heap.size with h | h
      · exact h
      · exact absurd (by unfold mirE; rw [if_neg (by omega)]) hk⟩
  refine h.mono ?_
  rintro e W' ⟨β', v', he, hvr, hrel, hfr, _⟩
  exact ⟨by rw [he, hvr.base_left hv], hfr.os, hfr.out, fun b hb => hfr.keep b hb (fun k L hk => absurd hk mir_wr)⟩
theorem kept_of {W W' : World} (h1 : W'.os = W.os) (h2 : W'.output = W.output) (h3 : ∀ b, b < W.heap.size → W'.heap[b]? = W.heap[b]?) : W.keptBut W' (fun _ => False) := by
  refine ⟨h1, h2, fun i hi => ?_⟩
  rw [h3 i hi]
  cases W.heap[i]? with
  | none => rfl
  | some o =>
    cases o with
    | cells c t fr => exact ⟨rfl, rfl, rfl, fun _ _ => rfl⟩
    | map es cl => exact .inr ⟨rfl, rfl⟩
    | _ => rfl
section
variable {H : Type} {enc : TypeId × Value → H} {P : Program}
theorem trodAll_old {W W' : World} (hs : ∀ b, b < W.heap.size → W'.heap[b]? = W.heap[b]?) {base : Nat} {sp : Nat → Bool} {held : Bool} :
    ∀ {ts : List TypeId} {vs : List Value} {ds : List (DataW H)} {ps : List MemPlace}, DataW.TrodAll enc P W base sp held ts vs ds ps → DataW.TrodAll enc P W' base sp held ts vs ds ps
  | [], [], [], _, h => h
  | t :: ts, v :: vs, d :: ds, ps, ⟨p, q, ⟨n, h1⟩, h2, e⟩ => by
    have lt := DataW.trod_lt n _ _ _ h1
    refine ⟨p, q, ⟨n, DataW.trod_carry n _ _ _ h1 (fun x hx => ?_)⟩, trodAll_old hs h2, e⟩
    have hb := lt x hx
    cases x with
    | cell b off => simp only [MemPlace.block] at hb; simp only [World.sameAt, World.cell?, hs b hb]
    | map b => simp only [MemPlace.block] at hb; simp only [World.sameAt, hs b hb]
  | [], [], _ :: _, _, h => h.elim
  | [], _ :: _, _, _, h => by cases h
  | _ :: _, [], _, _, h => by cases h
  | _ :: _, _ :: _, [], _, h => by cases h
theorem args_again {W W' : World} (hl : laidOutB P = true) (hm : mapsRowed P = true) (hz : ((List.range P.types.size).all fun t => match P.underlying t with | some (.slice e) => decide (0 < P.cellsOf e) | _ => true) = true)
    (hs : ∀ b, b < W.heap.size → W'.heap[b]? = W.heap[b]?) {ts : List TypeId} (ht : ts.all (fun t => decide (t < P.types.size)) = true) {vs : List Value} {ds : List (DataW H)} {ps : List MemPlace} (h : DataW.TrodAll enc P W 0 (fun _ => true) true ts vs ds ps) :
    DataW.TrodAll enc P W' 0 (fun b => decide (b < W.heap.size)) true ts vs ds ps := by
  refine DataW.TrodAll.respare (kids_rows hl hm) (slices_full_of P hz) (fun t h => of_decide_eq_true (List.all_eq_true.1 ht t h)) (trodAll_old hs h) (fun p hp => ?_)
  exact decide_eq_true (DataW.TrodAll.lt h p hp)
theorem mir_at {W : World} {a : Addr} {n : Nat} {cs : List Value} (hn : 0 < n) (h : W.cells? 0 a n = some cs) :
    a.spot = none ∧ a.block < W.heap.size ∧ ∃ blk, hget (mirror W) a.block = some blk ∧ a.off + n ≤ blk.cells.length ∧ (blk.cells.drop a.off).take n = cs.map (absV W) := by
  obtain ⟨_, hlen, hc⟩ := World.cells?_some h
  have h0 := hc 0 hn
  rw [List.getElem?_eq_getElem (by omega)] at h0
  have e0 : a.add 0 = a := rfl
  rw [e0] at h0
  unfold World.cell? at h0
  split at h0
  case h_2 => cases h0
  rename_i c elem fr hk
  split at h0
  case isTrue => cases h0
  rename_i hsp
  have hspot : a.spot = none := by cases h : a.spot with | none => rfl | some s => rw [h] at hsp; simp at hsp
  have hlt : a.block < W.heap.size := by
    rcases Nat.lt_or_ge a.block W.heap.size with h | h
    · exact h
    · rw [Array.getElem?_eq_none h] at hk; cases hk
  have cell : ∀ i, i < n → c.toList[a.off + i]? = cs[i]? := fun i hi => by
    have := hc i hi
    rw [← this]
    have ea : a.add i = ⟨a.block, a.off + i, none⟩ := by
      unfold Addr.add
      split
      · rename_i h0; subst h0; cases a; simp_all
      · rfl
    rw [ea]
    simp only [World.cell?, hk]
    simp
  have hle : a.off + n ≤ c.toList.length := by
    have := cell (n - 1) (by omega)
    rw [List.getElem?_eq_getElem (by omega : n - 1 < cs.length)] at this
    have := (List.getElem?_eq_some_iff.1 this).1
    omega
  refine ⟨hspot, hlt, ⟨elem, 0, true, c.toList.map (absV W)⟩, ?_, by simpa using hle, ?_⟩
  · rw [mir_get]; unfold mirB; rw [hk]
  · refine List.ext_getElem? fun i => ?_
    rw [List.getElem?_take]
    by_cases hi : i < n
    · rw [if_pos hi, List.getElem?_drop, List.getElem?_map, List.getElem?_map, cell i hi]
    · rw [if_neg hi, List.getElem?_eq_none (by simp; omega)]
theorem many_ex {α : Type} {sz : Nat} {dec : List Value → Option α} : ∀ (l : Nat) (cs : List Value), (∀ i, i < l → ∃ x, dec ((cs.drop (i * sz)).take sz) = some x) → ∃ xs, many sz dec l cs = some xs
  | 0, cs, _ => ⟨[], rfl⟩
  | l + 1, cs, h => by
    obtain ⟨x, hx⟩ := h 0 (by omega)
    simp only [Nat.zero_mul, List.drop_zero] at hx
    obtain ⟨xs, hxs⟩ := many_ex l (cs.drop sz) (fun i hi => by
      obtain ⟨y, hy⟩ := h (i + 1) (by omega)
      refine ⟨y, ?_⟩
      rw [List.drop_drop, ← hy, Nat.succ_mul, Nat.add_comm (i * sz) sz])
    refine ⟨x :: xs, ?_⟩
    unfold many
    simp only [hx, hxs]
theorem mir_list {W : World} {α : Type} {dec : List Value → Option α} {t e : TypeId} {n fuel : Nat} {held : Bool} {sv : Value} {x : DataW H × List MemPlace} (ht : P.underlying t = some (.slice e)) (hsz : P.cellsOf e = n) (hn : 0 < n)
    (h : DataW.trod enc P W 0 (fun _ => true) held fuel t [sv] = some x)
    (hdec : ∀ (m : Nat) (cs : List Value) (y : DataW H × List MemPlace), DataW.trod enc P W 0 (fun _ => true) held m e cs = some y → ∃ z, dec (cs.map (absV W)) = some z) :
    ∃ xs, listAt n dec (mirror W) (absV W sv) = some xs ∧ xs.length ≤ maxLen := by
  rcases Go.Deep.open_slice ht h with ⟨h1, _⟩ | ⟨a, len, cap, m, k, D, Pl, h1, _, hl, hm, hmm, _, hx⟩
  · simp only [List.cons.injEq, and_true] at h1
    subst h1
    exact ⟨[], by rw [absV_base rfl]; rfl, by simp⟩
  · simp only [List.cons.injEq, and_true] at h1
    subst h1
    simp only [if_true] at hmm
    subst hmm
    rw [hsz] at hx
    by_cases h0 : len = 0
    · subst h0
      exact ⟨[], by unfold absV; simp only [if_true]; rfl, by simp⟩
    · obtain ⟨c0, hc0, _⟩ := hx 0 (by omega)
      rw [Nat.zero_mul] at hc0
      obtain ⟨s1, s2, blk, s3, _, _⟩ := mir_at hn hc0
      have ev : absV W (.slice (some a) len m) = .slice (some a) len m := by unfold absV; simp only; rw [if_neg h0, if_pos ⟨s1, s2⟩]
      obtain ⟨b, off, sp⟩ := a
      replace s1 : sp = none := s1
      replace s3 : hget (mirror W) b = some blk := s3
      subst s1
      have cell : ∀ i, i < len → ∃ cs, off + i * n + n ≤ blk.cells.length ∧ (blk.cells.drop (off + i * n)).take n = cs.map (absV W) ∧ ∃ y, DataW.trod enc P W 0 (fun _ => true) held k e cs = some y := fun i hi => by
        obtain ⟨cs, hc, hy⟩ := hx i (by omega)
        obtain ⟨q1, q2, blk', q3, q4, q5⟩ := mir_at hn hc
        have ea : (⟨b, off, none⟩ : Addr).add (i * n) = ⟨b, off + i * n, none⟩ := add_none _ _ _
        rw [ea] at q3 q4 q5
        replace q3 : hget (mirror W) b = some blk' := q3
        replace q4 : off + i * n + n ≤ blk'.cells.length := q4
        replace q5 : (blk'.cells.drop (off + i * n)).take n = cs.map (absV W) := q5
        rw [s3] at q3; cases q3
        exact ⟨cs, q4, q5, _, hy⟩
      have hle : off + len * n ≤ blk.cells.length := by
        obtain ⟨_, q, _⟩ := cell (len - 1) (by omega)
        obtain ⟨l', rfl⟩ : ∃ l', len = l' + 1 := ⟨len - 1, by omega⟩
        simp only [Nat.add_sub_cancel] at q
        rw [Nat.succ_mul]; omega
      have la : lay n (mirror W) (.slice (some ⟨b, off, none⟩) len m) = some ((blk.cells.drop off).take (len * n)) := by
        obtain ⟨l', rfl⟩ : ∃ l', len = l' + 1 := ⟨len - 1, by omega⟩
        unfold lay
        simp only [s3]
        rw [if_pos ⟨hl, hle⟩]
      obtain ⟨xs, hxs⟩ := many_ex (sz := n) (dec := dec) len ((blk.cells.drop off).take (len * n)) (fun i hi => by
        obtain ⟨cs, q1, q2, y, q3⟩ := cell i hi
        obtain ⟨z, hz⟩ := hdec k cs y q3
        refine ⟨z, ?_⟩
        rw [List.drop_take, List.take_take, List.drop_drop]
        have : n ≤ len * n - i * n := by rw [← Nat.sub_mul]; exact Nat.le_mul_of_pos_left _ (by omega)
        rw [Nat.min_eq_left this, q2]
        exact hz)
      refine ⟨xs, ?_, ?_⟩
      · rw [ev]
        unfold listAt
        rw [la]
        exact hxs
      · rw [(many_get hxs).1]; omega
theorem kmatch_base : ∀ {ks : List Ki} {cs : List Value}, kmatch ks cs → cs.all isBase = true
  | [], [], _ => rfl
  | .b :: ks, cs, h => by
    match cs, h with
    | .bool _ :: r, h => simp only [List.all_cons, isBase, Bool.true_and]; exact kmatch_base (ks := ks) h
  | .i k :: ks, cs, h => by
    match cs, h with
    | .int _ _ :: r, h => simp only [List.all_cons, isBase, Bool.true_and]; exact kmatch_base (ks := ks) h.2
  | .s :: ks, cs, h => by
    match cs, h with
    | .string _ :: r, h => simp only [List.all_cons, isBase, Bool.true_and]; exact kmatch_base (ks := ks) h.2
end
end Go.Eng.K
end
section
set_option linter.unusedVariables false
set_option linter.unusedSimpArgs false
set_option linter.unusedSectionVars false
namespace Go.Eng
structure Pt where
  (s1 : Bool) (l1 : List UInt8) (s2 : Bool) (l2 : List UInt8) (s3 : Bool) (l3 : List UInt8) (s4 : Bool) (l4 : List UInt8)
deriving DecidableEq
namespace Pt
def cells (p : Pt) : List Value := [.bool p.s1, .string ⟨⟨p.l1⟩⟩, .bool p.s2, .string ⟨⟨p.l2⟩⟩, .bool p.s3, .string ⟨⟨p.l3⟩⟩, .bool p.s4, .string ⟨⟨p.l4⟩⟩]
def x (p : Pt) : Int := sv p.s1 p.l1
def y (p : Pt) : Int := sv p.s2 p.l2
def z (p : Pt) : Int := sv p.s3 p.l3
def w (p : Pt) : Int := sv p.s4 p.l4
def cmp (p q : Pt) : Int := cmp4 p.x p.y p.z p.w q.x q.y q.z q.w
def on (p q r : Pt) : Prop := flt p.x p.y p.z p.w q.x q.y q.z q.w r.x r.y r.z r.w
instance {p q r : Pt} : Decidable (on p q r) := by unfold on; infer_instance
def ok (p : Pt) : Prop := (p.l1.length ≤ 65536 ∧ p.l2.length ≤ 65536 ∧ p.l3.length ≤ 65536 ∧ p.l4.length ≤ 65536) ∧ 0 < p.w
instance {p : Pt} : Decidable p.ok := by unfold ok; infer_instance
def hi (p q : Pt) : Pt := if 0 < cmp p q then p else q
end Pt
end Go.Eng
end
section
set_option linter.unusedVariables false
set_option linter.unusedSimpArgs false
set_option linter.unusedSectionVars false
namespace Go.Eng
namespace Pt
def dflt : Pt := ⟨false, [], false, [], false, [], false, []⟩
def sz (k : Nat) (p : Pt) : Prop := p.l1.length ≤ k ∧ p.l2.length ≤ k ∧ p.l3.length ≤ k ∧ p.l4.length ≤ k
instance {k : Nat} {p : Pt} : Decidable (p.sz k) := by unfold sz; infer_instance
def c1 (p : Pt) : List Value := [.bool p.s1, .string ⟨⟨p.l1⟩⟩]
def c2 (p : Pt) : List Value := [.bool p.s2, .string ⟨⟨p.l2⟩⟩]
def c3 (p : Pt) : List Value := [.bool p.s3, .string ⟨⟨p.l3⟩⟩]
theorem g1 (p : Pt) : p.cells.take 2 = p.c1 := rfl
theorem g2 (p : Pt) : (p.cells.drop 2).take 2 = p.c2 := rfl
theorem g3 (p : Pt) : (p.cells.drop 4).take 2 = p.c3 := rfl
end Pt
def ptAt (l : List Pt) (i : Nat) : Pt := (l[i]?).getD Pt.dflt
def awx (a b : Pt) : Int := b.x * a.w - a.x * b.w
def awy (a b : Pt) : Int := b.y * a.w - a.y * b.w
def awz (a b : Pt) : Int := b.z * a.w - a.z * b.w
def lftZ (P a b x : Pt) : Int :=
  0 + P.x * (awy a b * awz a x - awz a b * awy a x) + P.y * (awz a b * awx a x - awx a b * awz a x) + P.z * (awx a b * awy a x - awy a b * awx a x)
def turnsP (P : Pt) (l : List Pt) : Prop := ∀ i, i < l.length → ∀ j, j < l.length → j ≠ i → j ≠ (i + 1) % l.length → 0 < lftZ P (ptAt l i) (ptAt l ((i + 1) % l.length)) (ptAt l j)
instance {P : Pt} {l : List Pt} : Decidable (turnsP P l) := by unfold turnsP; infer_instance
end Go.Eng
end
section
set_option linter.unusedVariables false
set_option linter.unusedSimpArgs false
set_option linter.unusedSectionVars false
namespace Go.Eng.K
open Go.Eng
section
variable {H : Type} {enc : TypeId × Value → H} {P : Program}
theorem trod_struct {w : World} {base : Nat} {spare : Nat → Bool} {held : Bool} {fuel : Nat} {t : TypeId} {cs : List Value} {x : DataW H × List MemPlace} {fs : Array Field} (hu : P.underlying t = some (.struct fs))
    (h : DataW.trod enc P w base spare held fuel t cs = some x) :
    cs.length = P.cellsOf t ∧ ∃ fuel' xs, fs.toList.mapM (fun f => DataW.trod enc P w base spare held fuel' f.type ((cs.drop f.offset).take (P.cellsOf f.type))) = some xs ∧ x = (.agg (xs.map (·.1)), xs.flatMap (·.2)) := by
  cases fuel with
  | zero => simp [DataW.trod] at h
  | succ fuel =>
    unfold DataW.trod at h
    rw [hu] at h
    simp only at h
    split at h
    case isFalse => cases h
    rename_i hl
    rw [Option.map_eq_some_iff] at h
    obtain ⟨xs, hx, rfl⟩ := h
    exact ⟨hl, fuel, xs, hx, rfl⟩
def sumL : List Nat → Nat
  | [] => 0
  | x :: r => x + sumL r
variable (bulk : DataW H → Nat) (b1 : ∀ b : List UInt8, b.length ≤ bulk (.lit (.string b))) (b2 : ∀ ps : List (DataW H), sumL (ps.map bulk) ≤ bulk (.agg ps))
include b1 b2 in
include b1 b2 in
end
end Go.Eng.K
end
section
set_option linter.unusedVariables false
set_option linter.unusedSimpArgs false
set_option linter.unusedSectionVars false
namespace Go.Eng.K
open Go.Eng Go.WideShapes
section
variable {H : Type} {enc : TypeId × Value → H} {P : Program}
theorem km_q {cs : List Value} (h : kmatch [.b, .s, .s] cs) : ∃ q : RQ, cs = q.cells := by
  match cs, h with
  | [.bool s, .string ⟨⟨n⟩⟩, .string ⟨⟨d⟩⟩], _ => exact ⟨⟨s, n, d⟩, rfl⟩
theorem km_i {k : IntKind} {cs : List Value} (h : kmatch [.i k] cs) : ∃ n, cs = [.int k n] := by
  match cs, h with
  | [.int k' n], h => obtain ⟨⟨rfl, _⟩, _⟩ := h; exact ⟨n, rfl⟩
theorem rats_trod {W : World} {fuel : Nat} {tv tq : TypeId} {sv : Value} {x : DataW H × List MemPlace} (hv : P.underlying tv = some (.slice tq)) (hq : kiTy P 20 tq = some [.b, .s, .s]) (hs : szOf P tq = some 3)
    (h : DataW.trod enc P W 0 (fun _ => true) true fuel tv [sv] = some x) : ∃ l, listAt 3 dec1 (mirror W) (absV W sv) = some l ∧ l.length ≤ maxLen :=
  mir_list (dec := dec1) (n := 3) hv (cellsOf_sz hs) (by omega) h (fun m cs y hy => by
    obtain ⟨km, _, _⟩ := plain_ty m 20 tq _ 3 hq hs rfl W 0 _ true _ y hy
    obtain ⟨q, eq⟩ := km_q km
    rw [absV_bases (kmatch_base km), eq]
    exact ⟨q, rfl⟩)
theorem open_rats {W : World} {base : Nat} {t tq : TypeId} {v : Value} {d : DataW H} {ps : List MemPlace} (hv : P.underlying t = some (.slice tq)) (hq : kiTy P 20 tq = some [.b, .s, .s]) (hs : szOf P tq = some 3)
    (hval : Value.okWide P W .any base t v) (h : DataW.Trod enc P W 0 (fun _ => true) true t v d ps) : ∃ l, listAt 3 dec1 (mirror W) (absV W v) = some l ∧ l.length ≤ maxLen := by
  obtain ⟨a, len, cap, rfl⟩ := okWide_slice hv hval
  obtain ⟨fuel, h⟩ := h
  exact rats_trod hv hq hs h
theorem five {l : List Value} (h : l.length = 5) : ∃ a b c d e, l = [a, b, c, d, e] := by
  match l, h with
  | [a, b, c, d, e], _ => exact ⟨a, b, c, d, e, rfl⟩
theorem open_eqs {W : World} {base : Nat} {t te tc tq ti : TypeId} {n1 n2 n3 g1 g2 g3 q1 q2 q3 : String} {b1 b2 b3 c1 c2 c3 : _} {v : Value} {d : DataW H} {ps : List MemPlace} (ht : P.underlying t = some (.slice te))
    (hu : P.underlying te = some (.struct #[⟨n1, tc, 0, b1, g1, q1, c1⟩, ⟨n2, tq, 1, b2, g2, q2, c2⟩, ⟨n3, ti, 4, b3, g3, q3, c3⟩])) (hce : P.cellsOf te = 5) (hv : P.underlying tc = some (.slice tq)) (hcc : P.cellsOf tc = 1)
    (hq : kiTy P 20 tq = some [.b, .s, .s]) (hs : szOf P tq = some 3) (hi : kiTy P 20 ti = some [.i .i64]) (hsi : szOf P ti = some 1)
    (hval : Value.okWide P W .any base t v) (h : DataW.Trod enc P W 0 (fun _ => true) true t v d ps) : ∃ l, decRows (mirror W) (absV W v) = some l ∧ l.length ≤ maxLen := by
  obtain ⟨a, len, cap, rfl⟩ := okWide_slice ht hval
  obtain ⟨fuel, h⟩ := h
  unfold decRows
  refine mir_list (dec := decEq (mirror W)) (n := 5) ht hce (by omega) h (fun m cs y hy => ?_)
  obtain ⟨hl, fuel', xs, hx, _⟩ := trod_struct hu hy
  rw [hce] at hl
  simp only [List.mapM_cons, List.mapM_nil, Option.bind_eq_bind, Option.bind_eq_some_iff, Option.pure_def, Option.some.injEq] at hx
  obtain ⟨y1, hy1, ys, ⟨y2, hy2, zs, ⟨y3, hy3, _⟩, _⟩, _⟩ := hx
  have e3 : P.cellsOf tq = 3 := cellsOf_sz hs
  have e1 : P.cellsOf ti = 1 := cellsOf_sz hsi
  rw [hcc] at hy1
  rw [e3] at hy2
  rw [e1] at hy3
  obtain ⟨k0, k1, k2, k3, k4, rfl⟩ := five hl
  have hy1 : DataW.trod enc P W 0 (fun _ => true) true fuel' tc [k0] = some y1 := hy1
  have hy2 : DataW.trod enc P W 0 (fun _ => true) true fuel' tq [k1, k2, k3] = some y2 := hy2
  have hy3 : DataW.trod enc P W 0 (fun _ => true) true fuel' ti [k4] = some y3 := hy3
  obtain ⟨l, hl1, _⟩ := rats_trod hv hq hs hy1
  obtain ⟨km, _, _⟩ := plain_ty fuel' 20 tq _ 3 hq hs rfl W 0 _ true _ y2 hy2
  obtain ⟨q, eq⟩ := km_q km
  obtain ⟨ki, _, _⟩ := plain_ty fuel' 20 ti _ 1 hi hsi rfl W 0 _ true _ y3 hy3
  obtain ⟨n, en⟩ := km_i ki
  simp only [RQ.cells, List.cons.injEq, and_true] at eq en
  obtain ⟨rfl, rfl, rfl⟩ := eq
  subst en
  refine ⟨⟨l, q, n⟩, ?_⟩
  simp only [List.map_cons, List.map_nil]
  rw [absV_base (v := .bool q.s) rfl, absV_base (v := .string ⟨⟨q.n⟩⟩) rfl, absV_base (v := .string ⟨⟨q.d⟩⟩) rfl, absV_base (v := .int .i64 n) rfl]
  exact decEq_of (e := ⟨l, q, n⟩) hl1
end
end Go.Eng.K
end
