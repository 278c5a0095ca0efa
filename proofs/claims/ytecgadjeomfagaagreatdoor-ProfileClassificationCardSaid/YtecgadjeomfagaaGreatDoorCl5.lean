/-
  A part of the proof: the machine, the contracts of the functions and the plain laws, merged from smaller texts.
-/
import Derived.Test.YtecgadjeomfagaaGreatDoorCl4
import Derived.RowKit3
import Derived.ChangeSame
import Derived.ReadAgain
import Derived.Deep.Slices
import Derived.WideShapes
section
set_option linter.unusedVariables false
set_option linter.unusedSimpArgs false
set_option linter.unusedSectionVars false
set_option maxRecDepth 20000
namespace Go.Eng
open Go Go.Proofs Go.IntWalk
def prM (L : List P2) (i k : Nat) : Prop := if (i + 1) % L.length = k then onB (vt L i) (vt L (i + 1)) (vt L (k + 1)) = false ∧ onB (vt L k) (vt L (k + 1)) (vt L i) = false
   else ((k + 1) % L.length ≠ i → meetB (vt L i) (vt L (i + 1)) (vt L k) (vt L (k + 1)) = false)
theorem may_prM {L : List P2} : mayP L ↔ 3 ≤ L.length ∧ (∀ i, i < L.length → ∀ k, k < i → cmpP (vt L i) (vt L k) ≠ 0) ∧ ∀ i, i < L.length → ∀ k, k < L.length → k ≠ i → prM L i k := Iff.rfl
def mayB (L : List P2) : Bool := decide (L.length ≤ 12 ∧ mayP L)
def spMay : List Value → Heap → Option Value
  | [sl], h => match decPts h sl with
    | some l => if ptsOK l then some (.bool (mayB (pvs l))) else none
    | none => none
  | _, _ => none
theorem may_of {h : Heap} {sl : Value} {l : List PQ} (hx : decPts h sl = some l) (hs : ptsOK l) : spMay [sl] h = some (.bool (mayB (pvs l))) := by
  unfold spMay
  simp only [hx]
  exact if_pos hs
def c13 : ICode :=
  (.seq (.reg [qq 2 (.mv (.c (.bool false)))]) (.seq (.reg [qq 12 (.mv (.t 0)), qq 13 (.lensl (.t 12)), qq 3 (.mv (.t 13))]) (.seq (.seq (.reg [qq 14 (.mv (.t 3)), qq 15 (.bin .lss (.t 14) (ci 3)), qq 16 (.mv (.t 15)), ⟨(some 17), (some (16, false)), (.mv (.t 3))⟩, ⟨(some 18), (some (16, false)), (.bin .gtr (.t 17) (ci 12))⟩, qq 19 (.pick (.t 16) (.c (.bool true)) (.t 18))]) (.cond (.t 19) (.seq (.reg [qq 2 (.mv (.c (.bool false)))]) .ret) .skip)) (.seq (.seq (.reg [qq 4 (.mv (ci 0))]) (.block 0 (.loop (.seq (.seq (.reg [qq 20 (.mv (.t 4)), qq 21 (.mv (.t 3)), qq 22 (.bin .lss (.t 20) (.t 21))]) (.cond (.t 22) .skip (.exit 0))) (.seq (.block 1 (.seq (.reg [qq 5 (.mv (ci 0))]) (.block 2 (.loop (.seq (.seq (.reg [qq 25 (.mv (.t 5)), qq 26 (.mv (.t 4)), qq 27 (.bin .lss (.t 25) (.t 26))]) (.cond (.t 27) .skip (.exit 2))) (.seq (.block 3 (.seq (.dreg [qu 30 (.mv (.t 0)), qu 31 (.mv (.t 4)), qu 32 (.ixsl 6 (.t 30) (.t 31)), qu 33 (.load true 6 (.t 32)), qu 34 (.mv (.t 0)), qu 35 (.mv (.t 5)), qu 36 (.ixsl 6 (.t 34) (.t 35)), qu 37 (.load true 6 (.t 36)), qu 38 (.call 29 [(.t 33), (.t 37)]), qu 39 (.bin .eql (.t 38) (ci 0))]) (.cond (.t 39) (.seq (.reg [qq 2 (.mv (.c (.bool false)))]) .ret) .skip))) (.reg [qq 28 (.mv (.t 5)), qq 29 (.bin .add (.t 28) (ci 1)), qq 5 (.mv (.t 29))]))))))) (.reg [qq 23 (.mv (.t 4)), qq 24 (.bin .add (.t 23) (ci 1)), qq 4 (.mv (.t 24))])))))) (.seq (.seq (.reg [qq 6 (.mv (ci 0))]) (.block 4 (.loop (.seq (.seq (.reg [qq 40 (.mv (.t 6)), qq 41 (.mv (.t 3)), qq 42 (.bin .lss (.t 40) (.t 41))]) (.cond (.t 42) .skip (.exit 4))) (.seq (.block 5 (.seq (.dreg [qu 45 (.mv (.t 0)), qu 46 (.mv (.t 6)), qu 47 (.ixsl 6 (.t 45) (.t 46)), qu 48 (.load true 6 (.t 47)), qu 49 (.mv (.t 0)), qu 50 (.mv (.t 6)), qu 51 (.bin .add (.t 50) (ci 1)), qu 52 (.mv (.t 3)), qu 53 (.bin .rem (.t 51) (.t 52)), qu 54 (.ixsl 6 (.t 49) (.t 53)), qu 55 (.load true 6 (.t 54)), qu 7 (.alloc 34 6 [(.bool false), e0, e0, (.bool false), e0, e0]), qu 8 (.alloc 34 6 [(.bool false), e0, e0, (.bool false), e0, e0]), ⟨none, none, [1010], (.store 6 (.t 7) (.t 48))⟩, qm (.store 6 (.t 8) (.t 55))]) (.seq (.reg [qq 9 (.mv (ci 0))]) (.block 6 (.loop (.seq (.seq (.reg [qq 56 (.mv (.t 9)), qq 57 (.mv (.t 3)), qq 58 (.bin .lss (.t 56) (.t 57))]) (.cond (.t 58) .skip (.exit 6))) (.seq (.block 7 (.seq (.dreg [qu 61 (.mv (.t 0)), qu 62 (.mv (.t 9)), qu 63 (.ixsl 6 (.t 61) (.t 62)), qu 64 (.load true 6 (.t 63)), qu 65 (.mv (.t 0)), qu 66 (.mv (.t 9)), qu 67 (.bin .add (.t 66) (ci 1)), qu 68 (.mv (.t 3)), qu 69 (.bin .rem (.t 67) (.t 68)), qu 70 (.ixsl 6 (.t 65) (.t 69)), qu 71 (.load true 6 (.t 70)), qu 10 (.alloc 34 6 [(.bool false), e0, e0, (.bool false), e0, e0]), qu 11 (.alloc 34 6 [(.bool false), e0, e0, (.bool false), e0, e0]), ⟨none, none, [1010], (.store 6 (.t 10) (.t 64))⟩, qm (.store 6 (.t 11) (.t 71))]) (.seq (.seq (.reg [qq 72 (.mv (.t 9)), qq 73 (.mv (.t 6)), qq 74 (.bin .eql (.t 72) (.t 73))]) (.cond (.t 74) (.exit 7) .skip)) (.seq (.reg [qq 75 (.mv (.t 6)), qq 76 (.bin .add (.t 75) (ci 1)), qq 77 (.mv (.t 3)), qq 78 (.bin .rem (.t 76) (.t 77)), qq 79 (.mv (.t 9)), qq 80 (.bin .eql (.t 78) (.t 79))]) (.cond (.t 80) (.seq (.reg [qq 81 (.load true 6 (.t 7)), qq 82 (.load true 6 (.t 8)), qq 83 (.load true 6 (.t 11)), qq 84 (.call 39 [(.t 81), (.t 82), (.t 83)]), qq 85 (.mv (.t 84)), ⟨(some 86), (some (85, false)), (.load true 6 (.t 10))⟩, ⟨(some 87), (some (85, false)), (.load true 6 (.t 11))⟩, ⟨(some 88), (some (85, false)), (.load true 6 (.t 7))⟩, ⟨(some 89), (some (85, false)), (.call 39 [(.t 86), (.t 87), (.t 88)])⟩, qq 90 (.pick (.t 85) (.c (.bool true)) (.t 89))]) (.cond (.t 90) (.seq (.reg [qq 2 (.mv (.c (.bool false)))]) .ret) .skip)) (.seq (.reg [qq 91 (.mv (.t 9)), qq 92 (.bin .add (.t 91) (ci 1)), qq 93 (.mv (.t 3)), qq 94 (.bin .rem (.t 92) (.t 93)), qq 95 (.mv (.t 6)), qq 96 (.bin .neq (.t 94) (.t 95)), qq 97 (.mv (.t 96)), ⟨(some 98), (some (97, true)), (.load true 6 (.t 7))⟩, ⟨(some 99), (some (97, true)), (.load true 6 (.t 8))⟩, ⟨(some 100), (some (97, true)), (.load true 6 (.t 10))⟩, ⟨(some 101), (some (97, true)), (.load true 6 (.t 11))⟩, ⟨(some 102), (some (97, true)), (.call 40 [(.t 98), (.t 99), (.t 100), (.t 101)])⟩, qq 103 (.pick (.t 97) (.t 102) (.c (.bool false)))]) (.cond (.t 103) (.seq (.reg [qq 2 (.mv (.c (.bool false)))]) .ret) .skip))))))) (.reg [qq 59 (.mv (.t 9)), qq 60 (.bin .add (.t 59) (ci 1)), qq 9 (.mv (.t 60))])))))))) (.reg [qq 43 (.mv (.t 6)), qq 44 (.bin .add (.t 43) (ci 1)), qq 6 (.mv (.t 44))])))))) (.seq (.reg [qq 2 (.mv (.c (.bool true)))]) .ret))))))
theorem tr13 : trFun Tryz.prog 13 = some ⟨104, [.t 2], c13⟩ := by kernel_rfl
set_option maxHeartbeats 16000000 in
theorem ok_may26 : SpecOK Tryz.prog 13 (rdS spMay) := by
  refine rd_run (env_cons ok_cmp26 (env_cons ok_on26 (env_cons ok_meet26 (env_nil _)))) mixed tr13 ?_ ?_
  · intro args h h' v hle e
    unfold spMay at e ⊢
    split at e
    · split at e
      · rename_i l hb
        simp only [decPts_mono hle hb]; exact e
      · cases e
    · cases e
  intro args v h N hG hN
  unfold spMay at hG
  split at hG
  case h_2 => cases hG
  rename_i sl
  split at hG
  case h_2 => cases hG
  rename_i l hx
  split at hG
  case isFalse => cases hG
  rename_i hs
  cases hG
  obtain ⟨a, cc, rfl⟩ := decPts_sl hx
  refine ⟨rfl, by simp, ?_⟩
  have l1000 := hs.1
  have nbN : ∀ q, q < N → ∀ j, (N + j = q) = False := fun q hq j => eq_false (by omega)
  have hL : (pvs l).length = l.length := pvs_len l
  have dn : ∀ a b : Int, decide (a ≠ b) = !decide (a = b) := fun a b => by by_cases h : a = b <;> simp [h]
  by_cases n3 : l.length < 3
  · have n3' : ((l.length : Int) < 3) = True := eq_true (by omega)
    have ev : mayB (pvs l) = false := decide_eq_false fun h => by have := h.2.1; omega
    rw [ev]
    simp only [c13, G0, Nat.reduceAdd]
    simp only [↓R0, R1, simprocAttr, -Int.reduceAbs, n3', Fin, isEnd, resL, res1]
    exact ⟨_, rfl, rfl, fun k hk => by simp only [ne_nb hk, if_false]⟩
  have n3' : ((l.length : Int) < 3) = False := eq_false (by omega)
  by_cases n12 : 12 < l.length
  · have n12' : ((l.length : Int) > 12) = True := eq_true (by omega)
    have ev : mayB (pvs l) = false := decide_eq_false fun h => by have := h.1; omega
    rw [ev]
    simp only [c13, G0, Nat.reduceAdd]
    simp only [↓R0, R1, simprocAttr, -Int.reduceAbs, n3', n12', Fin, isEnd, resL, res1]
    exact ⟨_, rfl, rfl, fun k hk => by simp only [ne_nb hk, if_false]⟩
  have n12' : ((l.length : Int) > 12) = False := eq_false (by omega)
  have l0 : 0 < l.length := by omega
  simp only [c13, G0, Nat.reduceAdd]
  simp only [↓R0, R1, simprocAttr, -Int.reduceAbs, n3', n12']
  refine lp_parts (fun c tm hp nx => ∃ (i : Nat), c + i = l.length ∧ tmget tm 0 = .slice a l.length cc ∧ tmget tm 3 = .int .i64 l.length ∧ tmget tm 4 = .int .i64 (i : Nat) ∧ (∀ j, j < i → ∀ k, k < j → cmpP (vt (pvs l) j) (vt (pvs l) k) ≠ 0) ∧ hp = h ∧ nx = N + 0) ?_ l.length
    ⟨0, by omega, ?_, ?_, ?_, fun j hj => absurd hj (Nat.not_lt_zero j), rfl, rfl⟩
  rotate_left
  all_goals first | (simp only [↓R0, R1, simprocAttr, -Int.reduceAbs]; done) | (simp only [↓R0, R1, simprocAttr, -Int.reduceAbs]; rfl) | skip
  rintro c tm hp nx ⟨i, hc, t0, t3, t4, hall, rfl, hnx⟩
  rw [hnx]
  clear hnx nx
  by_cases c1 : i < l.length
  case pos =>
    have c1' : ((i : Int) < (l.length : Int)) = True := eq_true (by omega)
    have w1 : IntKind.i64.wrap ((i : Int) + 1) = ((i + 1 : Nat) : Int) := by rw [i64_in _ (by omega)]; omega
    obtain ⟨kb, off, blk, rfl, hb, q1, q2⟩ := pts_at hx c1
    have sA := hs.2 _ (pqAt_mem c1)
    have vA := pvs_vt (i := i) l0
    rw [Nat.mod_eq_of_lt c1] at vA
    simp only [↓R0, R1, simprocAttr, -Int.reduceAbs, t0, t3, t4, c1', w1]
    refine lp_parts (fun d tm hp2 nx => ∃ (k : Nat), d + k = i ∧ tmget tm 0 = .slice (some ⟨kb, off, none⟩) l.length cc ∧ tmget tm 3 = .int .i64 l.length ∧ tmget tm 4 = .int .i64 (i : Nat) ∧ tmget tm 5 = .int .i64 (k : Nat) ∧ (∀ j, j < k → cmpP (vt (pvs l) i) (vt (pvs l) j) ≠ 0) ∧ hp2 = hp ∧ nx = N + 0) ?_ i
      ⟨0, by omega, ?_, ?_, ?_, ?_, fun j hj => absurd hj (Nat.not_lt_zero j), rfl, rfl⟩
    rotate_left
    all_goals first | (simp only [↓R0, R1, simprocAttr, -Int.reduceAbs, t0, t3, t4]; done) | (simp only [↓R0, R1, simprocAttr, -Int.reduceAbs, t0, t3, t4]; rfl) | skip
    clear t0 t3 t4
    rintro d tm hp2 nx ⟨kk, hd, t0, t3, t4, t5, hk, rfl, hnx⟩
    rw [hnx]
    clear hnx nx
    by_cases d1 : kk < i
    case neg =>
      have e : kk = i := by omega
      subst e
      have d1' : ((kk : Int) < (kk : Int)) = False := eq_false (by omega)
      simp only [↓R0, R1, simprocAttr, -Int.reduceAbs, t0, t3, t4, t5, d1', w1]
      refine ⟨c - 1, by omega, kk + 1, by omega, rfl, fun j hj => ?_⟩
      by_cases e : j = kk
      · rw [e]; exact hk
      · exact hall j (by omega)
    have d1' : ((kk : Int) < (i : Int)) = True := eq_true (by omega)
    have d2 : kk < l.length := by omega
    have d2' : ((kk : Int) < (l.length : Int)) = True := eq_true (by omega)
    have wk : IntKind.i64.wrap ((kk : Int) + 1) = ((kk + 1 : Nat) : Int) := by rw [i64_in _ (by omega)]; omega
    obtain ⟨k', off', blk', e', hb', q3, q4⟩ := pts_at hx d2
    cases e'
    rw [hb] at hb'
    cases hb'
    have sB := hs.2 _ (pqAt_mem d2)
    have vB := pvs_vt (i := kk) l0
    rw [Nat.mod_eq_of_lt d2] at vB
    have o1 := cmp26_of sA sB
    rw [← vA, ← vB] at o1
    by_cases z : cmpP (vt (pvs l) i) (vt (pvs l) kk) = 0
    · have z' := eq_true z
      have ev : mayB (pvs l) = false := decide_eq_false fun h => h.2.2.1 i (by omega) kk d1 z
      rw [ev]
      simp only [↓R0, R1, simprocAttr, -Int.reduceAbs, t0, t3, t4, t5, c1, c1', d1', d2, d2', hb, q1, q2, q3, q4, pcl_len, pcl_ok, pcl_tk, o1, z', Fin, isEnd, resL, res1]
      exact ⟨_, rfl, rfl, fun _ _ => trivial⟩
    · have z' := eq_false z
      simp only [↓R0, R1, simprocAttr, -Int.reduceAbs, t0, t3, t4, t5, c1, c1', d1', d2, d2', hb, q1, q2, q3, q4, pcl_len, pcl_ok, pcl_tk, o1, z', wk]
      refine ⟨d - 1, by omega, kk + 1, by omega, rfl, fun j hj => ?_⟩
      by_cases e : j = kk
      · rw [e]; exact z
      · exact hk j (by omega)
  have e : i = l.length := by omega
  subst e
  have c1' : ((l.length : Int) < (l.length : Int)) = False := eq_false (by omega)
  simp only [↓R0, R1, simprocAttr, -Int.reduceAbs, t0, t3, t4, c1']
  refine lp_parts (fun c tm hp2 nx => ∃ (i M : Nat), c + i = l.length ∧ tmget tm 0 = .slice a l.length cc ∧ tmget tm 3 = .int .i64 l.length ∧ tmget tm 6 = .int .i64 (i : Nat) ∧ (∀ j, j < i → ∀ k, k < l.length → k ≠ j → prM (pvs l) j k) ∧ ExtL N hp hp2 ∧ N ≤ M ∧ nx = M + 0) ?_ l.length
    ⟨0, N, by omega, ?_, ?_, ?_, fun j hj => absurd hj (Nat.not_lt_zero j), fun q hq => rfl, Nat.le_refl _, rfl⟩
  rotate_left
  all_goals first | (simp only [↓R0, R1, simprocAttr, -Int.reduceAbs, t0, t3]; done) | (simp only [↓R0, R1, simprocAttr, -Int.reduceAbs, t0, t3]; rfl) | skip
  clear t0 t3 t4 c1' hc c1
  rintro c tm hp2 nx ⟨i, M, hc, t0, t3, t6, hpr, hh, hM, hnx⟩
  rw [hnx]
  clear hnx nx
  have nbq : ∀ q, q < N → ∀ d, (M + d = q) = False := fun q hq d => eq_false (by omega)
  by_cases c1 : i < l.length
  case neg =>
    have e : i = l.length := by omega
    subst e
    have c1' : ((l.length : Int) < (l.length : Int)) = False := eq_false (by omega)
    have ev : mayB (pvs l) = true := decide_eq_true ⟨by omega, may_prM.2 ⟨by omega, fun j hj k hk => hall j (by omega) k hk, fun j hj k hk hne => hpr j (by omega) k (by omega) hne⟩⟩
    rw [ev]
    simp only [↓R0, R1, simprocAttr, -Int.reduceAbs, t0, t3, t6, c1', Fin, isEnd, resL, res1]
    exact ⟨_, rfl, rfl, hh⟩
  have c1' : ((i : Int) < (l.length : Int)) = True := eq_true (by omega)
  have w1 : IntKind.i64.wrap ((i : Int) + 1) = ((i + 1 : Nat) : Int) := by rw [i64_in _ (by omega)]; omega
  have hm : (i + 1) % l.length < l.length := Nat.mod_lt _ l0
  have tm1 : Int.tmod ((i + 1 : Nat) : Int) (l.length : Int) = (((i + 1) % l.length : Nat) : Int) := rfl
  have z1 : ((l.length : Int) = 0) = False := eq_false (by omega)
  have z2 : (l.length = 0) = False := eq_false (by omega)
  have hm' : ((((i + 1) % l.length : Nat) : Int) < (l.length : Int)) = True := eq_true (by omega)
  obtain ⟨k, off, blk, rfl, hb, q1, q2⟩ := pts_at hx c1
  obtain ⟨k', off', blk', e', hb', q3, q4⟩ := pts_at hx hm
  cases e'
  rw [hb] at hb'
  cases hb'
  have hk := hN _ _ hb
  have hbb : hget hp2 k = some blk := by rw [hh k hk]; exact hb
  have nk := nbq k hk
  have nk' : ∀ d, (k = M + d) = False := fun d => eq_false (by omega)
  have sA := hs.2 _ (pqAt_mem c1)
  have sB := hs.2 _ (pqAt_mem hm)
  have vA := pvs_vt (i := i) l0
  have vB := pvs_vt (i := i + 1) l0
  rw [Nat.mod_eq_of_lt c1] at vA
  generalize pqAt l i = A at *
  generalize pqAt l ((i + 1) % l.length) = B at *
  generalize hmm : (i + 1) % l.length = m at *
  simp only [↓R0, R1, simprocAttr, -Int.reduceAbs, t0, t3, t6, c1, c1', hbb, nk, nk', q1, q2, q3, q4, hm, hm', tm1, z1, z2, w1, pcl_len, pcl_ok, pcl_tk, pp_st]
  refine lp_parts (fun d tm hp3 nx => ∃ (kk M2 : Nat), d + kk = l.length ∧ tmget tm 0 = .slice (some ⟨k, off, none⟩) l.length cc ∧ tmget tm 3 = .int .i64 l.length ∧ tmget tm 6 = .int .i64 (i : Nat) ∧ tmget tm 7 = .pointer (some ⟨M + 0, 0, none⟩) ∧ tmget tm 8 = .pointer (some ⟨M + 1, 0, none⟩) ∧ tmget tm 9 = .int .i64 (kk : Nat) ∧
      hget hp3 (M + 0) = some ⟨34, 6, true, pcl A⟩ ∧ hget hp3 (M + 1) = some ⟨34, 6, true, pcl B⟩ ∧ (∀ j, j < kk → j ≠ i → prM (pvs l) i j) ∧ ExtL N hp hp3 ∧ M + 2 ≤ M2 ∧ nx = M2 + 0) ?_ l.length
    ⟨0, M + 2, by omega, ?_, ?_, ?_, ?_, ?_, ?_, ?_, ?_, fun j hj => absurd hj (Nat.not_lt_zero j), ?_, Nat.le_refl _, rfl⟩
  rotate_left
  all_goals first | (simp only [↓R0, R1, simprocAttr, -Int.reduceAbs, t0, t3, t6]; done) | (simp only [↓R0, R1, simprocAttr, -Int.reduceAbs, t0, t3, t6]; rfl) | skip
  · intro q hq
    have nb := nbq q hq
    simp only [↓R0, R1, simprocAttr, -Int.reduceAbs, nb]
    exact hh q hq
  clear t0 t3 t6
  rintro d tm hp3 nx ⟨kk, M2, hd, t0, t3, t6, t7, t8, t9, b0, b1, hj, hh3, hM2, hnx⟩
  rw [hnx]
  clear hnx nx
  have nbq2 : ∀ q, q < N → ∀ d, (M2 + d = q) = False := fun q hq d => eq_false (by omega)
  by_cases d1 : kk < l.length
  case neg =>
    have d1' : ((kk : Int) < (l.length : Int)) = False := eq_false (by omega)
    have d1'' : (kk < l.length) = False := eq_false d1
    simp only [↓R0, R1, simprocAttr, -Int.reduceAbs, t0, t3, t6, t7, t8, t9, d1', d1'', w1]
    refine ⟨c - 1, by omega, i + 1, M2, by omega, rfl, fun j h1 k' h2 h3 => ?_, hh3, by omega, rfl⟩
    by_cases e : j = i
    · rw [e] at h3 ⊢; exact hj k' (by omega) h3
    · exact hpr j (by omega) k' h2 h3
  have d1' : ((kk : Int) < (l.length : Int)) = True := eq_true (by omega)
  have wk : IntKind.i64.wrap ((kk : Int) + 1) = ((kk + 1 : Nat) : Int) := by rw [i64_in _ (by omega)]; omega
  have hm2 : (kk + 1) % l.length < l.length := Nat.mod_lt _ l0
  have tm2 : Int.tmod ((kk + 1 : Nat) : Int) (l.length : Int) = (((kk + 1) % l.length : Nat) : Int) := rfl
  have hm2' : ((((kk + 1) % l.length : Nat) : Int) < (l.length : Int)) = True := eq_true (by omega)
  obtain ⟨k', off', blk', e', hb', r1, r2⟩ := pts_at hx d1
  cases e'
  rw [hb] at hb'
  cases hb'
  obtain ⟨k', off', blk', e', hb', r3, r4⟩ := pts_at hx hm2
  cases e'
  rw [hb] at hb'
  cases hb'
  have hbb3 : hget hp3 k = some blk := by rw [hh3 k hk]; exact hb
  have nk2 := nbq2 k hk
  have nk2' : ∀ d, (k = M2 + d) = False := fun d => eq_false (by omega)
  have m0 : ∀ d, (M2 + d = M + 0) = False := fun d => eq_false (by omega)
  have m1 : ∀ d, (M2 + d = M + 1) = False := fun d => eq_false (by omega)
  have m2 : ∀ d, (M2 + d = M) = False := fun d => eq_false (by omega)
  have sC := hs.2 _ (pqAt_mem d1)
  have sD := hs.2 _ (pqAt_mem hm2)
  have vC := pvs_vt (i := kk) l0
  have vD := pvs_vt (i := kk + 1) l0
  rw [Nat.mod_eq_of_lt d1] at vC
  have o1 := onP_of sA sB sD
  have o2 := onP_of sC sD sA
  have o3 := meet_of sA sB sC sD
  rw [← vA, ← vB, ← vD] at o1
  rw [← vA, ← vC, ← vD] at o2
  rw [← vA, ← vB, ← vC, ← vD] at o3
  have prE : prM (pvs l) i kk = (if m = kk then onB (vt (pvs l) i) (vt (pvs l) (i + 1)) (vt (pvs l) (kk + 1)) = false ∧ onB (vt (pvs l) kk) (vt (pvs l) (kk + 1)) (vt (pvs l) i) = false
   else ((kk + 1) % l.length ≠ i → meetB (vt (pvs l) i) (vt (pvs l) (i + 1)) (vt (pvs l) kk) (vt (pvs l) (kk + 1)) = false)) := by
    unfold prM
    rw [hL, hmm]
  clear vA vB vC vD
  generalize pqAt l kk = C at *
  generalize pqAt l ((kk + 1) % l.length) = D at *
  generalize (kk + 1) % l.length = m2' at *
  have nxt : prM (pvs l) i kk → ∀ j, j < kk + 1 → j ≠ i → prM (pvs l) i j := fun h j h1 h2 => by
    by_cases e : j = kk
    · rw [e]; exact h
    · exact hj j (by omega) h2
  by_cases eki : kk = i
  · have e1 : ((kk : Int) = (i : Int)) = True := eq_true (by omega)
    have e1' : (kk = i) = True := eq_true eki
    simp only [↓R0, R1, simprocAttr, -Int.reduceAbs, t0, t3, t6, t7, t8, t9, d1, d1', hbb3, nk2, nk2', m0, m1, m2, r1, r2, r3, r4, hm2, hm2', tm2, z1, z2, wk, pcl_len, pcl_ok, pcl_tk, pp_st, b0, b1, e1, e1']
    refine ⟨d - 1, by omega, kk + 1, M2 + 2, by omega, rfl, fun j h1 h2 => hj j (by omega) h2, fun q hq => ?_, by omega, rfl⟩
    have nb := nbq2 q hq
    simp only [↓R0, R1, simprocAttr, -Int.reduceAbs, nb]
    exact hh3 q hq
  have e1 : ((kk : Int) = (i : Int)) = False := eq_false (by omega)
  have e1' : (kk = i) = False := eq_false eki
  have bad : ¬ prM (pvs l) i kk → mayB (pvs l) = false := fun h => decide_eq_false fun H => h (H.2.2.2 i (by omega) kk (by omega) eki)
  by_cases emk : m = kk
  · have e2 : ((m : Int) = (kk : Int)) = True := eq_true (by omega)
    have e2' : (m = kk) = True := eq_true emk
    rw [if_pos emk] at prE
    cases p1 : onB (vt (pvs l) i) (vt (pvs l) (i + 1)) (vt (pvs l) (kk + 1)) with
    | true =>
      rw [p1] at o1
      rw [bad (by rw [prE, p1]; exact fun h => by cases h.1)]
      simp only [↓R0, R1, simprocAttr, -Int.reduceAbs, t0, t3, t6, t7, t8, t9, d1, d1', hbb3, nk2, nk2', m0, m1, m2, r1, r2, r3, r4, hm2, hm2', tm1, tm2, z1, z2, w1, wk, pcl_len, pcl_ok, pcl_tk, pp_st, b0, b1, e1, e1', e2, e2', o1, o2, Fin, isEnd, resL, res1]
      refine ⟨_, rfl, rfl, fun q hq => ?_⟩
      have nb := nbq2 q hq
      simp only [↓R0, R1, simprocAttr, -Int.reduceAbs, nb]
      exact hh3 q hq
    | false =>
    rw [p1] at o1
    cases p2 : onB (vt (pvs l) kk) (vt (pvs l) (kk + 1)) (vt (pvs l) i) with
    | true =>
      rw [p2] at o2
      rw [bad (by rw [prE, p1, p2]; exact fun h => by cases h.2)]
      simp only [↓R0, R1, simprocAttr, -Int.reduceAbs, t0, t3, t6, t7, t8, t9, d1, d1', hbb3, nk2, nk2', m0, m1, m2, r1, r2, r3, r4, hm2, hm2', tm1, tm2, z1, z2, w1, wk, pcl_len, pcl_ok, pcl_tk, pp_st, b0, b1, e1, e1', e2, e2', o1, o2, Fin, isEnd, resL, res1]
      refine ⟨_, rfl, rfl, fun q hq => ?_⟩
      have nb := nbq2 q hq
      simp only [↓R0, R1, simprocAttr, -Int.reduceAbs, nb]
      exact hh3 q hq
    | false =>
      rw [p2] at o2
      simp only [↓R0, R1, simprocAttr, -Int.reduceAbs, t0, t3, t6, t7, t8, t9, d1, d1', hbb3, nk2, nk2', m0, m1, m2, r1, r2, r3, r4, hm2, hm2', tm1, tm2, z1, z2, w1, wk, pcl_len, pcl_ok, pcl_tk, pp_st, b0, b1, e1, e1', e2, e2', o1, o2]
      refine ⟨d - 1, by omega, kk + 1, M2 + 2, by omega, rfl, nxt (by rw [prE, p1, p2]; exact ⟨rfl, rfl⟩), fun q hq => ?_, by omega, rfl⟩
      have nb := nbq2 q hq
      simp only [↓R0, R1, simprocAttr, -Int.reduceAbs, nb]
      exact hh3 q hq
  have e2 : ((m : Int) = (kk : Int)) = False := eq_false (by omega)
  have e2' : (m = kk) = False := eq_false emk
  rw [if_neg emk] at prE
  by_cases em2 : m2' = i
  · have e3 : ((m2' : Int) = (i : Int)) = True := eq_true (by omega)
    have e3' : (m2' = i) = True := eq_true em2
    simp only [↓R0, R1, simprocAttr, -Int.reduceAbs, t0, t3, t6, t7, t8, t9, d1, d1', hbb3, nk2, nk2', m0, m1, m2, r1, r2, r3, r4, hm2, hm2', tm1, tm2, z1, z2, w1, wk, pcl_len, pcl_ok, pcl_tk, pp_st, b0, b1, dn, e1, e1', e2, e2', e3, e3', Bool.not_true, Bool.not_false]
    refine ⟨d - 1, by omega, kk + 1, M2 + 2, by omega, rfl, nxt (by rw [prE]; exact fun h => absurd em2 h), fun q hq => ?_, by omega, rfl⟩
    have nb := nbq2 q hq
    simp only [↓R0, R1, simprocAttr, -Int.reduceAbs, nb]
    exact hh3 q hq
  have e3 : ((m2' : Int) = (i : Int)) = False := eq_false (by omega)
  have e3' : (m2' = i) = False := eq_false em2
  cases p3 : meetB (vt (pvs l) i) (vt (pvs l) (i + 1)) (vt (pvs l) kk) (vt (pvs l) (kk + 1)) with
  | true =>
    rw [p3] at o3
    rw [bad (by rw [prE, p3]; exact fun h => by cases h em2)]
    simp only [↓R0, R1, simprocAttr, -Int.reduceAbs, t0, t3, t6, t7, t8, t9, d1, d1', hbb3, nk2, nk2', m0, m1, m2, r1, r2, r3, r4, hm2, hm2', tm1, tm2, z1, z2, w1, wk, pcl_len, pcl_ok, pcl_tk, pp_st, b0, b1, dn, e1, e1', e2, e2', e3, e3', o3, Bool.not_true, Bool.not_false, Fin, isEnd, resL, res1]
    refine ⟨_, rfl, rfl, fun q hq => ?_⟩
    have nb := nbq2 q hq
    simp only [↓R0, R1, simprocAttr, -Int.reduceAbs, nb]
    exact hh3 q hq
  | false =>
    rw [p3] at o3
    simp only [↓R0, R1, simprocAttr, -Int.reduceAbs, t0, t3, t6, t7, t8, t9, d1, d1', hbb3, nk2, nk2', m0, m1, m2, r1, r2, r3, r4, hm2, hm2', tm1, tm2, z1, z2, w1, wk, pcl_len, pcl_ok, pcl_tk, pp_st, b0, b1, dn, e1, e1', e2, e2', e3, e3', o3, Bool.not_true, Bool.not_false]
    refine ⟨d - 1, by omega, kk + 1, M2 + 2, by omega, rfl, nxt (by rw [prE, p3]; exact fun _ => rfl), fun q hq => ?_, by omega, rfl⟩
    have nb := nbq2 q hq
    simp only [↓R0, R1, simprocAttr, -Int.reduceAbs, nb]
    exact hh3 q hq
end Go.Eng
end
section
set_option linter.unusedVariables false
set_option linter.unusedSimpArgs false
set_option linter.unusedSectionVars false
set_option maxRecDepth 20000
namespace Go.Eng
open Go Go.Proofs Go.IntWalk
theorem nm_len (L : List P2) : (nmOut L).2.length ≤ 1000 ∨ L.length > 1000 := by
  by_cases c : 12 < L.length
  · unfold nmOut; rw [if_pos c]; exact .inl (by simp)
  · by_cases p : profP L
    · unfold nmOut
      rw [if_neg c, if_pos p]
      refine .inl ?_
      show (ncf L).length ≤ 1000
      have e : (ncf L).length ≤ L.length := by
        unfold ncf
        obtain ⟨A, B, e1, e2⟩ := rmn_parts (ori (bent L))
        rw [e2, List.length_append, Nat.add_comm, ← List.length_append, ← e1]
        have : (ori (bent L)).length = (bent L).length := by unfold ori; split; exact List.length_reverse; rfl
        rw [this, ← bfT_all]
        exact bfT_len _ _
      omega
    · unfold nmOut; rw [if_neg c, if_neg p]; exact .inl (by simp)
theorem nm_mem {L : List P2} {v : P2} (h : v ∈ (nmOut L).2) : v ∈ L := by
  unfold nmOut at h
  split at h
  · simp at h
  · split at h
    · have h : v ∈ ncf L := h
      unfold ncf at h
      obtain ⟨A, B, e1, e2⟩ := rmn_parts (ori (bent L))
      rw [e2, List.mem_append, or_comm, ← List.mem_append, ← e1] at h
      have h : v ∈ bent L := by
        unfold ori at h
        split at h
        · exact List.mem_reverse.1 h
        · exact h
      rw [← bfT_all] at h
      exact bfT_mem h
    · simp at h
theorem awake_of (h : Heap) : spAwake26 [] h = some (.bool true) := rfl
theorem nm_can {l : List PQ} (h : smallP l) : ptsN ((nmOut (pvs l)).2.map pqo) := by
  refine ⟨?_, fun p hp => ?_⟩
  · rw [List.length_map]
    rcases nm_len (pvs l) with k | k
    · exact k
    · rw [pvs_len] at k; have := h.1; omega
  · obtain ⟨v, hv, rfl⟩ := List.mem_map.1 hp
    obtain ⟨q, hq, rfl⟩ := List.mem_map.1 (nm_mem hv)
    exact (pqo_ok (h.2 q hq)).le (by omega)
theorem may_ok {L : List P2} (h : mayB L = true) : (nmOut L).1 = 0 ∧ ∀ x, clsP (nmOut L).2 x = clsP L x := by
  have h := of_decide_eq_true h
  have S := may_iff.1 h.2
  obtain ⟨_, _, _, _, s5, s6, _⟩ := S.ncf
  have e : nmOut L = (0, ncf L) := by unfold nmOut; rw [if_neg (by have := h.1; omega), if_pos (prof_iff.2 S)]
  rw [e]
  refine ⟨rfl, fun x => ?_⟩
  show clsP (ncf L) x = clsP L x
  unfold clsP
  rw [s5, s6]
def spL26cl : List Value → Heap → Option Value
  | [sl, .agg ⟨cx⟩], h => match decPts h sl, dec2 cx with
    | some l, some x => if l.length ≤ 9223372036854775807 then some (.bool true) else none
    | _, _ => none
  | _, _ => none
theorem fr_L26cl {h : Heap} {N : Nat} {sl : Value} {l : List PQ} {x : PQ} (e : decPts h sl = some l) (m : l.length ≤ maxLen) : rdS spL26cl [sl, .agg ⟨pcl x⟩] h N = some (.bool true, [], 0) := by
  unfold rdS spL26cl
  simp only [e, pcl_dec]
  rw [if_pos (show l.length ≤ 9223372036854775807 from m)]; rfl
def c4 : ICode :=
  (.seq (.reg [qq 3 (.box 34 6 (.t 1)), qq 4 (.mv (.c (.bool false)))]) (.seq (.seq (.dreg [qu 8 (.mv (.t 0)), qu 9 (.call 6 [(.t 8)]), qv 10 [1] (.load true 6 (.t 3)), qu 11 (.bslice 34 6 1 [(.bool false), e0, e0, (.bool false), e0, e0] [(0, 6, (.t 10))]), qu 12 (.call 6 [(.t 11)]), qu 13 (.bin .add (.t 9) (.t 12)), qu 14 (.bin .gtr (.t 13) (ci 0)), qu 15 (.mv (.t 14)), ⟨(some 16), (some (15, false)), [], (.mv (.t 0))⟩, ⟨(some 17), (some (15, false)), [], (.call 13 [(.t 16)])⟩, ⟨(some 18), (some (15, false)), [], (.un .not (.t 17))⟩, qu 19 (.pick (.t 15) (.c (.bool true)) (.t 18))]) (.cond (.t 19) (.seq (.reg [qq 20 (.call 7 []), qq 4 (.mv (.t 20))]) .ret) .skip)) (.seq (.reg [qq 22 (.mv (.t 0)), qq 23 (.call 8 [(.t 22)]), qq 21 (.mv (.t 23)), qq 24 (.ext (.t 21) 0), qq 25 (.ext (.t 21) 1), qq 5 (.mv (.t 24)), qq 6 (.mv (.t 25))]) (.seq (.reg [qq 26 (.mv (.t 0)), qq 27 (.load true 6 (.t 3)), qq 28 (.call 14 [(.t 26), (.t 27)]), qq 7 (.mv (.t 28))]) (.seq (.reg [qq 29 (.mv (.t 6)), qq 30 (.bin .eql (.t 29) (ci 0)), qq 31 (.mv (.t 30)), ⟨(some 32), (some (31, true)), (.mv (.t 7))⟩, ⟨(some 33), (some (31, true)), (.mv (.t 0))⟩, ⟨(some 34), (some (31, true)), (.load true 6 (.t 3))⟩, ⟨(some 35), (some (31, true)), (.call 15 [(.t 33), (.t 34)])⟩, ⟨(some 36), (some (31, true)), (.bin .eql (.t 32) (.t 35))⟩, qq 37 (.pick (.t 31) (.t 36) (.c (.bool false))), qq 38 (.mv (.t 37)), ⟨(some 39), (some (38, true)), (.mv (.t 5))⟩, ⟨(some 40), (some (38, true)), (.load true 6 (.t 3))⟩, ⟨(some 41), (some (38, true)), (.call 14 [(.t 39), (.t 40)])⟩, ⟨(some 42), (some (38, true)), (.mv (.t 7))⟩, ⟨(some 43), (some (38, true)), (.bin .eql (.t 41) (.t 42))⟩, qq 44 (.pick (.t 38) (.t 43) (.c (.bool false))), qq 45 (.mv (.t 44)), ⟨(some 46), (some (45, true)), (.call 7 [])⟩, qq 47 (.pick (.t 45) (.t 46) (.c (.bool false))), qq 4 (.mv (.t 47))]) .ret)))))
theorem tr4 : trFun Tryz.prog 4 = some ⟨48, [.t 4], c4⟩ := by kernel_rfl
set_option maxHeartbeats 32000000 in
theorem ok_L26cl : SpecOK Tryz.prog 4 (rdS spL26cl) := by
  refine rd_run (env_cons ok_great26 (env_cons ok_may26 (env_cons ok_awake26 (env_cons ok_norm2 (env_cons ok_cls2 (env_cons ok_has26 (env_nil _))))))) mixed tr4 ?_ ?_
  · intro args h h' v hle e
    unfold spL26cl at e ⊢
    split at e
    · split at e
      · rename_i l x hb hc
        simp only [decPts_mono hle hb, hc]; exact e
      · cases e
    · cases e
  intro args v h N hG hN
  unfold spL26cl at hG
  split at hG
  case h_2 => cases hG
  rename_i sl cx
  split at hG
  case h_2 => cases hG
  rename_i l x hx hc
  split at hG
  case isFalse => cases hG
  rename_i hm
  cases hG
  obtain ⟨a, cc, rfl⟩ := decPts_sl hx
  have ecx := dec2_pcl hc
  subst ecx
  clear hc
  refine ⟨rfl, by simp, ?_⟩
  have nbN : ∀ q, q < N → ∀ j, (N + j = q) = False := fun q hq j => eq_false (by omega)
  have gr1 : ∀ b0, spGreat26 [.slice a l.length cc] ((N + 0, b0) :: h) = some (.int .i64 (if smallP l then 0 else 1)) := fun b0 => great26_of (ext_pts hN hx (fun k hk => by simp only [hget, nbN k hk, if_false])) hm
  have gr2 : ∀ tl, spGreat26 [.slice (some ⟨N + 1, 0, none⟩) 1 1] ((N + 1, some ⟨34, 6, true, pcl x⟩) :: tl) = some (.int .i64 (if smallP [x] then 0 else 1)) := fun tl => great26_of (l := [x]) (pts_list (hget_cons_same _ _ _) rfl) (show (1 : Nat) ≤ 9223372036854775807 by omega)
  have w0 : IntKind.i64.wrap ((0 : Int) + 0) = 0 := by rw [i64_in _ (by omega)]; rfl
  have w1 : IntKind.i64.wrap ((0 : Int) + 1) = 1 := by rw [i64_in _ (by omega)]; rfl
  have w2 : IntKind.i64.wrap ((1 : Int) + 0) = 1 := by rw [i64_in _ (by omega)]; rfl
  have w3 : IntKind.i64.wrap ((1 : Int) + 1) = 2 := by rw [i64_in _ (by omega)]; rfl
  have z0 : ((0 : Int) > 0) = False := eq_false (by omega)
  have z1 : ((1 : Int) > 0) = True := eq_true (by omega)
  have z2 : ((2 : Int) > 0) = True := eq_true (by omega)
  by_cases s12 : smallP l ∧ smallP [x]
  case neg =>
    by_cases s1 : smallP l
    · have s2 : ¬ smallP [x] := fun s => s12 ⟨s1, s⟩
      rw [if_pos s1] at gr1
      rw [if_neg s2] at gr2
      simp only [c4, G0, Nat.reduceAdd]
      simp only [↓R0, R1, simprocAttr, -Int.reduceAbs, rdS, gr1, gr2, w0, w1, w2, w3, z0, z1, z2, awake_of, pcl_len, pcl_ok, pcl_tk, pp_st, setR_length, List.length_cons, List.length_nil, Fin, isEnd, resL, res1]
      exact ⟨_, rfl, rfl, fun k hk => by simp only [ne_nb hk, if_false]⟩
    · rw [if_neg s1] at gr1
      by_cases s2 : smallP [x]
      · rw [if_pos s2] at gr2
        simp only [c4, G0, Nat.reduceAdd]
        simp only [↓R0, R1, simprocAttr, -Int.reduceAbs, rdS, gr1, gr2, w0, w1, w2, w3, z0, z1, z2, awake_of, pcl_len, pcl_ok, pcl_tk, pp_st, setR_length, List.length_cons, List.length_nil, Fin, isEnd, resL, res1]
        exact ⟨_, rfl, rfl, fun k hk => by simp only [ne_nb hk, if_false]⟩
      · rw [if_neg s2] at gr2
        simp only [c4, G0, Nat.reduceAdd]
        simp only [↓R0, R1, simprocAttr, -Int.reduceAbs, rdS, gr1, gr2, w0, w1, w2, w3, z0, z1, z2, awake_of, pcl_len, pcl_ok, pcl_tk, pp_st, setR_length, List.length_cons, List.length_nil, Fin, isEnd, resL, res1]
        exact ⟨_, rfl, rfl, fun k hk => by simp only [ne_nb hk, if_false]⟩
  obtain ⟨s1, s2⟩ := s12
  rw [if_pos s1] at gr1
  rw [if_pos s2] at gr2
  have sx : pok 6 x := s2.2 x (by simp)
  have l16 : l.length ≤ 16 := s1.1
  have okl : ptsN l := s1.n
  have hx0 : decPts ((N + 1, some ⟨34, 6, true, pcl x⟩) :: (N + 0, some ⟨34, 6, true, pcl x⟩) :: h) (.slice a l.length cc) = some l := ext_pts hN hx (fun k hk => by simp only [hget, nbN k hk, if_false])
  have my := may_of hx0 okl.ok
  cases mb : mayB (pvs l) with
  | false =>
    rw [mb] at my
    simp only [c4, G0, Nat.reduceAdd]
    simp only [↓R0, R1, simprocAttr, -Int.reduceAbs, rdS, gr1, gr2, w0, w1, w2, w3, z0, z1, z2, my, awake_of, pcl_len, pcl_ok, pcl_tk, pp_st, setR_length, List.length_cons, List.length_nil, Bool.not_false, Fin, isEnd, resL, res1]
    exact ⟨_, rfl, rfl, fun k hk => by simp only [ne_nb hk, if_false]⟩
  | true =>
  rw [mb] at my
  obtain ⟨z, zc⟩ := may_ok mb
  obtain ⟨a_1, D_1, mm_1, kc_1, gq_1, hV_1⟩ := norm_call (b := N + 2) hx0 okl
  obtain ⟨M, hM⟩ : ∃ x, x = N + 2 + mm_1 := ⟨_, rfl⟩
  have eM : N + 2 + mm_1 = M + 0 := by omega
  rw [show N + 2 + mm_1 = M by omega] at hV_1
  generalize eHP_1 : D_1 ++ ((N + 1, some ⟨34, 6, true, pcl x⟩) :: (N + 0, some ⟨34, 6, true, pcl x⟩) :: h) = HP_1 at *
  have ac_1 : ∀ (d : Nat) (tm : List (Nat × Value)) (V : Value) (K : St → Prop), @aft (some d) (some (V, D_1, mm_1)) ⟨(⟨tm, (N + 1, some ⟨34, 6, true, pcl x⟩) :: (N + 0, some ⟨34, 6, true, pcl x⟩) :: h, N + 2⟩, K)⟩ = K ⟨(d, V) :: tm, HP_1, M + 0⟩ := fun _ _ _ _ => by rw [← eM, ← eHP_1]; exact propext Iff.rfl
  have hh : ExtL N h HP_1 := fun q hq => by
    rw [gq_1 q (by omega)]
    simp only [hget, nbN q hq, if_false]
  have b0 : hget HP_1 (N + 0) = some ⟨34, 6, true, pcl x⟩ := by
    rw [gq_1 _ (by omega)]
    simp only [hget, show (N + 1 = N + 0) = False from eq_false (by omega), if_false, if_true]
  have hA := hV_1 HP_1 (fun q hq => rfl)
  have hx1 : decPts HP_1 (.slice a l.length cc) = some l := ext_pts hN hx hh
  have cl1 := cls2_of hx1 okl.ok (sx.le (k := 1000000) (by omega))
  have cl2 := cls2_of hA (nm_can s1).ok (sx.le (k := 1000000) (by omega))
  rw [map_pqo, zc] at cl2
  generalize clsP (pvs l) (pv2 x) = CLS at *
  clear hV_1 hA
  simp only [c4, G0, Nat.reduceAdd]
  simp only [↓R0, R1, simprocAttr, -Int.reduceAbs, rdS, gr1, gr2, w0, w1, w2, w3, z0, z1, z2, my, kc_1, ac_1, z, b0, cl1, cl2, awake_of, pcl_len, pcl_ok, pcl_tk, pp_st, setR_length, List.length_cons, List.length_nil, Bool.not_true, Bool.not_false, Fin, isEnd, resL, res1]
  exact ⟨_, rfl, rfl, hh⟩
end Go.Eng
end
section
set_option linter.unusedVariables false
set_option linter.unusedSimpArgs false
set_option linter.unusedSectionVars false
namespace Go.Eng.K
open Go.Eng
inductive Ki where
  | b | i (k : IntKind) | s
def kiFs (ty : TypeId → Option (List Ki)) (P : Program) : List Field → Nat → Option (List Ki)
  | [], _ => some []
  | f :: r, off =>
    if f.name ≠ "_" ∧ f.offset = off then
      match ty f.type, szOf P f.type with
      | some ks, some n => if ks.length = n then (kiFs ty P r (off + n)).map (ks ++ ·) else none
      | _, _ => none
    else none
def kiTy (P : Program) : Nat → TypeId → Option (List Ki)
  | 0, _ => none
  | d + 1, t =>
    match P.underlying t with
    | some .bool => some [.b]
    | some (.int k) => some [.i k]
    | some .string => some [.s]
    | some (.struct fs) => if P.stoodInHeld t then none else kiFs (kiTy P d) P fs.toList 0
    | some (.array len e) => match kiTy P d e, szOf P e with
      | some ks, some n => if ks.length = n then some (List.replicate len ks).flatten else none
      | _, _ => none
    | _ => none
def kmatch : List Ki → List Value → Prop
  | [], [] => True
  | .b :: ks, .bool _ :: r => kmatch ks r
  | .i k :: ks, .int k' n :: r => (k' = k ∧ (Lit.int k n).wf = true) ∧ kmatch ks r
  | .s :: ks, .string s :: r => s.size ≤ maxLen ∧ kmatch ks r
  | _, _ => False
theorem kmatch_append : ∀ {ks ks' : List Ki} {cs cs' : List Value}, kmatch ks cs → kmatch ks' cs' → kmatch (ks ++ ks') (cs ++ cs')
  | [], _, [], _, _, h => h
  | [], _, _ :: _, _, h, _ => h.elim
  | .b :: ks, ks', cs, cs', h, h' => by
    match cs, h with
    | .bool _ :: r, h => exact kmatch_append (ks := ks) h h'
  | .i k :: ks, ks', cs, cs', h, h' => by
    match cs, h with
    | .int _ _ :: r, h => exact ⟨h.1, kmatch_append (ks := ks) h.2 h'⟩
  | .s :: ks, ks', cs, cs', h, h' => by
    match cs, h with
    | .string _ :: r, h => exact ⟨h.1, kmatch_append (ks := ks) h.2 h'⟩
section
variable {H : Type} {enc : TypeId × Value → H} {P : Program}
theorem cellsOf_sz {t : TypeId} {n : Nat} (h : szOf P t = some n) : P.cellsOf t = n := by
  unfold Program.cellsOf; unfold szOf at h; rw [h]; rfl
def Plain (P : Program) (enc : TypeId × Value → H) (fuel : Nat) (t : TypeId) (ks : List Ki) : Prop :=
  ∀ (w : World) (base : Nat) (spare : Nat → Bool) (held : Bool) (cs : List Value) (x : DataW H × List MemPlace), DataW.trod enc P w base spare held fuel t cs = some x →
    kmatch ks cs ∧ x.2 = [] ∧ ∀ w' base' spare' held', DataW.trod enc P w' base' spare' held' fuel t cs = some x
theorem plain_fields {fuel : Nat} {ty : TypeId → Option (List Ki)} (hty : ∀ t ks n, ty t = some ks → szOf P t = some n → ks.length = n → Plain P enc fuel t ks) :
    ∀ (fs : List Field) (off : Nat) (ks : List Ki), kiFs ty P fs off = some ks → ∀ (w : World) (base : Nat) (spare : Nat → Bool) (held : Bool) (cs : List Value) (xs : List (DataW H × List MemPlace)),
      (fs.mapM fun f => DataW.trod enc P w base spare held fuel f.type ((cs.drop f.offset).take (P.cellsOf f.type))) = some xs → cs.length = off + ks.length →
      kmatch ks (cs.drop off) ∧ xs.flatMap (·.2) = [] ∧ ∀ w' base' spare' held', (fs.mapM fun f => DataW.trod enc P w' base' spare' held' fuel f.type ((cs.drop f.offset).take (P.cellsOf f.type))) = some xs
  | [], off, ks, h, w, base, spare, held, cs, xs, hm, hl => by
    simp only [kiFs, Option.some.injEq] at h
    subst h
    simp only [List.mapM_nil, Option.pure_def, Option.some.injEq] at hm
    subst hm
    simp only [List.length_nil, Nat.add_zero] at hl
    rw [List.drop_eq_nil_of_le (by omega)]
    exact ⟨trivial, rfl, fun _ _ _ _ => rfl⟩
  | f :: r, off, ks, h, w, base, spare, held, cs, xs, hm, hl => by
    simp only [kiFs] at h
    split at h
    case isFalse => cases h
    rename_i hc
    obtain ⟨_, hoff⟩ := hc
    split at h
    case h_2 => cases h
    rename_i ks0 n hk hn
    split at h
    case isFalse => cases h
    rename_i hlen
    rw [Option.map_eq_some_iff] at h
    obtain ⟨ks1, h1, rfl⟩ := h
    have hsz := cellsOf_sz hn
    simp only [List.mapM_cons, Option.bind_eq_bind, Option.bind_eq_some_iff, Option.pure_def, Option.some.injEq] at hm
    obtain ⟨y, hy, ys, hys, rfl⟩ := hm
    have hp := hty f.type ks0 n hk hn hlen w base spare held _ y hy
    obtain ⟨p1, p2, p3⟩ := hp
    simp only [List.length_append] at hl
    obtain ⟨q1, q2, q3⟩ := plain_fields hty r (off + n) ks1 h1 w base spare held cs ys hys (by omega)
    rw [hoff, hsz] at p1
    refine ⟨?_, ?_, ?_⟩
    · have e : cs.drop off = (cs.drop off).take n ++ cs.drop (off + n) := by
        rw [← List.drop_drop, List.take_append_drop]
      rw [e]
      exact kmatch_append p1 q1
    · simp only [List.flatMap_cons, p2, q2, List.nil_append]
    · intro w' base' spare' held'
      simp only [List.mapM_cons, Option.bind_eq_bind, Option.bind_eq_some_iff, Option.pure_def, Option.some.injEq]
      exact ⟨y, p3 w' base' spare' held', ys, q3 w' base' spare' held', rfl⟩
theorem plain_elems {fuel : Nat} {e : TypeId} {ks : List Ki} {n : Nat} (hn : szOf P e = some n) (hl : ks.length = n) (he : Plain P enc fuel e ks) :
    ∀ (m i0 : Nat) (w : World) (base : Nat) (spare : Nat → Bool) (held : Bool) (cs : List Value) (xs : List (DataW H × List MemPlace)),
      ((List.range' i0 m).mapM fun i => DataW.trod enc P w base spare held fuel e ((cs.drop (i * P.cellsOf e)).take (P.cellsOf e))) = some xs → cs.length = (i0 + m) * n →
      kmatch (List.replicate m ks).flatten (cs.drop (i0 * n)) ∧ xs.flatMap (·.2) = [] ∧ ∀ w' base' spare' held', ((List.range' i0 m).mapM fun i => DataW.trod enc P w' base' spare' held' fuel e ((cs.drop (i * P.cellsOf e)).take (P.cellsOf e))) = some xs
  | 0, i0, w, base, spare, held, cs, xs, hm, hlen => by
    simp only [List.range'_zero, List.mapM_nil, Option.pure_def, Option.some.injEq] at hm
    subst hm
    simp only [Nat.add_zero] at hlen
    rw [List.drop_eq_nil_of_le (by omega)]
    exact ⟨trivial, rfl, fun _ _ _ _ => by simp⟩
  | m + 1, i0, w, base, spare, held, cs, xs, hm, hlen => by
    have hsz := cellsOf_sz hn
    simp only [List.range'_succ, List.mapM_cons, Option.bind_eq_bind, Option.bind_eq_some_iff, Option.pure_def, Option.some.injEq] at hm
    obtain ⟨y, hy, ys, hys, rfl⟩ := hm
    obtain ⟨p1, p2, p3⟩ := he w base spare held _ y hy
    obtain ⟨q1, q2, q3⟩ := plain_elems hn hl he m (i0 + 1) w base spare held cs ys hys (by rw [hlen]; congr 1; omega)
    rw [hsz] at p1
    refine ⟨?_, ?_, ?_⟩
    · rw [List.replicate_succ, List.flatten_cons]
      have e : cs.drop (i0 * n) = (cs.drop (i0 * n)).take n ++ cs.drop ((i0 + 1) * n) := by
        rw [Nat.succ_mul, ← List.drop_drop, List.take_append_drop]
      rw [e]
      exact kmatch_append p1 q1
    · simp only [List.flatMap_cons, p2, q2, List.nil_append]
    · intro w' base' spare' held'
      simp only [List.range'_succ, List.mapM_cons, Option.bind_eq_bind, Option.bind_eq_some_iff, Option.pure_def, Option.some.injEq]
      exact ⟨y, p3 w' base' spare' held', ys, q3 w' base' spare' held', rfl⟩
theorem plain_ty : ∀ (fuel d : Nat) (t : TypeId) (ks : List Ki) (n : Nat), kiTy P d t = some ks → szOf P t = some n → ks.length = n → Plain P enc fuel t ks
  | 0, d, t, ks, n, h, hn, hl => by intro w base spare held cs x hx; simp [DataW.trod] at hx
  | fuel + 1, 0, t, ks, n, h, hn, hl => by simp [kiTy] at h
  | fuel + 1, d + 1, t, ks, n, h, hn, hl => by
    intro w base spare held cs x hx
    unfold kiTy at h
    unfold DataW.trod at hx ⊢
    split at h
    · rename_i hu
      cases h
      rw [hu] at hx ⊢
      match cs, hx with
      | [.bool b], hx => simp only [Option.some.injEq] at hx; subst hx; exact ⟨trivial, rfl, fun _ _ _ _ => rfl⟩
    · rename_i k hu
      cases h
      rw [hu] at hx ⊢
      match cs, hx with
      | [.int k' m], hx =>
        simp only at hx
        split at hx
        · rename_i hc
          simp only [Option.some.injEq] at hx; subst hx
          exact ⟨⟨hc, trivial⟩, rfl, fun _ _ _ _ => by simp only; rw [if_pos hc]⟩
        · cases hx
    · rename_i hu
      cases h
      rw [hu] at hx ⊢
      match cs, hx with
      | [.string s], hx =>
        simp only at hx
        split at hx
        · rename_i hc
          simp only [Option.some.injEq] at hx; subst hx
          exact ⟨⟨hc, trivial⟩, rfl, fun _ _ _ _ => by simp only; rw [if_pos hc]⟩
        · cases hx
    · rename_i fs hu
      split at h
      · cases h
      rw [hu] at hx ⊢
      simp only at hx ⊢
      split at hx
      case isFalse => cases hx
      rename_i hlen
      rw [Option.map_eq_some_iff] at hx
      obtain ⟨xs, hxs, rfl⟩ := hx
      rw [cellsOf_sz hn, ← hl] at hlen
      obtain ⟨p1, p2, p3⟩ := plain_fields (fuel := fuel) (fun t ks n h1 h2 h3 => plain_ty fuel d t ks n h1 h2 h3) fs.toList 0 ks h w base spare held cs xs hxs (by omega)
      refine ⟨by simpa using p1, p2, fun w' base' spare' held' => ?_⟩
      rw [if_pos (by rw [cellsOf_sz hn, ← hl, hlen]), p3]; rfl
    · rename_i len e hu
      split at h
      case h_2 => cases h
      rename_i ks0 m hk hm
      split at h
      case isFalse => cases h
      rename_i hlm
      simp only [Option.some.injEq] at h
      subst h
      rw [hu] at hx ⊢
      simp only at hx ⊢
      split at hx
      case isFalse => cases hx
      rename_i hlen
      rw [Option.map_eq_some_iff] at hx
      obtain ⟨xs, hxs, rfl⟩ := hx
      rw [cellsOf_sz hn, ← hl] at hlen
      rw [List.range_eq_range'] at hxs
      have hfl : ((List.replicate len ks0).flatten).length = len * m := by rw [List.length_flatten]; simp [hlm]
      obtain ⟨p1, p2, p3⟩ := plain_elems hm hlm (plain_ty fuel d e ks0 m hk hm hlm) len 0 w base spare held cs xs hxs (by rw [hlen, hfl, Nat.zero_add])
      refine ⟨by simpa using p1, p2, fun w' base' spare' held' => ?_⟩
      rw [if_pos (by rw [cellsOf_sz hn, ← hl, hlen]), List.range_eq_range', p3]; rfl
    · cases h
theorem trod_plain {w : World} {t : TypeId} {v : Value} {d : DataW H} {ps : List MemPlace} {ks : List Ki} {n : Nat} {base : Nat} {spare : Nat → Bool} {held : Bool}
    (hf : kiTy P 20 t = some ks) (hs : szOf P t = some n) (hl : ks.length = n) (h : DataW.Trod enc P w base spare held t v d ps) :
    kmatch ks v.cells.toList ∧ ps = [] ∧ ∀ w' base' spare' held', DataW.Trod enc P w' base' spare' held' t v d ps := by
  obtain ⟨fuel, h⟩ := h
  obtain ⟨p1, p2, p3⟩ := plain_ty fuel 20 t ks n hf hs hl w base spare held _ _ h
  exact ⟨p1, p2, fun w' base' spare' held' => ⟨fuel, p3 w' base' spare' held'⟩⟩
end
theorem agg_of {v : Value} {cs : List Value} (h : v.cells.toList = cs) (h2 : 2 ≤ cs.length) : v = .agg ⟨cs⟩ := by
  rw [vcells_eq] at h
  cases v <;> simp [vcells] at h <;> subst h <;> first | rfl | simp at h2
end Go.Eng.K
end
section
set_option linter.unusedVariables false
set_option linter.unusedSimpArgs false
set_option linter.unusedSectionVars false
namespace Go.Eng.K
open Go.Eng
theorem vr_ex (β : Emb) : ∀ v : Value, ∃ a, VR β a v := by
  have key : ∀ (n : Nat) (v : Value), SizeOf.sizeOf v < n → ∃ a, VR β a v := by
    intro n
    induction n with
    | zero => intro v h; omega
    | succ n ih =>
      intro v h
      have list : ∀ l : List Value, (∀ x ∈ l, SizeOf.sizeOf x < n) → ∃ bs, VRs β bs l := by
        intro l
        induction l with
        | nil => intro _; exact ⟨[], .nil⟩
        | cons x r ihl =>
          intro hx
          obtain ⟨a, ha⟩ := ih x (hx x (List.mem_cons_self ..))
          obtain ⟨bs, hs⟩ := ihl (fun y hy => hx y (List.mem_cons_of_mem _ hy))
          exact ⟨a :: bs, .cons _ _ _ _ ha hs⟩
      by_cases ho : okCell v = true
      · exact ⟨.chan none, .junk none v ho⟩
      · match v, ho, h with
        | .agg ⟨l⟩, _, h =>
          obtain ⟨bs, hs⟩ := list l (fun x hx => by
            have := List.sizeOf_lt_of_mem hx
            simp only [Value.agg.sizeOf_spec, Array.mk.sizeOf_spec] at h
            omega)
          exact ⟨.agg ⟨bs⟩, .agg _ _ hs⟩
        | .tuple ⟨l⟩, _, h =>
          obtain ⟨bs, hs⟩ := list l (fun x hx => by
            have := List.sizeOf_lt_of_mem hx
            simp only [Value.tuple.sizeOf_spec, Array.mk.sizeOf_spec] at h
            omega)
          exact ⟨.tuple ⟨bs⟩, .tup _ _ hs⟩
  exact fun v => key (SizeOf.sizeOf v + 1) v (Nat.lt_succ_self _)
def mirE (W : World) : Emb := fun k => if k < W.heap.size then some ⟨k, 0, []⟩ else none
open Classical in
noncomputable def absV (W : World) (v : Value) : Value :=
  match v with
  | .slice (some a) len cap =>
    if len = 0 then .slice (some ⟨0, 0, some 1⟩) 0 0
    else if a.spot = none ∧ a.block < W.heap.size then .slice (some a) len cap
    else Classical.choose (vr_ex (mirE W) (.slice (some a) len cap))
  | v => if isBase v = true then v else Classical.choose (vr_ex (mirE W) v)
theorem absV_vr (W : World) (v : Value) : VR (mirE W) (absV W v) v := by
  unfold absV
  split
  · rename_i a len cap
    split
    · rename_i h; subst h; exact .sle _ _
    · split
      · rename_i h
        obtain ⟨b, off, s⟩ := a
        obtain ⟨h1, h2⟩ := h
        simp only at h1 h2
        subst h1
        exact VR.sl b off len cap ⟨b, 0, []⟩ (by unfold mirE; rw [if_pos h2])
      · exact Classical.choose_spec (vr_ex (mirE W) _)
  · split
    · rename_i h; exact .base _ h
    · exact Classical.choose_spec (vr_ex (mirE W) _)
theorem absV_base {W : World} {v : Value} (h : isBase v = true) : absV W v = v := by
  unfold absV
  split
  · simp [isBase] at h
  · rw [if_pos h]
theorem absV_map (W : World) : ∀ l : List Value, VRs (mirE W) (l.map (absV W)) l
  | [] => .nil
  | v :: r => .cons _ _ _ _ (absV_vr W v) (absV_map W r)
theorem absV_bases {W : World} : ∀ {l : List Value}, l.all isBase = true → l.map (absV W) = l
  | [], _ => rfl
  | v :: r, h => by
    simp only [List.all_cons, Bool.and_eq_true] at h
    rw [List.map_cons, absV_base h.1, absV_bases h.2]
noncomputable def mirB (W : World) (b : Nat) : Option Blk :=
  match W.heap[b]? with
  | some (.cells c elem _) => some ⟨elem, 0, true, c.toList.map (absV W)⟩
  | _ => none
noncomputable def mirror (W : World) : Heap := (List.range W.heap.size).map fun b => (b, mirB W b)
theorem hget_map {f : Nat → Option Blk} {k : Nat} : ∀ (l : List Nat), hget (l.map fun b => (b, f b)) k = if k ∈ l then f k else none
  | [] => rfl
  | b :: r => by
    simp only [List.map_cons, hget]
    by_cases e : b = k
    · subst e; simp
    · rw [if_neg e, hget_map r]
      simp [Ne.symm e]
theorem mir_get (W : World) (k : Nat) : hget (mirror W) k = mirB W k := by
  unfold mirror
  rw [hget_map]
  by_cases h : k < W.heap.size
  · rw [if_pos (List.mem_range.2 h)]
  · rw [if_neg (by simpa using h)]
    unfold mirB
    rw [Array.getElem?_eq_none (by omega)]
theorem mir_blk {W : World} {k : Nat} {blk : Blk} (h : hget (mirror W) k = some blk) : k < W.heap.size ∧ ∃ C fr, W.heap[k]? = some (.cells ⟨C⟩ blk.elem fr) ∧ blk.sz = 0 ∧ blk.cells = C.map (absV W) := by
  rw [mir_get] at h
  unfold mirB at h
  split at h
  · rename_i c elem fr hk
    cases h
    refine ⟨?_, c.toList, fr, hk, rfl, rfl⟩
    rcases Nat.lt_or_ge k W.heap.size with h | h
    · exact h
    · rw [Array.getElem?_eq_none h] at hk; cases hk
  · cases h
theorem mir_wr {W : World} {k : Nat} : ¬ wr (mirror W) k := fun ⟨blk, h1, h2⟩ => by
  obtain ⟨_, C, fr, _, h3, _⟩ := mir_blk h1
  exact h2 h3
theorem mir_rel (W : World) : Rel (mirE W) (mirror W) W := by
  refine ⟨fun k blk hk => ?_, fun k k' L L' _ b => absurd b mir_wr, fun k L h => ?_⟩
  · obtain ⟨h1, C, fr, h2, h3, h4⟩ := mir_blk hk
    refine ⟨⟨k, 0, []⟩, C, fr, by unfold mirE; rw [if_pos h1], by simpa using h2, fun h => absurd h3 h, by rw [h4]; exact absV_map W C, by simp, fun _ => rfl⟩
  · unfold mirE at h
    split at h
    · rename_i hk; cases h; exact hk
    · cases h
theorem mir_calls {P : Program} {f : Nat} {S : List Value → Heap → Nat → Option Out} (hS : SpecOK P f S) {W : World} {aargs args : List Value} {v : Value} (h : S aargs (mirror W) W.heap.size = some (v, [], 0))
    (ha : VRs (mirE W) aargs args) (hv : isBase v = true) :
    Calls P f ⟨args⟩ W fun e W' => e = .returned v ∧ W'.os = W.os ∧ W'.output = W.output ∧ ∀ b, b < W.heap.size → W'.heap[b]? = W.heap[b]? := by
  have h := hS.ok aargs (mirror W) W.heap.size (v, [], 0) h (mirE W) W args ha (mir_rel W) (fun k h1 h2 => by simp only at h2; omega)
    ⟨W.heap.size, fun k hk => by
      rcases Nat.lt_or_ge k W.heap.size with h | h
      · exact h
      · exact absurd (by unfold mirE; rw [if_neg (by omega)]) hk⟩
  refine h.mono ?_
  rintro e W' ⟨β', v', he, hvr, hrel, hfr, _⟩
  exact ⟨by rw [he, hvr.base_left hv], hfr.os, hfr.out, fun b hb => hfr.keep b hb (fun k L hk => absurd hk mir_wr)⟩
theorem kept_of {W W' : World} (h1 : W'.os = W.os) (h2 : W'.output = W.output) (h3 : ∀ b, b < W.heap.size → W'.heap[b]? = W.heap[b]?) : W.keptBut W' (fun _ => False) := by
  refine ⟨h1, h2, fun i hi => ?_⟩
  rw [h3 i hi]
  cases W.heap[i]? with
  | none => rfl
  | some o =>
    cases o with
    | cells c t fr => exact ⟨rfl, rfl, rfl, fun _ _ => rfl⟩
    | map es cl => exact .inr ⟨rfl, rfl⟩
    | _ => rfl
section
variable {H : Type} {enc : TypeId × Value → H} {P : Program}
theorem trodAll_old {W W' : World} (hs : ∀ b, b < W.heap.size → W'.heap[b]? = W.heap[b]?) {base : Nat} {sp : Nat → Bool} {held : Bool} :
    ∀ {ts : List TypeId} {vs : List Value} {ds : List (DataW H)} {ps : List MemPlace}, DataW.TrodAll enc P W base sp held ts vs ds ps → DataW.TrodAll enc P W' base sp held ts vs ds ps
  | [], [], [], _, h => h
  | t :: ts, v :: vs, d :: ds, ps, ⟨p, q, ⟨n, h1⟩, h2, e⟩ => by
    have lt := DataW.trod_lt n _ _ _ h1
    refine ⟨p, q, ⟨n, DataW.trod_carry n _ _ _ h1 (fun x hx => ?_)⟩, trodAll_old hs h2, e⟩
    have hb := lt x hx
    cases x with
    | cell b off => simp only [MemPlace.block] at hb; simp only [World.sameAt, World.cell?, hs b hb]
    | map b => simp only [MemPlace.block] at hb; simp only [World.sameAt, hs b hb]
  | [], [], _ :: _, _, h => h.elim
  | [], _ :: _, _, _, h => by cases h
  | _ :: _, [], _, _, h => by cases h
  | _ :: _, _ :: _, [], _, h => by cases h
theorem args_again {W W' : World} (hl : laidOutB P = true) (hm : mapsRowed P = true) (hz : ((List.range P.types.size).all fun t => match P.underlying t with | some (.slice e) => decide (0 < P.cellsOf e) | _ => true) = true)
    (hs : ∀ b, b < W.heap.size → W'.heap[b]? = W.heap[b]?) {ts : List TypeId} (ht : ts.all (fun t => decide (t < P.types.size)) = true) {vs : List Value} {ds : List (DataW H)} {ps : List MemPlace} (h : DataW.TrodAll enc P W 0 (fun _ => true) true ts vs ds ps) :
    DataW.TrodAll enc P W' 0 (fun b => decide (b < W.heap.size)) true ts vs ds ps := by
  refine DataW.TrodAll.respare (kids_rows hl hm) (slices_full_of P hz) (fun t h => of_decide_eq_true (List.all_eq_true.1 ht t h)) (trodAll_old hs h) (fun p hp => ?_)
  exact decide_eq_true (DataW.TrodAll.lt h p hp)
theorem mir_at {W : World} {a : Addr} {n : Nat} {cs : List Value} (hn : 0 < n) (h : W.cells? 0 a n = some cs) :
    a.spot = none ∧ a.block < W.heap.size ∧ ∃ blk, hget (mirror W) a.block = some blk ∧ a.off + n ≤ blk.cells.length ∧ (blk.cells.drop a.off).take n = cs.map (absV W) := by
  obtain ⟨_, hlen, hc⟩ := World.cells?_some h
  have h0 := hc 0 hn
  rw [List.getElem?_eq_getElem (by omega)] at h0
  have e0 : a.add 0 = a := rfl
  rw [e0] at h0
  unfold World.cell? at h0
  split at h0
  case h_2 => cases h0
  rename_i c elem fr hk
  split at h0
  case isTrue => cases h0
  rename_i hsp
  have hspot : a.spot = none := by cases h : a.spot with | none => rfl | some s => rw [h] at hsp; simp at hsp
  have hlt : a.block < W.heap.size := by
    rcases Nat.lt_or_ge a.block W.heap.size with h | h
    · exact h
    · rw [Array.getElem?_eq_none h] at hk; cases hk
  have cell : ∀ i, i < n → c.toList[a.off + i]? = cs[i]? := fun i hi => by
    have := hc i hi
    rw [← this]
    have ea : a.add i = ⟨a.block, a.off + i, none⟩ := by
      unfold Addr.add
      split
      · rename_i h0; subst h0; cases a; simp_all
      · rfl
    rw [ea]
    simp only [World.cell?, hk]
    simp
  have hle : a.off + n ≤ c.toList.length := by
    have := cell (n - 1) (by omega)
    rw [List.getElem?_eq_getElem (by omega : n - 1 < cs.length)] at this
    have := (List.getElem?_eq_some_iff.1 this).1
    omega
  refine ⟨hspot, hlt, ⟨elem, 0, true, c.toList.map (absV W)⟩, ?_, by simpa using hle, ?_⟩
  · rw [mir_get]; unfold mirB; rw [hk]
  · refine List.ext_getElem? fun i => ?_
    rw [List.getElem?_take]
    by_cases hi : i < n
    · rw [if_pos hi, List.getElem?_drop, List.getElem?_map, List.getElem?_map, cell i hi]
    · rw [if_neg hi, List.getElem?_eq_none (by simp; omega)]
theorem many_ex {α : Type} {sz : Nat} {dec : List Value → Option α} : ∀ (l : Nat) (cs : List Value), (∀ i, i < l → ∃ x, dec ((cs.drop (i * sz)).take sz) = some x) → ∃ xs, many sz dec l cs = some xs
  | 0, cs, _ => ⟨[], rfl⟩
  | l + 1, cs, h => by
    obtain ⟨x, hx⟩ := h 0 (by omega)
    simp only [Nat.zero_mul, List.drop_zero] at hx
    obtain ⟨xs, hxs⟩ := many_ex l (cs.drop sz) (fun i hi => by
      obtain ⟨y, hy⟩ := h (i + 1) (by omega)
      refine ⟨y, ?_⟩
      rw [List.drop_drop, ← hy, Nat.succ_mul, Nat.add_comm (i * sz) sz])
    refine ⟨x :: xs, ?_⟩
    unfold many
    simp only [hx, hxs]
theorem mir_list {W : World} {α : Type} {dec : List Value → Option α} {t e : TypeId} {n fuel : Nat} {held : Bool} {sv : Value} {x : DataW H × List MemPlace} (ht : P.underlying t = some (.slice e)) (hsz : P.cellsOf e = n) (hn : 0 < n)
    (h : DataW.trod enc P W 0 (fun _ => true) held fuel t [sv] = some x)
    (hdec : ∀ (m : Nat) (cs : List Value) (y : DataW H × List MemPlace), DataW.trod enc P W 0 (fun _ => true) held m e cs = some y → ∃ z, dec (cs.map (absV W)) = some z) :
    ∃ xs, listAt n dec (mirror W) (absV W sv) = some xs ∧ xs.length ≤ maxLen := by
  rcases Go.Deep.open_slice ht h with ⟨h1, _⟩ | ⟨a, len, cap, m, k, D, Pl, h1, _, hl, hm, hmm, _, hx⟩
  · simp only [List.cons.injEq, and_true] at h1
    subst h1
    exact ⟨[], by rw [absV_base rfl]; rfl, by simp⟩
  · simp only [List.cons.injEq, and_true] at h1
    subst h1
    simp only [if_true] at hmm
    subst hmm
    rw [hsz] at hx
    by_cases h0 : len = 0
    · subst h0
      exact ⟨[], by unfold absV; simp only [if_true]; rfl, by simp⟩
    · obtain ⟨c0, hc0, _⟩ := hx 0 (by omega)
      rw [Nat.zero_mul] at hc0
      obtain ⟨s1, s2, blk, s3, _, _⟩ := mir_at hn hc0
      have ev : absV W (.slice (some a) len m) = .slice (some a) len m := by unfold absV; simp only; rw [if_neg h0, if_pos ⟨s1, s2⟩]
      obtain ⟨b, off, sp⟩ := a
      replace s1 : sp = none := s1
      replace s3 : hget (mirror W) b = some blk := s3
      subst s1
      have cell : ∀ i, i < len → ∃ cs, off + i * n + n ≤ blk.cells.length ∧ (blk.cells.drop (off + i * n)).take n = cs.map (absV W) ∧ ∃ y, DataW.trod enc P W 0 (fun _ => true) held k e cs = some y := fun i hi => by
        obtain ⟨cs, hc, hy⟩ := hx i (by omega)
        obtain ⟨q1, q2, blk', q3, q4, q5⟩ := mir_at hn hc
        have ea : (⟨b, off, none⟩ : Addr).add (i * n) = ⟨b, off + i * n, none⟩ := add_none _ _ _
        rw [ea] at q3 q4 q5
        replace q3 : hget (mirror W) b = some blk' := q3
        replace q4 : off + i * n + n ≤ blk'.cells.length := q4
        replace q5 : (blk'.cells.drop (off + i * n)).take n = cs.map (absV W) := q5
        rw [s3] at q3; cases q3
        exact ⟨cs, q4, q5, _, hy⟩
      have hle : off + len * n ≤ blk.cells.length := by
        obtain ⟨_, q, _⟩ := cell (len - 1) (by omega)
        obtain ⟨l', rfl⟩ : ∃ l', len = l' + 1 := ⟨len - 1, by omega⟩
        simp only [Nat.add_sub_cancel] at q
        rw [Nat.succ_mul]; omega
      have la : lay n (mirror W) (.slice (some ⟨b, off, none⟩) len m) = some ((blk.cells.drop off).take (len * n)) := by
        obtain ⟨l', rfl⟩ : ∃ l', len = l' + 1 := ⟨len - 1, by omega⟩
        unfold lay
        simp only [s3]
        rw [if_pos ⟨hl, hle⟩]
      obtain ⟨xs, hxs⟩ := many_ex (sz := n) (dec := dec) len ((blk.cells.drop off).take (len * n)) (fun i hi => by
        obtain ⟨cs, q1, q2, y, q3⟩ := cell i hi
        obtain ⟨z, hz⟩ := hdec k cs y q3
        refine ⟨z, ?_⟩
        rw [List.drop_take, List.take_take, List.drop_drop]
        have : n ≤ len * n - i * n := by rw [← Nat.sub_mul]; exact Nat.le_mul_of_pos_left _ (by omega)
        rw [Nat.min_eq_left this, q2]
        exact hz)
      refine ⟨xs, ?_, ?_⟩
      · rw [ev]
        unfold listAt
        rw [la]
        exact hxs
      · rw [(many_get hxs).1]; omega
theorem kmatch_base : ∀ {ks : List Ki} {cs : List Value}, kmatch ks cs → cs.all isBase = true
  | [], [], _ => rfl
  | .b :: ks, cs, h => by
    match cs, h with
    | .bool _ :: r, h => simp only [List.all_cons, isBase, Bool.true_and]; exact kmatch_base (ks := ks) h
  | .i k :: ks, cs, h => by
    match cs, h with
    | .int _ _ :: r, h => simp only [List.all_cons, isBase, Bool.true_and]; exact kmatch_base (ks := ks) h.2
  | .s :: ks, cs, h => by
    match cs, h with
    | .string _ :: r, h => simp only [List.all_cons, isBase, Bool.true_and]; exact kmatch_base (ks := ks) h.2
end
end Go.Eng.K
end
section
set_option linter.unusedVariables false
set_option linter.unusedSimpArgs false
set_option linter.unusedSectionVars false
namespace Go.Eng
structure Pt where
  (s1 : Bool) (l1 : List UInt8) (s2 : Bool) (l2 : List UInt8) (s3 : Bool) (l3 : List UInt8) (s4 : Bool) (l4 : List UInt8)
deriving DecidableEq
namespace Pt
def cells (p : Pt) : List Value := [.bool p.s1, .string ⟨⟨p.l1⟩⟩, .bool p.s2, .string ⟨⟨p.l2⟩⟩, .bool p.s3, .string ⟨⟨p.l3⟩⟩, .bool p.s4, .string ⟨⟨p.l4⟩⟩]
def x (p : Pt) : Int := sv p.s1 p.l1
def y (p : Pt) : Int := sv p.s2 p.l2
def z (p : Pt) : Int := sv p.s3 p.l3
def w (p : Pt) : Int := sv p.s4 p.l4
def on (p q r : Pt) : Prop := flt p.x p.y p.z p.w q.x q.y q.z q.w r.x r.y r.z r.w
instance {p q r : Pt} : Decidable (on p q r) := by unfold on; infer_instance
def ok (p : Pt) : Prop := (p.l1.length ≤ 65536 ∧ p.l2.length ≤ 65536 ∧ p.l3.length ≤ 65536 ∧ p.l4.length ≤ 65536) ∧ 0 < p.w
instance {p : Pt} : Decidable p.ok := by unfold ok; infer_instance
end Pt
end Go.Eng
end
section
set_option linter.unusedVariables false
set_option linter.unusedSimpArgs false
set_option linter.unusedSectionVars false
namespace Go.Eng
namespace Pt
def dflt : Pt := ⟨false, [], false, [], false, [], false, []⟩
def sz (k : Nat) (p : Pt) : Prop := p.l1.length ≤ k ∧ p.l2.length ≤ k ∧ p.l3.length ≤ k ∧ p.l4.length ≤ k
instance {k : Nat} {p : Pt} : Decidable (p.sz k) := by unfold sz; infer_instance
end Pt
def ptAt (l : List Pt) (i : Nat) : Pt := (l[i]?).getD Pt.dflt
def awx (a b : Pt) : Int := b.x * a.w - a.x * b.w
def awy (a b : Pt) : Int := b.y * a.w - a.y * b.w
def awz (a b : Pt) : Int := b.z * a.w - a.z * b.w
def lftZ (P a b x : Pt) : Int :=
  0 + P.x * (awy a b * awz a x - awz a b * awy a x) + P.y * (awz a b * awx a x - awx a b * awz a x) + P.z * (awx a b * awy a x - awy a b * awx a x)
def turnsP (P : Pt) (l : List Pt) : Prop := ∀ i, i < l.length → ∀ j, j < l.length → j ≠ i → j ≠ (i + 1) % l.length → 0 < lftZ P (ptAt l i) (ptAt l ((i + 1) % l.length)) (ptAt l j)
instance {P : Pt} {l : List Pt} : Decidable (turnsP P l) := by unfold turnsP; infer_instance
end Go.Eng
end
section
set_option linter.unusedVariables false
set_option linter.unusedSimpArgs false
set_option linter.unusedSectionVars false
namespace Go.Eng.K
open Go.Eng
section
variable {H : Type} {enc : TypeId × Value → H} {P : Program}
def sumL : List Nat → Nat
  | [] => 0
  | x :: r => x + sumL r
variable (bulk : DataW H → Nat) (b1 : ∀ b : List UInt8, b.length ≤ bulk (.lit (.string b))) (b2 : ∀ ps : List (DataW H), sumL (ps.map bulk) ≤ bulk (.agg ps))
include b1 b2 in
include b1 b2 in
end
end Go.Eng.K
end
section
set_option linter.unusedVariables false
set_option linter.unusedSimpArgs false
set_option linter.unusedSectionVars false
namespace Go.Eng.K
open Go.Eng Go.WideShapes
section
variable {H : Type} {enc : TypeId × Value → H} {P : Program}
end
end Go.Eng.K
end
section
set_option linter.unusedVariables false
set_option linter.unusedSimpArgs false
set_option linter.unusedSectionVars false
namespace Go.Eng.K
open Go.Eng Go.WideShapes
section
variable {H : Type} {enc : TypeId × Value → H} {P : Program}
theorem km_p {cs : List Value} (h : kmatch [.b, .s, .s, .b, .s, .s] cs) : ∃ p : PQ, cs = pcl p := by
  match cs, h with
  | [.bool s, .string ⟨⟨n⟩⟩, .string ⟨⟨d⟩⟩, .bool s', .string ⟨⟨n'⟩⟩, .string ⟨⟨d'⟩⟩], _ => exact ⟨(⟨s, n, d⟩, ⟨s', n', d'⟩), rfl⟩
theorem pts_trod {W : World} {fuel : Nat} {tv tp : TypeId} {sv : Value} {x : DataW H × List MemPlace} (hv : P.underlying tv = some (.slice tp)) (hq : kiTy P 20 tp = some [.b, .s, .s, .b, .s, .s]) (hs : szOf P tp = some 6)
    (h : DataW.trod enc P W 0 (fun _ => true) true fuel tv [sv] = some x) : ∃ l, decPts (mirror W) (absV W sv) = some l ∧ l.length ≤ maxLen :=
  mir_list (dec := dec2) (n := 6) hv (cellsOf_sz hs) (by omega) h (fun m cs y hy => by
    obtain ⟨km, _, _⟩ := plain_ty m 20 tp _ 6 hq hs rfl W 0 _ true _ y hy
    obtain ⟨q, eq⟩ := km_p km
    rw [absV_bases (kmatch_base km), eq]
    exact ⟨q, rfl⟩)
theorem open_pts {W : World} {base : Nat} {t tp : TypeId} {v : Value} {d : DataW H} {ps : List MemPlace} (hv : P.underlying t = some (.slice tp)) (hq : kiTy P 20 tp = some [.b, .s, .s, .b, .s, .s]) (hs : szOf P tp = some 6)
    (hval : Value.okWide P W .any base t v) (h : DataW.Trod enc P W 0 (fun _ => true) true t v d ps) : ∃ l, decPts (mirror W) (absV W v) = some l ∧ l.length ≤ maxLen := by
  obtain ⟨a, len, cap, rfl⟩ := okWide_slice hv hval
  obtain ⟨fuel, h⟩ := h
  exact pts_trod hv hq hs h
end
end Go.Eng.K
end
