/-
  A part of the proof: the machine, the contracts of the functions and the plain laws, merged from smaller texts.
-/
import Derived.Test.YtecgadjeomfagaaGreatDoorCf4
import Derived.RowKit3
import Derived.ChangeSame
import Derived.ReadAgain
import Derived.Deep.Slices
import Derived.WideShapes
section
set_option linter.unusedVariables false
set_option linter.unusedSimpArgs false
set_option linter.unusedSectionVars false
set_option maxRecDepth 20000
namespace Go.Eng
open Go Go.Proofs Go.IntWalk
theorem ar2_small {L : List P2} (h : L.length < 3) : ar2 L = 0 := by
  match L, h with
  | [], _ => rfl
  | [a], _ => show crs (a, a) + 0 = 0; unfold crs; grind
  | [a, b], _ => show crs (a, b) + (crs (b, a) + 0) = 0; unfold crs; grind
def c12 : ICode :=
  (.seq (.reg [qq 2 (.alloc 30 3 [(.bool false), e0, e0])]) (.seq (.reg [qq 9 (.call 34 [(ci 0)]), qq 3 (.alloc 30 3 [(.bool false), e0, e0]), qn (.store 3 (.t 3) (.t 9))]) (.seq (.seq (.reg [qq 10 (.mv (.t 0)), qq 11 (.lensl (.t 10)), qq 12 (.bin .lss (.t 11) (ci 3))]) (.cond (.t 12) (.seq (.reg [qq 13 (.load true 3 (.t 3)), qn (.store 3 (.t 2) (.t 13))]) .ret) .skip)) (.seq (.seq (.reg [qq 14 (.mv (.t 0)), qq 15 (.lensl (.t 14)), qq 16 (.mv (ci 0))]) (.block 0 (.loop (.seq (.reg [qq 17 (.bin .lss (.t 16) (.t 15))]) (.seq (.cond (.t 17) .skip (.exit 0)) (.seq (.block 1 (.seq (.reg [qq 18 (.mv (.t 16)), qq 4 (.mv (.t 18))]) (.seq (.dreg [qu 19 (.mv (.t 0)), qu 20 (.mv (.t 4)), qu 21 (.ixsl 6 (.t 19) (.t 20)), qu 22 (.load true 6 (.t 21)), qu 23 (.mv (.t 0)), qu 24 (.mv (.t 4)), qu 25 (.bin .add (.t 24) (ci 1)), qu 26 (.mv (.t 0)), qu 27 (.lensl (.t 26)), qu 28 (.bin .rem (.t 25) (.t 27)), qu 29 (.ixsl 6 (.t 23) (.t 28)), qu 30 (.load true 6 (.t 29)), qu 5 (.alloc 34 6 [(.bool false), e0, e0, (.bool false), e0, e0]), qu 6 (.alloc 34 6 [(.bool false), e0, e0, (.bool false), e0, e0]), ⟨none, none, [1011], (.store 6 (.t 5) (.t 22))⟩, qm (.store 6 (.t 6) (.t 30))]) (.dreg [qu 31 (.load true 3 (.t 3)), qu 32 (.ixarr 2 3 (.t 5) (ci 0)), qu 33 (.load true 3 (.t 32)), qu 34 (.ixarr 2 3 (.t 6) (ci 1)), qu 35 (.load true 3 (.t 34)), qu 36 (.call 37 [(.t 33), (.t 35)]), qu 37 (.ixarr 2 3 (.t 6) (ci 0)), qv 38 [5] (.load true 3 (.t 37)), qu 39 (.ixarr 2 3 (.t 5) (ci 1)), qv 40 [5] (.load true 3 (.t 39)), qu 41 (.call 37 [(.t 38), (.t 40)]), qu 42 (.call 36 [(.t 36), (.t 41)]), qu 43 (.call 35 [(.t 31), (.t 42)]), qm (.store 3 (.t 3) (.t 43))])))) (.reg [qq 44 (.bin .add (.t 16) (ci 1)), qq 16 (.mv (.t 44))]))))))) (.seq (.dreg [qu 46 (.load true 3 (.t 3)), qu 47 (.call 34 [(ci 2)]), qu 48 (.call 38 [(.t 46), (.t 47)]), qu 45 (.mv (.t 48)), qu 49 (.ext (.t 45) 0), qu 50 (.ext (.t 45) 1), qu 7 (.alloc 30 3 [(.bool false), e0, e0]), qm (.store 3 (.t 7) (.t 49)), qu 8 (.mv (.t 50))]) (.seq (.reg [qq 51 (.load true 3 (.t 7)), qn (.store 3 (.t 2) (.t 51))]) .ret))))))
theorem tr12 : trFun Tryz.prog 12 = some ⟨52, [.cell 2 true 3], c12⟩ := by kernel_rfl
set_option maxHeartbeats 8000000 in
theorem ok_area26 : SpecOK Tryz.prog 12 (rdS spArea2) := by
  refine rd_run (env_cons ok_r3Mul (env_cons ok_r3Sub (env_cons ok_r3Add (env_cons ok_r3From26 (env_cons ok_r3Div (env_nil _)))))) mixed tr12 ?_ ?_
  · intro args h h' v hle e
    unfold spArea2 at e ⊢
    split at e
    · split at e
      · rename_i l hb
        simp only [decPts_mono hle hb]; exact e
      · cases e
    · cases e
  intro args v h N hG hN
  unfold spArea2 at hG
  split at hG
  case h_2 => cases hG
  rename_i sl
  split at hG
  case h_2 => cases hG
  rename_i l hx
  split at hG
  case isFalse => cases hG
  rename_i hs
  cases hG
  obtain ⟨a, cc, rfl⟩ := decPts_sl hx
  refine ⟨rfl, by simp, ?_⟩
  have l1000 := hs.1
  have hL : (pvs l).length = l.length := pvs_len l
  have nbN : ∀ q, q < N → ∀ j, (N + j = q) = False := fun q hq j => eq_false (by omega)
  have g01 : (N + 1 = N + 0) = False := eq_false (by omega)
  have gN : (N + 1 = N) = False := eq_false (by omega)
  have gN' : (N = N + 1) = False := eq_false (by omega)
  have f2 : spR3From26 [.int .i64 2] = some (.agg ⟨(RQ.of 2).cells⟩) := rfrom (z := 2) (by omega)
  have f0 : spR3From26 [.int .i64 0] = some (.agg ⟨(RQ.of 0).cells⟩) := rfrom (z := 0) (by omega)
  by_cases c3 : l.length < 3
  · have c3' : ((l.length : Int) < 3) = True := eq_true (by omega)
    have e0 : ar2 (pvs l) / 2 = 0 := by rw [ar2_small (by rw [pvs_len]; exact c3)]; decide +kernel
    rw [e0]
    generalize RQ.of 0 = Q0 at *
    simp only [c12, G0, Nat.reduceAdd]
    simp only [↓R0, R1, simprocAttr, -Int.reduceAbs, c3', f0, q_len, q_ok, q_tk, q_st, q_st', Fin, isEnd, resL, res1]
    exact ⟨_, rfl, rfl, fun k hk => by simp only [ne_nb hk, if_false]⟩
  have c3' : ((l.length : Int) < 3) = False := eq_false (by omega)
  simp only [c12, G0, Nat.reduceAdd]
  simp only [↓R0, R1, simprocAttr, -Int.reduceAbs, c3', f0, q_len, q_ok, q_tk, q_st, q_st']
  refine lp_parts (fun c tm hp nx => ∃ (i M : Nat), c + i = l.length ∧ tmget tm 0 = .slice a l.length cc ∧ tmget tm 2 = .pointer (some ⟨N + 0, 0, none⟩) ∧ tmget tm 3 = .pointer (some ⟨N + 1, 0, none⟩) ∧ tmget tm 14 = .slice a l.length cc ∧ tmget tm 15 = .int .i64 l.length ∧ tmget tm 16 = .int .i64 (i : Nat) ∧
      hget hp (N + 0) = some ⟨30, 3, true, [.bool false, .string ⟨⟨[]⟩⟩, .string ⟨⟨[]⟩⟩]⟩ ∧ hget hp (N + 1) = some ⟨30, 3, true, (RQ.of (arT (pvs l) i)).cells⟩ ∧ ExtL N h hp ∧ N + 2 ≤ M ∧ nx = M + 0) ?_ l.length
    ⟨0, N + 2, by omega, ?_, ?_, ?_, ?_, ?_, ?_, ?_, ?_, ?_, Nat.le_refl _, rfl⟩
  rotate_left
  all_goals first | (simp only [↓R0, R1, simprocAttr, -Int.reduceAbs]; done) | (simp only [↓R0, R1, simprocAttr, -Int.reduceAbs]; rfl) | (simp only [↓R0, R1, simprocAttr, -Int.reduceAbs]; rfl) | skip
  · intro q hq
    have nb := nbN q hq
    simp only [↓R0, R1, simprocAttr, -Int.reduceAbs, nb]
  rintro c tm hp nx ⟨i, M, hc, t0, t2, t3, t9, t10, t11, b0, b1, hh, hM, hnx⟩
  rw [hnx]
  clear hnx nx
  have nbq : ∀ q, q < N → ∀ d, (M + d = q) = False := fun q hq d => eq_false (by omega)
  have m0 : ∀ d, (M + d = N + 0) = False := fun d => eq_false (by omega)
  have m1 : ∀ d, (M + d = N + 1) = False := fun d => eq_false (by omega)
  have m2 : ∀ d, (M + d = N) = False := fun d => eq_false (by omega)
  have m3 : ∀ d, (N + 1 = M + d) = False := fun d => eq_false (by omega)
  have m4 : ∀ d, (N + 0 = M + d) = False := fun d => eq_false (by omega)
  by_cases c1 : i < l.length
  case neg =>
    have e : i = l.length := by omega
    subst e
    have c1' : ((l.length : Int) < (l.length : Int)) = False := eq_false (by omega)
    have eA : arT (pvs l) l.length = ar2 (pvs l) := by rw [← hL, arT_all]
    rw [eA] at b1
    have rA : RB (ar2 (pvs l)) 4000007000 := by
      by_cases l0 : 0 < l.length
      · have := arT_RB hs.2 l0 l.length (Nat.le_refl _)
        rw [eA] at this
        refine this.le ?_
        have : l.length * (4 * 1000000 + 6) ≤ 1000 * (4 * 1000000 + 6) := Nat.mul_le_mul_right _ l1000
        omega
      · have : ar2 (pvs l) = 0 := by rw [List.eq_nil_of_length_eq_zero (l := l) (by omega)]; rfl
        rw [this]
        exact RB0.le (by omega)
    have dv := rdiv (y := 2) rA (RBs (z := 2) (by omega)) (by omega) (by omega) (by decide)
    generalize RQ.of (ar2 (pvs l)) = Q1 at *
    generalize RQ.of (ar2 (pvs l) / 2) = Q2 at *
    generalize RQ.of 2 = Q3 at *
    simp only [↓R0, R1, simprocAttr, -Int.reduceAbs, t0, t2, t3, t9, t10, t11, c1', b0, b1, f2, dv, q_len, q_ok, q_tk, q_st, m0, m1, m2, m3, m4, g01, gN, gN', Fin, isEnd, resL, res1]
    refine ⟨_, rfl, rfl, fun q hq => ?_⟩
    have nb := nbq q hq
    have nb0 := nbN q hq
    have nN : (N = q) = False := eq_false (by omega)
    simp only [↓R0, R1, simprocAttr, -Int.reduceAbs, nb, nb0, nN]
    exact hh q hq
  have c1' : ((i : Int) < (l.length : Int)) = True := eq_true (by omega)
  have w1 : IntKind.i64.wrap ((i : Int) + 1) = ((i + 1 : Nat) : Int) := by rw [i64_in _ (by omega)]; omega
  have l0 : 0 < l.length := by omega
  have hm : (i + 1) % l.length < l.length := Nat.mod_lt _ l0
  have tm1 : Int.tmod ((i + 1 : Nat) : Int) (l.length : Int) = (((i + 1) % l.length : Nat) : Int) := rfl
  have z1 : ((l.length : Int) = 0) = False := eq_false (by omega)
  have z2 : (l.length = 0) = False := eq_false (by omega)
  have hm' : ((((i + 1) % l.length : Nat) : Int) < (l.length : Int)) = True := eq_true (by omega)
  obtain ⟨k, off, blk, rfl, hb, q1, q2⟩ := pts_at hx c1
  obtain ⟨k', off', blk', e', hb', q3, q4⟩ := pts_at hx hm
  cases e'
  rw [hb] at hb'
  cases hb'
  have hk := hN _ _ hb
  have hbb : hget hp k = some blk := by rw [hh k hk]; exact hb
  have nk := nbq k hk
  have nk' : ∀ d, (k = M + d) = False := fun d => eq_false (by omega)
  have sA := hs.2 _ (pqAt_mem c1)
  have sB := hs.2 _ (pqAt_mem hm)
  have vA := pvs_vt (i := i) l0
  have vB := pvs_vt (i := i + 1) l0
  rw [Nat.mod_eq_of_lt c1] at vA
  have rA := (arT_RB hs.2 l0 i (by omega)).le (show _ ≤ 4000007000 by
    have : i * (4 * 1000000 + 6) ≤ 1000 * (4 * 1000000 + 6) := Nat.mul_le_mul_right _ (by omega)
    omega)
  have mm1 := rmul (sA.1.le (by omega)) (sB.2.le (by omega))
  have mm2 := rmul (sB.1.le (by omega)) (sA.2.le (by omega))
  have r1 := sA.1.rb.mul sB.2.rb (Nat.le_refl _)
  have r2 := sB.1.rb.mul sA.2.rb (Nat.le_refl _)
  have ss := rsub (ofR r1 (by omega)) (ofR r2 (by omega))
  rw [RQ.of_v, RQ.of_v] at ss
  have aa := radd (ofR rA (by omega)) (ofR (r1.sub r2 (Nat.le_refl _)) (by omega))
  rw [RQ.of_v, RQ.of_v] at aa
  have eS := arT_s (L := pvs l) (i := i) (by omega)
  rw [vA, vB] at eS
  have eC : crs (pv2 (pqAt l i), pv2 (pqAt l ((i + 1) % l.length))) = (pqAt l i).1.v * (pqAt l ((i + 1) % l.length)).2.v - (pqAt l ((i + 1) % l.length)).1.v * (pqAt l i).2.v := rfl
  rw [eC] at eS
  rw [← eS] at aa
  generalize (pqAt l i).1.v * (pqAt l ((i + 1) % l.length)).2.v = X1 at *
  generalize (pqAt l ((i + 1) % l.length)).1.v * (pqAt l i).2.v = X2 at *
  generalize pqAt l i = A at *
  generalize pqAt l ((i + 1) % l.length) = B at *
  generalize (i + 1) % l.length = m at *
  simp only [↓R0, R1, simprocAttr, -Int.reduceAbs, t0, t2, t3, t9, t10, t11, c1, c1', b0, b1, hbb, nk, nk', q1, q2, q3, q4, hm, hm', tm1, z1, z2, w1, pcl_len, pcl_ok, pcl_tk, pcl_x, pcl_y, pp_st, q_len, q_ok, q_tk, q_st, q_st', mm1, mm2, ss, aa, m0, m1, m2, m3, m4, g01, gN, gN']
  refine ⟨c - 1, by omega, i + 1, M + 2, by omega, rfl, rfl, fun q hq => ?_, by omega, rfl⟩
  have nb := nbq q hq
  have nb0 := nbN q hq
  simp only [↓R0, R1, simprocAttr, -Int.reduceAbs, nb, nb0]
  exact hh q hq
end Go.Eng
end
section
set_option linter.unusedVariables false
set_option linter.unusedSimpArgs false
set_option linter.unusedSectionVars false
set_option maxRecDepth 20000
namespace Go.Eng
open Go Go.Proofs Go.IntWalk
def prM (L : List P2) (i k : Nat) : Prop := if (i + 1) % L.length = k then onB (vt L i) (vt L (i + 1)) (vt L (k + 1)) = false ∧ onB (vt L k) (vt L (k + 1)) (vt L i) = false
   else ((k + 1) % L.length ≠ i → meetB (vt L i) (vt L (i + 1)) (vt L k) (vt L (k + 1)) = false)
theorem may_prM {L : List P2} : mayP L ↔ 3 ≤ L.length ∧ (∀ i, i < L.length → ∀ k, k < i → cmpP (vt L i) (vt L k) ≠ 0) ∧ ∀ i, i < L.length → ∀ k, k < L.length → k ≠ i → prM L i k := Iff.rfl
def mayB (L : List P2) : Bool := decide (L.length ≤ 12 ∧ mayP L)
def spMay : List Value → Heap → Option Value
  | [sl], h => match decPts h sl with
    | some l => if ptsOK l then some (.bool (mayB (pvs l))) else none
    | none => none
  | _, _ => none
theorem may_of {h : Heap} {sl : Value} {l : List PQ} (hx : decPts h sl = some l) (hs : ptsOK l) : spMay [sl] h = some (.bool (mayB (pvs l))) := by
  unfold spMay
  simp only [hx]
  exact if_pos hs
def c13 : ICode :=
  (.seq (.reg [qq 2 (.mv (.c (.bool false)))]) (.seq (.reg [qq 12 (.mv (.t 0)), qq 13 (.lensl (.t 12)), qq 3 (.mv (.t 13))]) (.seq (.seq (.reg [qq 14 (.mv (.t 3)), qq 15 (.bin .lss (.t 14) (ci 3)), qq 16 (.mv (.t 15)), ⟨(some 17), (some (16, false)), (.mv (.t 3))⟩, ⟨(some 18), (some (16, false)), (.bin .gtr (.t 17) (ci 12))⟩, qq 19 (.pick (.t 16) (.c (.bool true)) (.t 18))]) (.cond (.t 19) (.seq (.reg [qq 2 (.mv (.c (.bool false)))]) .ret) .skip)) (.seq (.seq (.reg [qq 4 (.mv (ci 0))]) (.block 0 (.loop (.seq (.seq (.reg [qq 20 (.mv (.t 4)), qq 21 (.mv (.t 3)), qq 22 (.bin .lss (.t 20) (.t 21))]) (.cond (.t 22) .skip (.exit 0))) (.seq (.block 1 (.seq (.reg [qq 5 (.mv (ci 0))]) (.block 2 (.loop (.seq (.seq (.reg [qq 25 (.mv (.t 5)), qq 26 (.mv (.t 4)), qq 27 (.bin .lss (.t 25) (.t 26))]) (.cond (.t 27) .skip (.exit 2))) (.seq (.block 3 (.seq (.dreg [qu 30 (.mv (.t 0)), qu 31 (.mv (.t 4)), qu 32 (.ixsl 6 (.t 30) (.t 31)), qu 33 (.load true 6 (.t 32)), qu 34 (.mv (.t 0)), qu 35 (.mv (.t 5)), qu 36 (.ixsl 6 (.t 34) (.t 35)), qu 37 (.load true 6 (.t 36)), qu 38 (.call 29 [(.t 33), (.t 37)]), qu 39 (.bin .eql (.t 38) (ci 0))]) (.cond (.t 39) (.seq (.reg [qq 2 (.mv (.c (.bool false)))]) .ret) .skip))) (.reg [qq 28 (.mv (.t 5)), qq 29 (.bin .add (.t 28) (ci 1)), qq 5 (.mv (.t 29))]))))))) (.reg [qq 23 (.mv (.t 4)), qq 24 (.bin .add (.t 23) (ci 1)), qq 4 (.mv (.t 24))])))))) (.seq (.seq (.reg [qq 6 (.mv (ci 0))]) (.block 4 (.loop (.seq (.seq (.reg [qq 40 (.mv (.t 6)), qq 41 (.mv (.t 3)), qq 42 (.bin .lss (.t 40) (.t 41))]) (.cond (.t 42) .skip (.exit 4))) (.seq (.block 5 (.seq (.dreg [qu 45 (.mv (.t 0)), qu 46 (.mv (.t 6)), qu 47 (.ixsl 6 (.t 45) (.t 46)), qu 48 (.load true 6 (.t 47)), qu 49 (.mv (.t 0)), qu 50 (.mv (.t 6)), qu 51 (.bin .add (.t 50) (ci 1)), qu 52 (.mv (.t 3)), qu 53 (.bin .rem (.t 51) (.t 52)), qu 54 (.ixsl 6 (.t 49) (.t 53)), qu 55 (.load true 6 (.t 54)), qu 7 (.alloc 34 6 [(.bool false), e0, e0, (.bool false), e0, e0]), qu 8 (.alloc 34 6 [(.bool false), e0, e0, (.bool false), e0, e0]), ⟨none, none, [1010], (.store 6 (.t 7) (.t 48))⟩, qm (.store 6 (.t 8) (.t 55))]) (.seq (.reg [qq 9 (.mv (ci 0))]) (.block 6 (.loop (.seq (.seq (.reg [qq 56 (.mv (.t 9)), qq 57 (.mv (.t 3)), qq 58 (.bin .lss (.t 56) (.t 57))]) (.cond (.t 58) .skip (.exit 6))) (.seq (.block 7 (.seq (.dreg [qu 61 (.mv (.t 0)), qu 62 (.mv (.t 9)), qu 63 (.ixsl 6 (.t 61) (.t 62)), qu 64 (.load true 6 (.t 63)), qu 65 (.mv (.t 0)), qu 66 (.mv (.t 9)), qu 67 (.bin .add (.t 66) (ci 1)), qu 68 (.mv (.t 3)), qu 69 (.bin .rem (.t 67) (.t 68)), qu 70 (.ixsl 6 (.t 65) (.t 69)), qu 71 (.load true 6 (.t 70)), qu 10 (.alloc 34 6 [(.bool false), e0, e0, (.bool false), e0, e0]), qu 11 (.alloc 34 6 [(.bool false), e0, e0, (.bool false), e0, e0]), ⟨none, none, [1010], (.store 6 (.t 10) (.t 64))⟩, qm (.store 6 (.t 11) (.t 71))]) (.seq (.seq (.reg [qq 72 (.mv (.t 9)), qq 73 (.mv (.t 6)), qq 74 (.bin .eql (.t 72) (.t 73))]) (.cond (.t 74) (.exit 7) .skip)) (.seq (.reg [qq 75 (.mv (.t 6)), qq 76 (.bin .add (.t 75) (ci 1)), qq 77 (.mv (.t 3)), qq 78 (.bin .rem (.t 76) (.t 77)), qq 79 (.mv (.t 9)), qq 80 (.bin .eql (.t 78) (.t 79))]) (.cond (.t 80) (.seq (.reg [qq 81 (.load true 6 (.t 7)), qq 82 (.load true 6 (.t 8)), qq 83 (.load true 6 (.t 11)), qq 84 (.call 39 [(.t 81), (.t 82), (.t 83)]), qq 85 (.mv (.t 84)), ⟨(some 86), (some (85, false)), (.load true 6 (.t 10))⟩, ⟨(some 87), (some (85, false)), (.load true 6 (.t 11))⟩, ⟨(some 88), (some (85, false)), (.load true 6 (.t 7))⟩, ⟨(some 89), (some (85, false)), (.call 39 [(.t 86), (.t 87), (.t 88)])⟩, qq 90 (.pick (.t 85) (.c (.bool true)) (.t 89))]) (.cond (.t 90) (.seq (.reg [qq 2 (.mv (.c (.bool false)))]) .ret) .skip)) (.seq (.reg [qq 91 (.mv (.t 9)), qq 92 (.bin .add (.t 91) (ci 1)), qq 93 (.mv (.t 3)), qq 94 (.bin .rem (.t 92) (.t 93)), qq 95 (.mv (.t 6)), qq 96 (.bin .neq (.t 94) (.t 95)), qq 97 (.mv (.t 96)), ⟨(some 98), (some (97, true)), (.load true 6 (.t 7))⟩, ⟨(some 99), (some (97, true)), (.load true 6 (.t 8))⟩, ⟨(some 100), (some (97, true)), (.load true 6 (.t 10))⟩, ⟨(some 101), (some (97, true)), (.load true 6 (.t 11))⟩, ⟨(some 102), (some (97, true)), (.call 40 [(.t 98), (.t 99), (.t 100), (.t 101)])⟩, qq 103 (.pick (.t 97) (.t 102) (.c (.bool false)))]) (.cond (.t 103) (.seq (.reg [qq 2 (.mv (.c (.bool false)))]) .ret) .skip))))))) (.reg [qq 59 (.mv (.t 9)), qq 60 (.bin .add (.t 59) (ci 1)), qq 9 (.mv (.t 60))])))))))) (.reg [qq 43 (.mv (.t 6)), qq 44 (.bin .add (.t 43) (ci 1)), qq 6 (.mv (.t 44))])))))) (.seq (.reg [qq 2 (.mv (.c (.bool true)))]) .ret))))))
theorem tr13 : trFun Tryz.prog 13 = some ⟨104, [.t 2], c13⟩ := by kernel_rfl
set_option maxHeartbeats 16000000 in
theorem ok_may26 : SpecOK Tryz.prog 13 (rdS spMay) := by
  refine rd_run (env_cons ok_cmp26 (env_cons ok_on26 (env_cons ok_meet26 (env_nil _)))) mixed tr13 ?_ ?_
  · intro args h h' v hle e
    unfold spMay at e ⊢
    split at e
    · split at e
      · rename_i l hb
        simp only [decPts_mono hle hb]; exact e
      · cases e
    · cases e
  intro args v h N hG hN
  unfold spMay at hG
  split at hG
  case h_2 => cases hG
  rename_i sl
  split at hG
  case h_2 => cases hG
  rename_i l hx
  split at hG
  case isFalse => cases hG
  rename_i hs
  cases hG
  obtain ⟨a, cc, rfl⟩ := decPts_sl hx
  refine ⟨rfl, by simp, ?_⟩
  have l1000 := hs.1
  have nbN : ∀ q, q < N → ∀ j, (N + j = q) = False := fun q hq j => eq_false (by omega)
  have hL : (pvs l).length = l.length := pvs_len l
  have dn : ∀ a b : Int, decide (a ≠ b) = !decide (a = b) := fun a b => by by_cases h : a = b <;> simp [h]
  by_cases n3 : l.length < 3
  · have n3' : ((l.length : Int) < 3) = True := eq_true (by omega)
    have ev : mayB (pvs l) = false := decide_eq_false fun h => by have := h.2.1; omega
    rw [ev]
    simp only [c13, G0, Nat.reduceAdd]
    simp only [↓R0, R1, simprocAttr, -Int.reduceAbs, n3', Fin, isEnd, resL, res1]
    exact ⟨_, rfl, rfl, fun k hk => by simp only [ne_nb hk, if_false]⟩
  have n3' : ((l.length : Int) < 3) = False := eq_false (by omega)
  by_cases n12 : 12 < l.length
  · have n12' : ((l.length : Int) > 12) = True := eq_true (by omega)
    have ev : mayB (pvs l) = false := decide_eq_false fun h => by have := h.1; omega
    rw [ev]
    simp only [c13, G0, Nat.reduceAdd]
    simp only [↓R0, R1, simprocAttr, -Int.reduceAbs, n3', n12', Fin, isEnd, resL, res1]
    exact ⟨_, rfl, rfl, fun k hk => by simp only [ne_nb hk, if_false]⟩
  have n12' : ((l.length : Int) > 12) = False := eq_false (by omega)
  have l0 : 0 < l.length := by omega
  simp only [c13, G0, Nat.reduceAdd]
  simp only [↓R0, R1, simprocAttr, -Int.reduceAbs, n3', n12']
  refine lp_parts (fun c tm hp nx => ∃ (i : Nat), c + i = l.length ∧ tmget tm 0 = .slice a l.length cc ∧ tmget tm 3 = .int .i64 l.length ∧ tmget tm 4 = .int .i64 (i : Nat) ∧ (∀ j, j < i → ∀ k, k < j → cmpP (vt (pvs l) j) (vt (pvs l) k) ≠ 0) ∧ hp = h ∧ nx = N + 0) ?_ l.length
    ⟨0, by omega, ?_, ?_, ?_, fun j hj => absurd hj (Nat.not_lt_zero j), rfl, rfl⟩
  rotate_left
  all_goals first | (simp only [↓R0, R1, simprocAttr, -Int.reduceAbs]; done) | (simp only [↓R0, R1, simprocAttr, -Int.reduceAbs]; rfl) | skip
  rintro c tm hp nx ⟨i, hc, t0, t3, t4, hall, rfl, hnx⟩
  rw [hnx]
  clear hnx nx
  by_cases c1 : i < l.length
  case pos =>
    have c1' : ((i : Int) < (l.length : Int)) = True := eq_true (by omega)
    have w1 : IntKind.i64.wrap ((i : Int) + 1) = ((i + 1 : Nat) : Int) := by rw [i64_in _ (by omega)]; omega
    obtain ⟨kb, off, blk, rfl, hb, q1, q2⟩ := pts_at hx c1
    have sA := hs.2 _ (pqAt_mem c1)
    have vA := pvs_vt (i := i) l0
    rw [Nat.mod_eq_of_lt c1] at vA
    simp only [↓R0, R1, simprocAttr, -Int.reduceAbs, t0, t3, t4, c1', w1]
    refine lp_parts (fun d tm hp2 nx => ∃ (k : Nat), d + k = i ∧ tmget tm 0 = .slice (some ⟨kb, off, none⟩) l.length cc ∧ tmget tm 3 = .int .i64 l.length ∧ tmget tm 4 = .int .i64 (i : Nat) ∧ tmget tm 5 = .int .i64 (k : Nat) ∧ (∀ j, j < k → cmpP (vt (pvs l) i) (vt (pvs l) j) ≠ 0) ∧ hp2 = hp ∧ nx = N + 0) ?_ i
      ⟨0, by omega, ?_, ?_, ?_, ?_, fun j hj => absurd hj (Nat.not_lt_zero j), rfl, rfl⟩
    rotate_left
    all_goals first | (simp only [↓R0, R1, simprocAttr, -Int.reduceAbs, t0, t3, t4]; done) | (simp only [↓R0, R1, simprocAttr, -Int.reduceAbs, t0, t3, t4]; rfl) | skip
    clear t0 t3 t4
    rintro d tm hp2 nx ⟨kk, hd, t0, t3, t4, t5, hk, rfl, hnx⟩
    rw [hnx]
    clear hnx nx
    by_cases d1 : kk < i
    case neg =>
      have e : kk = i := by omega
      subst e
      have d1' : ((kk : Int) < (kk : Int)) = False := eq_false (by omega)
      simp only [↓R0, R1, simprocAttr, -Int.reduceAbs, t0, t3, t4, t5, d1', w1]
      refine ⟨c - 1, by omega, kk + 1, by omega, rfl, fun j hj => ?_⟩
      by_cases e : j = kk
      · rw [e]; exact hk
      · exact hall j (by omega)
    have d1' : ((kk : Int) < (i : Int)) = True := eq_true (by omega)
    have d2 : kk < l.length := by omega
    have d2' : ((kk : Int) < (l.length : Int)) = True := eq_true (by omega)
    have wk : IntKind.i64.wrap ((kk : Int) + 1) = ((kk + 1 : Nat) : Int) := by rw [i64_in _ (by omega)]; omega
    obtain ⟨k', off', blk', e', hb', q3, q4⟩ := pts_at hx d2
    cases e'
    rw [hb] at hb'
    cases hb'
    have sB := hs.2 _ (pqAt_mem d2)
    have vB := pvs_vt (i := kk) l0
    rw [Nat.mod_eq_of_lt d2] at vB
    have o1 := cmp26_of sA sB
    rw [← vA, ← vB] at o1
    by_cases z : cmpP (vt (pvs l) i) (vt (pvs l) kk) = 0
    · have z' := eq_true z
      have ev : mayB (pvs l) = false := decide_eq_false fun h => h.2.2.1 i (by omega) kk d1 z
      rw [ev]
      simp only [↓R0, R1, simprocAttr, -Int.reduceAbs, t0, t3, t4, t5, c1, c1', d1', d2, d2', hb, q1, q2, q3, q4, pcl_len, pcl_ok, pcl_tk, o1, z', Fin, isEnd, resL, res1]
      exact ⟨_, rfl, rfl, fun _ _ => trivial⟩
    · have z' := eq_false z
      simp only [↓R0, R1, simprocAttr, -Int.reduceAbs, t0, t3, t4, t5, c1, c1', d1', d2, d2', hb, q1, q2, q3, q4, pcl_len, pcl_ok, pcl_tk, o1, z', wk]
      refine ⟨d - 1, by omega, kk + 1, by omega, rfl, fun j hj => ?_⟩
      by_cases e : j = kk
      · rw [e]; exact z
      · exact hk j (by omega)
  have e : i = l.length := by omega
  subst e
  have c1' : ((l.length : Int) < (l.length : Int)) = False := eq_false (by omega)
  simp only [↓R0, R1, simprocAttr, -Int.reduceAbs, t0, t3, t4, c1']
  refine lp_parts (fun c tm hp2 nx => ∃ (i M : Nat), c + i = l.length ∧ tmget tm 0 = .slice a l.length cc ∧ tmget tm 3 = .int .i64 l.length ∧ tmget tm 6 = .int .i64 (i : Nat) ∧ (∀ j, j < i → ∀ k, k < l.length → k ≠ j → prM (pvs l) j k) ∧ ExtL N hp hp2 ∧ N ≤ M ∧ nx = M + 0) ?_ l.length
    ⟨0, N, by omega, ?_, ?_, ?_, fun j hj => absurd hj (Nat.not_lt_zero j), fun q hq => rfl, Nat.le_refl _, rfl⟩
  rotate_left
  all_goals first | (simp only [↓R0, R1, simprocAttr, -Int.reduceAbs, t0, t3]; done) | (simp only [↓R0, R1, simprocAttr, -Int.reduceAbs, t0, t3]; rfl) | skip
  clear t0 t3 t4 c1' hc c1
  rintro c tm hp2 nx ⟨i, M, hc, t0, t3, t6, hpr, hh, hM, hnx⟩
  rw [hnx]
  clear hnx nx
  have nbq : ∀ q, q < N → ∀ d, (M + d = q) = False := fun q hq d => eq_false (by omega)
  by_cases c1 : i < l.length
  case neg =>
    have e : i = l.length := by omega
    subst e
    have c1' : ((l.length : Int) < (l.length : Int)) = False := eq_false (by omega)
    have ev : mayB (pvs l) = true := decide_eq_true ⟨by omega, may_prM.2 ⟨by omega, fun j hj k hk => hall j (by omega) k hk, fun j hj k hk hne => hpr j (by omega) k (by omega) hne⟩⟩
    rw [ev]
    simp only [↓R0, R1, simprocAttr, -Int.reduceAbs, t0, t3, t6, c1', Fin, isEnd, resL, res1]
    exact ⟨_, rfl, rfl, hh⟩
  have c1' : ((i : Int) < (l.length : Int)) = True := eq_true (by omega)
  have w1 : IntKind.i64.wrap ((i : Int) + 1) = ((i + 1 : Nat) : Int) := by rw [i64_in _ (by omega)]; omega
  have hm : (i + 1) % l.length < l.length := Nat.mod_lt _ l0
  have tm1 : Int.tmod ((i + 1 : Nat) : Int) (l.length : Int) = (((i + 1) % l.length : Nat) : Int) := rfl
  have z1 : ((l.length : Int) = 0) = False := eq_false (by omega)
  have z2 : (l.length = 0) = False := eq_false (by omega)
  have hm' : ((((i + 1) % l.length : Nat) : Int) < (l.length : Int)) = True := eq_true (by omega)
  obtain ⟨k, off, blk, rfl, hb, q1, q2⟩ := pts_at hx c1
  obtain ⟨k', off', blk', e', hb', q3, q4⟩ := pts_at hx hm
  cases e'
  rw [hb] at hb'
  cases hb'
  have hk := hN _ _ hb
  have hbb : hget hp2 k = some blk := by rw [hh k hk]; exact hb
  have nk := nbq k hk
  have nk' : ∀ d, (k = M + d) = False := fun d => eq_false (by omega)
  have sA := hs.2 _ (pqAt_mem c1)
  have sB := hs.2 _ (pqAt_mem hm)
  have vA := pvs_vt (i := i) l0
  have vB := pvs_vt (i := i + 1) l0
  rw [Nat.mod_eq_of_lt c1] at vA
  generalize pqAt l i = A at *
  generalize pqAt l ((i + 1) % l.length) = B at *
  generalize hmm : (i + 1) % l.length = m at *
  simp only [↓R0, R1, simprocAttr, -Int.reduceAbs, t0, t3, t6, c1, c1', hbb, nk, nk', q1, q2, q3, q4, hm, hm', tm1, z1, z2, w1, pcl_len, pcl_ok, pcl_tk, pp_st]
  refine lp_parts (fun d tm hp3 nx => ∃ (kk M2 : Nat), d + kk = l.length ∧ tmget tm 0 = .slice (some ⟨k, off, none⟩) l.length cc ∧ tmget tm 3 = .int .i64 l.length ∧ tmget tm 6 = .int .i64 (i : Nat) ∧ tmget tm 7 = .pointer (some ⟨M + 0, 0, none⟩) ∧ tmget tm 8 = .pointer (some ⟨M + 1, 0, none⟩) ∧ tmget tm 9 = .int .i64 (kk : Nat) ∧
      hget hp3 (M + 0) = some ⟨34, 6, true, pcl A⟩ ∧ hget hp3 (M + 1) = some ⟨34, 6, true, pcl B⟩ ∧ (∀ j, j < kk → j ≠ i → prM (pvs l) i j) ∧ ExtL N hp hp3 ∧ M + 2 ≤ M2 ∧ nx = M2 + 0) ?_ l.length
    ⟨0, M + 2, by omega, ?_, ?_, ?_, ?_, ?_, ?_, ?_, ?_, fun j hj => absurd hj (Nat.not_lt_zero j), ?_, Nat.le_refl _, rfl⟩
  rotate_left
  all_goals first | (simp only [↓R0, R1, simprocAttr, -Int.reduceAbs, t0, t3, t6]; done) | (simp only [↓R0, R1, simprocAttr, -Int.reduceAbs, t0, t3, t6]; rfl) | skip
  · intro q hq
    have nb := nbq q hq
    simp only [↓R0, R1, simprocAttr, -Int.reduceAbs, nb]
    exact hh q hq
  clear t0 t3 t6
  rintro d tm hp3 nx ⟨kk, M2, hd, t0, t3, t6, t7, t8, t9, b0, b1, hj, hh3, hM2, hnx⟩
  rw [hnx]
  clear hnx nx
  have nbq2 : ∀ q, q < N → ∀ d, (M2 + d = q) = False := fun q hq d => eq_false (by omega)
  by_cases d1 : kk < l.length
  case neg =>
    have d1' : ((kk : Int) < (l.length : Int)) = False := eq_false (by omega)
    have d1'' : (kk < l.length) = False := eq_false d1
    simp only [↓R0, R1, simprocAttr, -Int.reduceAbs, t0, t3, t6, t7, t8, t9, d1', d1'', w1]
    refine ⟨c - 1, by omega, i + 1, M2, by omega, rfl, fun j h1 k' h2 h3 => ?_, hh3, by omega, rfl⟩
    by_cases e : j = i
    · rw [e] at h3 ⊢; exact hj k' (by omega) h3
    · exact hpr j (by omega) k' h2 h3
  have d1' : ((kk : Int) < (l.length : Int)) = True := eq_true (by omega)
  have wk : IntKind.i64.wrap ((kk : Int) + 1) = ((kk + 1 : Nat) : Int) := by rw [i64_in _ (by omega)]; omega
  have hm2 : (kk + 1) % l.length < l.length := Nat.mod_lt _ l0
  have tm2 : Int.tmod ((kk + 1 : Nat) : Int) (l.length : Int) = (((kk + 1) % l.length : Nat) : Int) := rfl
  have hm2' : ((((kk + 1) % l.length : Nat) : Int) < (l.length : Int)) = True := eq_true (by omega)
  obtain ⟨k', off', blk', e', hb', r1, r2⟩ := pts_at hx d1
  cases e'
  rw [hb] at hb'
  cases hb'
  obtain ⟨k', off', blk', e', hb', r3, r4⟩ := pts_at hx hm2
  cases e'
  rw [hb] at hb'
  cases hb'
  have hbb3 : hget hp3 k = some blk := by rw [hh3 k hk]; exact hb
  have nk2 := nbq2 k hk
  have nk2' : ∀ d, (k = M2 + d) = False := fun d => eq_false (by omega)
  have m0 : ∀ d, (M2 + d = M + 0) = False := fun d => eq_false (by omega)
  have m1 : ∀ d, (M2 + d = M + 1) = False := fun d => eq_false (by omega)
  have m2 : ∀ d, (M2 + d = M) = False := fun d => eq_false (by omega)
  have sC := hs.2 _ (pqAt_mem d1)
  have sD := hs.2 _ (pqAt_mem hm2)
  have vC := pvs_vt (i := kk) l0
  have vD := pvs_vt (i := kk + 1) l0
  rw [Nat.mod_eq_of_lt d1] at vC
  have o1 := onP_of sA sB sD
  have o2 := onP_of sC sD sA
  have o3 := meet_of sA sB sC sD
  rw [← vA, ← vB, ← vD] at o1
  rw [← vA, ← vC, ← vD] at o2
  rw [← vA, ← vB, ← vC, ← vD] at o3
  have prE : prM (pvs l) i kk = (if m = kk then onB (vt (pvs l) i) (vt (pvs l) (i + 1)) (vt (pvs l) (kk + 1)) = false ∧ onB (vt (pvs l) kk) (vt (pvs l) (kk + 1)) (vt (pvs l) i) = false
   else ((kk + 1) % l.length ≠ i → meetB (vt (pvs l) i) (vt (pvs l) (i + 1)) (vt (pvs l) kk) (vt (pvs l) (kk + 1)) = false)) := by
    unfold prM
    rw [hL, hmm]
  clear vA vB vC vD
  generalize pqAt l kk = C at *
  generalize pqAt l ((kk + 1) % l.length) = D at *
  generalize (kk + 1) % l.length = m2' at *
  have nxt : prM (pvs l) i kk → ∀ j, j < kk + 1 → j ≠ i → prM (pvs l) i j := fun h j h1 h2 => by
    by_cases e : j = kk
    · rw [e]; exact h
    · exact hj j (by omega) h2
  by_cases eki : kk = i
  · have e1 : ((kk : Int) = (i : Int)) = True := eq_true (by omega)
    have e1' : (kk = i) = True := eq_true eki
    simp only [↓R0, R1, simprocAttr, -Int.reduceAbs, t0, t3, t6, t7, t8, t9, d1, d1', hbb3, nk2, nk2', m0, m1, m2, r1, r2, r3, r4, hm2, hm2', tm2, z1, z2, wk, pcl_len, pcl_ok, pcl_tk, pp_st, b0, b1, e1, e1']
    refine ⟨d - 1, by omega, kk + 1, M2 + 2, by omega, rfl, fun j h1 h2 => hj j (by omega) h2, fun q hq => ?_, by omega, rfl⟩
    have nb := nbq2 q hq
    simp only [↓R0, R1, simprocAttr, -Int.reduceAbs, nb]
    exact hh3 q hq
  have e1 : ((kk : Int) = (i : Int)) = False := eq_false (by omega)
  have e1' : (kk = i) = False := eq_false eki
  have bad : ¬ prM (pvs l) i kk → mayB (pvs l) = false := fun h => decide_eq_false fun H => h (H.2.2.2 i (by omega) kk (by omega) eki)
  by_cases emk : m = kk
  · have e2 : ((m : Int) = (kk : Int)) = True := eq_true (by omega)
    have e2' : (m = kk) = True := eq_true emk
    rw [if_pos emk] at prE
    cases p1 : onB (vt (pvs l) i) (vt (pvs l) (i + 1)) (vt (pvs l) (kk + 1)) with
    | true =>
      rw [p1] at o1
      rw [bad (by rw [prE, p1]; exact fun h => by cases h.1)]
      simp only [↓R0, R1, simprocAttr, -Int.reduceAbs, t0, t3, t6, t7, t8, t9, d1, d1', hbb3, nk2, nk2', m0, m1, m2, r1, r2, r3, r4, hm2, hm2', tm1, tm2, z1, z2, w1, wk, pcl_len, pcl_ok, pcl_tk, pp_st, b0, b1, e1, e1', e2, e2', o1, o2, Fin, isEnd, resL, res1]
      refine ⟨_, rfl, rfl, fun q hq => ?_⟩
      have nb := nbq2 q hq
      simp only [↓R0, R1, simprocAttr, -Int.reduceAbs, nb]
      exact hh3 q hq
    | false =>
    rw [p1] at o1
    cases p2 : onB (vt (pvs l) kk) (vt (pvs l) (kk + 1)) (vt (pvs l) i) with
    | true =>
      rw [p2] at o2
      rw [bad (by rw [prE, p1, p2]; exact fun h => by cases h.2)]
      simp only [↓R0, R1, simprocAttr, -Int.reduceAbs, t0, t3, t6, t7, t8, t9, d1, d1', hbb3, nk2, nk2', m0, m1, m2, r1, r2, r3, r4, hm2, hm2', tm1, tm2, z1, z2, w1, wk, pcl_len, pcl_ok, pcl_tk, pp_st, b0, b1, e1, e1', e2, e2', o1, o2, Fin, isEnd, resL, res1]
      refine ⟨_, rfl, rfl, fun q hq => ?_⟩
      have nb := nbq2 q hq
      simp only [↓R0, R1, simprocAttr, -Int.reduceAbs, nb]
      exact hh3 q hq
    | false =>
      rw [p2] at o2
      simp only [↓R0, R1, simprocAttr, -Int.reduceAbs, t0, t3, t6, t7, t8, t9, d1, d1', hbb3, nk2, nk2', m0, m1, m2, r1, r2, r3, r4, hm2, hm2', tm1, tm2, z1, z2, w1, wk, pcl_len, pcl_ok, pcl_tk, pp_st, b0, b1, e1, e1', e2, e2', o1, o2]
      refine ⟨d - 1, by omega, kk + 1, M2 + 2, by omega, rfl, nxt (by rw [prE, p1, p2]; exact ⟨rfl, rfl⟩), fun q hq => ?_, by omega, rfl⟩
      have nb := nbq2 q hq
      simp only [↓R0, R1, simprocAttr, -Int.reduceAbs, nb]
      exact hh3 q hq
  have e2 : ((m : Int) = (kk : Int)) = False := eq_false (by omega)
  have e2' : (m = kk) = False := eq_false emk
  rw [if_neg emk] at prE
  by_cases em2 : m2' = i
  · have e3 : ((m2' : Int) = (i : Int)) = True := eq_true (by omega)
    have e3' : (m2' = i) = True := eq_true em2
    simp only [↓R0, R1, simprocAttr, -Int.reduceAbs, t0, t3, t6, t7, t8, t9, d1, d1', hbb3, nk2, nk2', m0, m1, m2, r1, r2, r3, r4, hm2, hm2', tm1, tm2, z1, z2, w1, wk, pcl_len, pcl_ok, pcl_tk, pp_st, b0, b1, dn, e1, e1', e2, e2', e3, e3', Bool.not_true, Bool.not_false]
    refine ⟨d - 1, by omega, kk + 1, M2 + 2, by omega, rfl, nxt (by rw [prE]; exact fun h => absurd em2 h), fun q hq => ?_, by omega, rfl⟩
    have nb := nbq2 q hq
    simp only [↓R0, R1, simprocAttr, -Int.reduceAbs, nb]
    exact hh3 q hq
  have e3 : ((m2' : Int) = (i : Int)) = False := eq_false (by omega)
  have e3' : (m2' = i) = False := eq_false em2
  cases p3 : meetB (vt (pvs l) i) (vt (pvs l) (i + 1)) (vt (pvs l) kk) (vt (pvs l) (kk + 1)) with
  | true =>
    rw [p3] at o3
    rw [bad (by rw [prE, p3]; exact fun h => by cases h em2)]
    simp only [↓R0, R1, simprocAttr, -Int.reduceAbs, t0, t3, t6, t7, t8, t9, d1, d1', hbb3, nk2, nk2', m0, m1, m2, r1, r2, r3, r4, hm2, hm2', tm1, tm2, z1, z2, w1, wk, pcl_len, pcl_ok, pcl_tk, pp_st, b0, b1, dn, e1, e1', e2, e2', e3, e3', o3, Bool.not_true, Bool.not_false, Fin, isEnd, resL, res1]
    refine ⟨_, rfl, rfl, fun q hq => ?_⟩
    have nb := nbq2 q hq
    simp only [↓R0, R1, simprocAttr, -Int.reduceAbs, nb]
    exact hh3 q hq
  | false =>
    rw [p3] at o3
    simp only [↓R0, R1, simprocAttr, -Int.reduceAbs, t0, t3, t6, t7, t8, t9, d1, d1', hbb3, nk2, nk2', m0, m1, m2, r1, r2, r3, r4, hm2, hm2', tm1, tm2, z1, z2, w1, wk, pcl_len, pcl_ok, pcl_tk, pp_st, b0, b1, dn, e1, e1', e2, e2', e3, e3', o3, Bool.not_true, Bool.not_false]
    refine ⟨d - 1, by omega, kk + 1, M2 + 2, by omega, rfl, nxt (by rw [prE, p3]; exact fun _ => rfl), fun q hq => ?_, by omega, rfl⟩
    have nb := nbq2 q hq
    simp only [↓R0, R1, simprocAttr, -Int.reduceAbs, nb]
    exact hh3 q hq
end Go.Eng
end
section
set_option linter.unusedVariables false
set_option linter.unusedSimpArgs false
set_option linter.unusedSectionVars false
set_option maxRecDepth 20000
namespace Go.Eng
open Go Go.Proofs Go.IntWalk
theorem nm_len (L : List P2) : (nmOut L).2.length ≤ 1000 ∨ L.length > 1000 := by
  by_cases c : 12 < L.length
  · unfold nmOut; rw [if_pos c]; exact .inl (by simp)
  · by_cases p : profP L
    · unfold nmOut
      rw [if_neg c, if_pos p]
      refine .inl ?_
      show (ncf L).length ≤ 1000
      have e : (ncf L).length ≤ L.length := by
        unfold ncf
        obtain ⟨A, B, e1, e2⟩ := rmn_parts (ori (bent L))
        rw [e2, List.length_append, Nat.add_comm, ← List.length_append, ← e1]
        have : (ori (bent L)).length = (bent L).length := by unfold ori; split; exact List.length_reverse; rfl
        rw [this, ← bfT_all]
        exact bfT_len _ _
      omega
    · unfold nmOut; rw [if_neg c, if_neg p]; exact .inl (by simp)
theorem nm_mem {L : List P2} {v : P2} (h : v ∈ (nmOut L).2) : v ∈ L := by
  unfold nmOut at h
  split at h
  · simp at h
  · split at h
    · have h : v ∈ ncf L := h
      unfold ncf at h
      obtain ⟨A, B, e1, e2⟩ := rmn_parts (ori (bent L))
      rw [e2, List.mem_append, or_comm, ← List.mem_append, ← e1] at h
      have h : v ∈ bent L := by
        unfold ori at h
        split at h
        · exact List.mem_reverse.1 h
        · exact h
      rw [← bfT_all] at h
      exact bfT_mem h
    · simp at h
theorem awake_of (h : Heap) : spAwake26 [] h = some (.bool true) := rfl
theorem nm_ok {L : List P2} (h : (nmOut L).1 = 0) : profP L := by
  unfold nmOut at h
  split at h
  · cases h
  · split at h
    · assumption
    · cases h
theorem nm_can {l : List PQ} (h : smallP l) : ptsN ((nmOut (pvs l)).2.map pqo) := by
  refine ⟨?_, fun p hp => ?_⟩
  · rw [List.length_map]
    rcases nm_len (pvs l) with k | k
    · exact k
    · rw [pvs_len] at k; have := h.1; omega
  · obtain ⟨v, hv, rfl⟩ := List.mem_map.1 hp
    obtain ⟨q, hq, rfl⟩ := List.mem_map.1 (nm_mem hv)
    exact (pqo_ok (h.2 q hq)).le (by omega)
end Go.Eng
end
section
set_option linter.unusedVariables false
set_option linter.unusedSimpArgs false
set_option linter.unusedSectionVars false
set_option maxRecDepth 20000
namespace Go.Eng
open Go Go.Proofs Go.IntWalk
theorem pq_map {l : List P2} {i : Nat} (h : i < l.length) : pqAt (l.map pqo) i = pqo (ptv l i) := by
  unfold pqAt
  rw [List.getElem?_map, ptv_some h]; rfl
theorem rmn_len (l : List P2) : (rmn l).length = l.length := by
  obtain ⟨A, B, e1, e2⟩ := rmn_parts l
  rw [e2, e1, List.length_append, List.length_append, Nat.add_comm]
theorem rmn_at {l : List P2} {i : Nat} (h : i < l.length) : ptv (rmn l) i = ptv l ((mnI l l.length + i) % l.length) := by
  have hF : mnI l l.length < l.length := mnI_lt (Nat.le_refl _) (by omega)
  unfold rmn ptv
  by_cases c : mnI l l.length + i < l.length
  · rw [List.getElem?_append_left (by rw [List.length_drop]; omega), List.getElem?_drop, Nat.mod_eq_of_lt c]
  · rw [List.getElem?_append_right (by rw [List.length_drop]; omega), List.length_drop, List.getElem?_take, if_pos (by omega)]
    have : (mnI l l.length + i) % l.length = i - (l.length - mnI l l.length) := by
      rw [Nat.mod_eq_sub_mod (by omega), Nat.mod_eq_of_lt (by omega)]; omega
    rw [this]
theorem rev_at {l : List P2} {i : Nat} (h : i < l.length) : l.reverse.take (i + 1) = l.reverse.take i ++ [ptv l (l.length - 1 - i)] := by
  have e : l.reverse[i]? = some (ptv l (l.length - 1 - i)) := by rw [List.getElem?_reverse h]; exact ptv_some (by omega)
  rw [List.take_add_one, e]; rfl
def nmRL (r : Int × List P2) : NewL := ⟨1, fun σ => .tuple ⟨[.slice (some ⟨σ 0, 0, none⟩) r.2.length r.2.length, .int .i64 r.1]⟩, fun _ => 34, fun _ => 6, fun _ _ => ptC (r.2.map pqo)⟩
theorem nmRL_par (r : Int × List P2) (h : Heap) : (nmRL r).Par h := by
  unfold nmRL
  exact ⟨fun β σ σ' b1 _ => .tup _ _ (.cons _ _ _ _ (VR.sl (σ 0) 0 _ _ ⟨σ' 0, 0, []⟩ (b1 0 Nat.one_pos)) (.cons _ _ _ _ (.base _ rfl) .nil)), fun β σ σ' _ _ i hi => VRs.of_base (ptC_base _)⟩
def spNormR : List Value → Heap → Option NewL
  | [sl], h => match decPts h sl with
    | some l => if ptsN l then some (nmRL (nmOut (pvs l))) else none
    | none => none
  | _, _ => none
def c9 : ICode :=
  (.seq (.reg [qq 2 (.mv (.c (.slice none 0 0))), qq 3 (.mv (ci 0))]) (.seq (.seq (.reg [qq 13 (.mv (.t 0)), qq 14 (.lensl (.t 13)), qq 15 (.bin .gtr (.t 14) (ci 12))]) (.cond (.t 15) (.seq (.reg [qq 16 (.bslice 34 6 0 [] []), qq 2 (.mv (.t 16)), qq 3 (.mv (ci 6))]) .ret) .skip)) (.seq (.seq (.reg [qq 17 (.mv (.t 0)), qq 18 (.call 13 [(.t 17)]), qq 19 (.un .not (.t 18))]) (.cond (.t 19) (.seq (.reg [qq 20 (.bslice 34 6 0 [] []), qq 2 (.mv (.t 20)), qq 3 (.mv (ci 17))]) .ret) .skip)) (.seq (.reg [qq 21 (.mv (.t 0)), qq 22 (.lensl (.t 21)), qq 4 (.mv (.t 22))]) (.seq (.reg [qq 23 (.bslice 34 6 0 [] []), qq 5 (.mv (.t 23))]) (.seq (.seq (.reg [qq 6 (.mv (ci 0))]) (.block 0 (.loop (.seq (.seq (.reg [qq 24 (.mv (.t 6)), qq 25 (.mv (.t 4)), qq 26 (.bin .lss (.t 24) (.t 25))]) (.cond (.t 26) .skip (.exit 0))) (.seq (.block 1 (.seq (.dreg [qu 29 (.mv (.t 0)), qu 30 (.mv (.t 6)), qu 31 (.mv (.t 4)), qu 32 (.bin .add (.t 30) (.t 31)), qu 33 (.bin .sub (.t 32) (ci 1)), qu 34 (.mv (.t 4)), qu 35 (.bin .rem (.t 33) (.t 34)), qu 36 (.ixsl 6 (.t 29) (.t 35)), qu 37 (.load true 6 (.t 36)), qu 38 (.mv (.t 0)), qu 39 (.mv (.t 6)), qu 40 (.ixsl 6 (.t 38) (.t 39)), qu 41 (.load true 6 (.t 40)), qu 42 (.mv (.t 0)), qu 43 (.mv (.t 6)), qu 44 (.bin .add (.t 43) (ci 1)), qu 45 (.mv (.t 4)), qu 46 (.bin .rem (.t 44) (.t 45)), qu 47 (.ixsl 6 (.t 42) (.t 46)), qu 48 (.load true 6 (.t 47)), qu 49 (.call 26 [(.t 37), (.t 41), (.t 48)]), qu 50 (.bin .neq (.t 49) (ci 0))]) (.cond (.t 50) (.dreg [qu 51 (.mv (.t 5)), qu 52 (.mv (.t 0)), qu 53 (.mv (.t 6)), qu 54 (.ixsl 6 (.t 52) (.t 53)), qu 55 (.ixarr 2 3 (.t 54) (ci 0)), qu 56 (.load true 3 (.t 55)), qu 57 (.call 27 [(.t 56)]), qu 58 (.mv (.t 0)), qu 59 (.mv (.t 6)), qu 60 (.ixsl 6 (.t 58) (.t 59)), qu 61 (.ixarr 2 3 (.t 60) (ci 1)), qv 62 [6] (.load true 3 (.t 61)), qu 63 (.call 27 [(.t 62)]), qu 64 (.build [(.bool false), e0, e0, (.bool false), e0, e0] [(0, 3, (.t 57)), (3, 3, (.t 63))]), qu 65 (.bslice 34 6 1 [(.bool false), e0, e0, (.bool false), e0, e0] [(0, 6, (.t 64))]), qu 66 (.app 34 6 80 (.t 51) (.t 65)), qu 5 (.mv (.t 66))]) .skip))) (.reg [qq 27 (.mv (.t 6)), qq 28 (.bin .add (.t 27) (ci 1)), qq 6 (.mv (.t 28))])))))) (.seq (.seq (.reg [qq 67 (.mv (.t 0)), qq 68 (.call 12 [(.t 67)]), qq 69 (.call 28 [(.t 68)]), qq 70 (.bin .lss (.t 69) (ci 0))]) (.cond (.t 70) (.seq (.reg [qq 71 (.bslice 34 6 0 [] []), qq 7 (.mv (.t 71))]) (.seq (.seq (.reg [qq 72 (.mv (.t 5)), qq 73 (.lensl (.t 72)), qq 74 (.mv (ci 0))]) (.block 2 (.loop (.seq (.reg [qq 75 (.bin .lss (.t 74) (.t 73))]) (.seq (.cond (.t 75) .skip (.exit 2)) (.seq (.block 3 (.seq (.reg [qq 76 (.mv (.t 74)), qq 8 (.mv (.t 76))]) (.reg [qq 77 (.mv (.t 7)), qq 78 (.mv (.t 5)), qq 79 (.mv (.t 5)), qq 80 (.lensl (.t 79)), qq 81 (.bin .sub (.t 80) (ci 1)), qq 82 (.mv (.t 8)), qq 83 (.bin .sub (.t 81) (.t 82)), qq 84 (.ixsl 6 (.t 78) (.t 83)), qq 85 (.load true 6 (.t 84)), qq 86 (.bslice 34 6 1 [(.bool false), e0, e0, (.bool false), e0, e0] [(0, 6, (.t 85))]), qq 87 (.app 34 6 80 (.t 77) (.t 86)), qq 7 (.mv (.t 87))]))) (.reg [qq 88 (.bin .add (.t 74) (ci 1)), qq 74 (.mv (.t 88))]))))))) (.reg [qq 89 (.mv (.t 7)), qq 5 (.mv (.t 89))]))) .skip)) (.seq (.reg [qq 9 (.mv (ci 0))]) (.seq (.seq (.reg [qq 90 (.mv (.t 5)), qq 91 (.lensl (.t 90)), qq 92 (.mv (ci 0))]) (.block 4 (.loop (.seq (.reg [qq 93 (.bin .lss (.t 92) (.t 91))]) (.seq (.cond (.t 93) .skip (.exit 4)) (.seq (.block 5 (.seq (.reg [qq 94 (.mv (.t 92)), qq 10 (.mv (.t 94))]) (.seq (.dreg [qu 95 (.mv (.t 5)), qu 96 (.mv (.t 10)), qu 97 (.ixsl 6 (.t 95) (.t 96)), qu 98 (.load true 6 (.t 97)), qu 99 (.mv (.t 5)), qu 100 (.mv (.t 9)), qu 101 (.ixsl 6 (.t 99) (.t 100)), qu 102 (.load true 6 (.t 101)), qu 103 (.call 29 [(.t 98), (.t 102)]), qu 104 (.bin .lss (.t 103) (ci 0))]) (.cond (.t 104) (.reg [qq 105 (.mv (.t 10)), qq 9 (.mv (.t 105))]) .skip)))) (.reg [qq 106 (.bin .add (.t 92) (ci 1)), qq 92 (.mv (.t 106))]))))))) (.seq (.reg [qq 107 (.bslice 34 6 0 [] []), qq 11 (.mv (.t 107))]) (.seq (.seq (.reg [qq 108 (.mv (.t 5)), qq 109 (.lensl (.t 108)), qq 110 (.mv (ci 0))]) (.block 6 (.loop (.seq (.reg [qq 111 (.bin .lss (.t 110) (.t 109))]) (.seq (.cond (.t 111) .skip (.exit 6)) (.seq (.block 7 (.seq (.reg [qq 112 (.mv (.t 110)), qq 12 (.mv (.t 112))]) (.reg [qq 113 (.mv (.t 11)), qq 114 (.mv (.t 5)), qq 115 (.mv (.t 9)), qq 116 (.mv (.t 12)), qq 117 (.bin .add (.t 115) (.t 116)), qq 118 (.mv (.t 5)), qq 119 (.lensl (.t 118)), qq 120 (.bin .rem (.t 117) (.t 119)), qq 121 (.ixsl 6 (.t 114) (.t 120)), qq 122 (.load true 6 (.t 121)), qq 123 (.bslice 34 6 1 [(.bool false), e0, e0, (.bool false), e0, e0] [(0, 6, (.t 122))]), qq 124 (.app 34 6 80 (.t 113) (.t 123)), qq 11 (.mv (.t 124))]))) (.reg [qq 125 (.bin .add (.t 110) (ci 1)), qq 110 (.mv (.t 125))]))))))) (.seq (.reg [qq 126 (.mv (.t 11)), qq 2 (.mv (.t 126)), qq 3 (.mv (ci 0))]) .ret))))))))))))
theorem tr9 : trFun Tryz.prog 9 = some ⟨127, [.t 2, .t 3], c9⟩ := by kernel_rfl
set_option maxHeartbeats 32000000 in
theorem ok_normR : SpecOK Tryz.prog 9 (nwL spNormR) := by
  refine newL_run (env_cons ok_may26 (env_cons ok_sign26 (env_cons ok_r3Norm (env_cons ok_area26 (env_cons ok_r3Sign (env_cons ok_cmp26 (env_nil _))))))) mixed tr9 ?_ ?_
  · intro args h h' r hle e
    unfold spNormR at e ⊢
    split at e
    · split at e
      · rename_i l hb
        simp only [decPts_mono hle hb]; exact e
      · cases e
    · cases e
  intro args h N r hG hN
  unfold spNormR at hG
  split at hG
  case h_2 => cases hG
  rename_i sl
  split at hG
  case h_2 => cases hG
  rename_i l hx
  split at hG
  case isFalse => cases hG
  rename_i hs
  cases hG
  obtain ⟨a, cc, rfl⟩ := decPts_sl hx
  refine ⟨nmRL_par _ _, by simp, ?_⟩
  have hL : (pvs l).length = l.length := pvs_len l
  have nbN : ∀ q, q < N → ∀ j, (N + j = q) = False := fun q hq j => eq_false (by omega)
  have my := may_of hx hs.ok
  by_cases c12 : 12 < l.length
  · have c12' : ((l.length : Int) > 12) = True := eq_true (by omega)
    have ev : nmRL (nmOut (pvs l)) = ⟨1, fun σ => .tuple ⟨[.slice (some ⟨σ 0, 0, none⟩) 0 0, .int .i64 6]⟩, fun _ => 34, fun _ => 6, fun _ _ => []⟩ := by
      have : nmOut (pvs l) = (6, []) := if_pos (by omega)
      rw [this]; rfl
    rw [ev]
    simp only [c9, G0, Nat.reduceAdd]
    simp only [↓R0, R1, simprocAttr, -Int.reduceAbs, c12', FinL, isEnd, resL, res1]
    refine ⟨fun _ => N + 0, _, fun i hi => (by omega : N ≤ N + 0), fun i j (hi : i < 1) (hj : j < 1) _ => by omega, rfl, rfl, fun i hi => ⟨true, ?_⟩, fun q hq => ?_⟩
    · first | (simp only [↓R0, R1, simprocAttr, -Int.reduceAbs]; done) | (simp only [↓R0, R1, simprocAttr, -Int.reduceAbs]; rfl)
    · have nb := nbN q hq
      simp only [↓R0, R1, simprocAttr, -Int.reduceAbs, nb]
  have c12' : ((l.length : Int) > 12) = False := eq_false (by omega)
  by_cases pf : profP (pvs l)
  case neg =>
    have ev : nmRL (nmOut (pvs l)) = ⟨1, fun σ => .tuple ⟨[.slice (some ⟨σ 0, 0, none⟩) 0 0, .int .i64 17]⟩, fun _ => 34, fun _ => 6, fun _ _ => []⟩ := by
      have : nmOut (pvs l) = (17, []) := by unfold nmOut; rw [if_neg (by omega), if_neg pf]
      rw [this]; rfl
    rw [ev]
    have mf : mayB (pvs l) = false := decide_eq_false fun h => pf (prof_iff.2 (may_iff.1 h.2))
    rw [mf] at my
    simp only [c9, G0, Nat.reduceAdd]
    simp only [↓R0, R1, simprocAttr, -Int.reduceAbs, rdS, c12', my, Bool.not_false, FinL, isEnd, resL, res1]
    refine ⟨fun _ => N + 0, _, fun i hi => (by omega : N ≤ N + 0), fun i j (hi : i < 1) (hj : j < 1) _ => by omega, rfl, rfl, fun i hi => ⟨true, ?_⟩, fun q hq => ?_⟩
    · first | (simp only [↓R0, R1, simprocAttr, -Int.reduceAbs]; done) | (simp only [↓R0, R1, simprocAttr, -Int.reduceAbs]; rfl)
    · have nb := nbN q hq
      simp only [↓R0, R1, simprocAttr, -Int.reduceAbs, nb]
  have mt : mayB (pvs l) = true := decide_eq_true ⟨by omega, may_iff.2 (prof_iff.1 pf)⟩
  rw [mt] at my
  have ev : nmOut (pvs l) = (0, ncf (pvs l)) := by unfold nmOut; rw [if_neg (by omega), if_pos pf]
  rw [ev]
  clear ev
  have SP := prof_simp pf
  have n3 : 3 ≤ l.length := by have := pf.1; omega
  obtain ⟨SB, _⟩ := Simp.chain _ rfl SP
  have l0 : 0 < l.length := by omega
  simp only [c9, G0, Nat.reduceAdd]
  simp only [↓R0, R1, simprocAttr, -Int.reduceAbs, rdS, c12', my, Bool.not_true]
  refine lp_parts (fun c tm hp nx => ∃ (i M kk : Nat) (x : Bool), c + i = l.length ∧ tmget tm 0 = .slice a l.length cc ∧ tmget tm 4 = .int .i64 l.length ∧ tmget tm 6 = .int .i64 (i : Nat) ∧
      tmget tm 5 = .slice (some ⟨kk, 0, none⟩) (bfT (pvs l) i).length (bfT (pvs l) i).length ∧ hget hp kk = some ⟨34, 6, x, ptC ((bfT (pvs l) i).map pqo)⟩ ∧ N ≤ kk ∧ kk < M ∧ ExtL N h hp ∧ nx = M + 0) ?_ l.length
    ⟨0, N + 1, N + 0, true, by omega, ?_, ?_, ?_, ?_, ?_, by omega, by omega, ?_, rfl⟩
  rotate_left
  all_goals first | (simp only [↓R0, R1, simprocAttr, -Int.reduceAbs]; done) | (simp only [↓R0, R1, simprocAttr, -Int.reduceAbs]; rfl) | skip
  · intro q hq
    have nb := nbN q hq
    simp only [↓R0, R1, simprocAttr, -Int.reduceAbs, nb]
  rintro c tm hp nx ⟨i, M, kk, x, hc, t0, t4, t6, t5, bk, g1, g2, hh, hnx⟩
  rw [hnx]
  clear hnx nx
  have nbq : ∀ q, q < N → ∀ d, (M + d = q) = False := fun q hq d => eq_false (by omega)
  by_cases c1 : i < l.length
  case pos =>
    have c1' : ((i : Int) < (l.length : Int)) = True := eq_true (by omega)
    have w1 : IntKind.i64.wrap ((i : Int) + 1) = ((i + 1 : Nat) : Int) := by rw [i64_in _ (by omega)]; omega
    have w2 : IntKind.i64.wrap ((i : Int) + (l.length : Int)) = ((i + l.length : Nat) : Int) := by rw [i64_in _ (by omega)]; omega
    have w3 : IntKind.i64.wrap (((i + l.length : Nat) : Int) - 1) = ((i + l.length - 1 : Nat) : Int) := by rw [i64_in _ (by omega)]; omega
    have hm : (i + 1) % l.length < l.length := Nat.mod_lt _ l0
    have hm2 : (i + l.length - 1) % l.length < l.length := Nat.mod_lt _ l0
    have tm1 : Int.tmod ((i + 1 : Nat) : Int) (l.length : Int) = (((i + 1) % l.length : Nat) : Int) := rfl
    have tm2 : Int.tmod ((i + l.length - 1 : Nat) : Int) (l.length : Int) = (((i + l.length - 1) % l.length : Nat) : Int) := rfl
    have z1 : ((l.length : Int) = 0) = False := eq_false (by omega)
    have z2 : (l.length = 0) = False := eq_false (by omega)
    have hm' : ((((i + 1) % l.length : Nat) : Int) < (l.length : Int)) = True := eq_true (by omega)
    have hm2' : ((((i + l.length - 1) % l.length : Nat) : Int) < (l.length : Int)) = True := eq_true (by omega)
    obtain ⟨k, off, blk, rfl, hb, q1, q2⟩ := pts_at hx c1
    obtain ⟨k', off', blk', e', hb', q3, q4⟩ := pts_at hx hm
    cases e'
    rw [hb] at hb'
    cases hb'
    obtain ⟨k', off', blk', e', hb', q5, q6⟩ := pts_at hx hm2
    cases e'
    rw [hb] at hb'
    cases hb'
    have hk := hN _ _ hb
    have hbb : hget hp k = some blk := by rw [hh k hk]; exact hb
    have nk := nbq k hk
    have nk' : ∀ d, (k = M + d) = False := fun d => eq_false (by omega)
    have sA := hs.2 _ (pqAt_mem c1)
    have sB := hs.2 _ (pqAt_mem hm)
    have sP := hs.2 _ (pqAt_mem hm2)
    have vA := pvs_vt (i := i) l0
    have vB := pvs_vt (i := i + 1) l0
    have vP := pvs_vt (i := i + l.length - 1) l0
    rw [Nat.mod_eq_of_lt c1] at vA
    have t1 := turn_of (sP.le (by omega)) (sA.le (by omega)) (sB.le (by omega))
    rw [← vA, ← vB, ← vP] at t1
    have nx1 := rnorm (sA.1.le (by omega))
    have nx2 := rnorm (sA.2.le (by omega))
    have eB := bfT_s (L := pvs l) (i := i) (by omega)
    rw [hL] at eB
    have ePQ : (RQ.of (pqAt l i).1.v, RQ.of (pqAt l i).2.v) = pqo (vt (pvs l) i) := by rw [vA]; rfl
    have pm := p_mk (RQ.of (pqAt l i).1.v) (RQ.of (pqAt l i).2.v)
    rw [ePQ] at pm
    have bl12 := bfT_len (pvs l) i
    have y3 : (blk.cells.drop (off + i * 6)).take 3 = (pqAt l i).1.cells := by rw [← pcl_x, ← q2, List.take_take]; rfl
    have y3' : (blk.cells.drop (off + i * 6 + 0)).take 3 = (pqAt l i).1.cells := y3
    have y4 : (blk.cells.drop (off + i * 6 + 3)).take 3 = (pqAt l i).2.cells := by rw [← pcl_y, ← q2, List.drop_take, List.drop_drop, List.take_take]; rfl
    have bd0 : (off + i * 6 + 0 + 3 ≤ blk.cells.length) = True := eq_true (by omega)
    have bd3 : (off + i * 6 + 3 + 3 ≤ blk.cells.length) = True := eq_true (by omega)
    generalize RQ.of (pqAt l i).1.v = QA at *
    generalize RQ.of (pqAt l i).2.v = QB at *
    generalize pqAt l i = A at *
    generalize pqAt l ((i + 1) % l.length) = B at *
    generalize pqAt l ((i + l.length - 1) % l.length) = P at *
    generalize (i + 1) % l.length = m at *
    generalize (i + l.length - 1) % l.length = m2 at *
    have dn : ∀ a b : Int, decide (a ≠ b) = !decide (a = b) := fun a b => by by_cases h : a = b <;> simp [h]
    by_cases sz : sg (cr (vt (pvs l) (i + l.length - 1)) (vt (pvs l) i) (vt (pvs l) (i + 1))) = 0
    · have sz' := eq_true sz
      rw [if_pos sz, List.append_nil] at eB
      simp only [↓R0, R1, simprocAttr, -Int.reduceAbs, t0, t4, t5, t6, c1, c1', hbb, nk, nk', q1, q2, q3, q4, q5, q6, hm, hm', hm2, hm2', tm1, tm2, z1, z2, w1, w2, w3, pcl_len, pcl_ok, pcl_tk, pp_st, t1, dn, sz', Bool.not_true]
      exact ⟨c - 1, by omega, i + 1, M, kk, x, by omega, rfl, by rw [eB], by rw [eB]; exact bk, g1, g2, hh, rfl⟩
    · have sz' := eq_false sz
      rw [if_neg sz] at eB
      have hkq : ∀ d, (M + d = kk) = False := fun d => eq_false (by omega)
      have hkq' : ∀ d, (kk = M + d) = False := fun d => eq_false (by omega)
      have pl := ptC_len ((bfT (pvs l) i).map pqo)
      rw [List.length_map] at pl
      have eS : ptC ((bfT (pvs l) (i + 1)).map pqo) = ptC ((bfT (pvs l) i).map pqo) ++ pcl (pqo (vt (pvs l) i)) := by rw [eB, List.map_append]; exact ptC_snoc _ _
      have eL : (bfT (pvs l) (i + 1)).length = (bfT (pvs l) i).length + 1 := by rw [eB, List.length_append]; rfl
      generalize ptC ((bfT (pvs l) i).map pqo) = O0 at *
      generalize (bfT (pvs l) i).length = L0 at *
      have npp : (L0 + 1 ≤ L0) = False := eq_false (by omega)
      have ovr : ((L0 + 1) * 80 ≤ 140737488355328) = True := eq_true (by omega)
      simp only [↓R0, R1, simprocAttr, -Int.reduceAbs, t0, t4, t5, t6, c1, c1', hbb, nk, nk', q1, q2, q3, q4, q5, q6, y3, y3', y4, bd0, bd3, hm, hm', hm2, hm2', tm1, tm2, z1, z2, w1, w2, w3, pcl_len, pcl_ok, pcl_tk, pcl_x, pcl_y, pp_st, q_len, q_ok, q_tk, setR_length, t1, nx1, nx2, pm, dn, sz', bk, pl, hkq, hkq', npp, ovr, Bool.not_false]
      refine ⟨c - 1, by omega, i + 1, M + 2, M + 1, false, by omega, rfl, by rw [eL], ?_, by omega, by omega, fun q hq => ?_, rfl⟩
      · rw [if_pos rfl, eS]
      · have nb := nbq q hq
        have nk2 : (kk = q) = False := eq_false (by omega)
        simp only [↓R0, R1, simprocAttr, -Int.reduceAbs, nb, nk2]
        exact hh q hq
  have e : i = l.length := by omega
  subst e
  have c1' : ((l.length : Int) < (l.length : Int)) = False := eq_false (by omega)
  have eall : bfT (pvs l) l.length = bent (pvs l) := by rw [← hL, bfT_all]
  rw [eall] at t5 bk
  have bm : ∀ v ∈ bent (pvs l), ∃ p ∈ l, v = pv2 p := fun v hv => by
    rw [← eall] at hv
    have := bfT_mem hv
    unfold pvs at this
    obtain ⟨p, hp, rfl⟩ := List.mem_map.1 this
    exact ⟨p, hp, rfl⟩
  have blen : (bent (pvs l)).length ≤ 12 := by rw [← eall]; have := bfT_len (pvs l) l.length; omega
  have b3 := SB.simp.n3
  have arE : ar2 (bent (pvs l)) = ar2 (pvs l) := SB.ar
  have encf : ncf (pvs l) = rmn (if ar2 (pvs l) < 0 then (bent (pvs l)).reverse else bent (pvs l)) := by
    unfold ncf ori
    rw [arE]
  rw [encf]
  clear encf eall arE SB
  generalize bent (pvs l) = B at *
  have rA : RB (ar2 (pvs l)) 4000007000 := by
    have := arT_RB hs.ok.2 l0 l.length (Nat.le_refl _)
    have eA : arT (pvs l) l.length = ar2 (pvs l) := by rw [← hL, arT_all]
    rw [eA] at this
    refine this.le ?_
    have : l.length * (4 * 1000000 + 6) ≤ 1000 * (4 * 1000000 + 6) := Nat.mul_le_mul_right _ (by omega)
    omega
  have rH : RB (ar2 (pvs l) / 2) 4000007002 := rA.div (RBs (z := 2) (by omega)) (by omega) (by omega)
  have sgA := rsign rH (by omega)
  have hfA := half_neg (x := ar2 (pvs l))
  have ar := area2_of (ext_pts hN hx hh) hs.ok
  have plB := ptC_len (B.map pqo)
  rw [List.length_map] at plB
  have kM : ∀ d, (M + d = kk) = False := fun d => eq_false (by omega)
  by_cases neg : ar2 (pvs l) < 0
  · have neg' : (sg (ar2 (pvs l) / 2) < 0) = True := eq_true (hfA.2 neg)
    rw [if_pos neg]
    generalize sg (ar2 (pvs l) / 2) = S at *
    generalize RQ.of (ar2 (pvs l) / 2) = QH at *
    simp only [↓R0, R1, simprocAttr, -Int.reduceAbs, rdS, t0, t4, t5, t6, c1', ar, sgA, neg', q_len, q_ok, q_tk]
    refine lp_parts (fun c tm hp2 nx => ∃ (i M2 k2 : Nat) (x2 : Bool), c + i = B.length ∧ tmget tm 5 = .slice (some ⟨kk, 0, none⟩) B.length B.length ∧ tmget tm 7 = .slice (some ⟨k2, 0, none⟩) i i ∧ tmget tm 73 = .int .i64 B.length ∧ tmget tm 74 = .int .i64 (i : Nat) ∧
        hget hp2 kk = some ⟨34, 6, x, ptC (B.map pqo)⟩ ∧ hget hp2 k2 = some ⟨34, 6, x2, ptC ((B.reverse.take i).map pqo)⟩ ∧ M ≤ k2 ∧ k2 < M2 ∧ ExtL N h hp2 ∧ nx = M2 + 0) ?_ B.length
      ⟨0, M + 1, M + 0, true, by omega, ?_, ?_, ?_, ?_, ?_, ?_, by omega, by omega, ?_, rfl⟩
    rotate_left
    all_goals first | (simp only [↓R0, R1, simprocAttr, -Int.reduceAbs]; done) | (simp only [↓R0, R1, simprocAttr, -Int.reduceAbs]; rfl) | (simp only [↓R0, R1, simprocAttr, -Int.reduceAbs, t5]; done) | (simp only [↓R0, R1, simprocAttr, -Int.reduceAbs, t5]; rfl) | (simp only [↓R0, R1, simprocAttr, -Int.reduceAbs, bk, kM]; done) | skip
    · intro q hq
      have nb := nbq q hq
      simp only [↓R0, R1, simprocAttr, -Int.reduceAbs, nb]
      exact hh q hq
    clear t0 t4 t5 t6 c1'
    rintro c tm hp2 nx ⟨i, M2, k2, x2, hc2, t5, t7, t73, t74, bk, bk2, g3, g4, hh2, hnx⟩
    rw [hnx]
    clear hnx nx
    by_cases d1 : i < B.length
    · have d1' : ((i : Int) < (B.length : Int)) = True := eq_true (by omega)
      have wi : IntKind.i64.wrap ((i : Int) + 1) = ((i + 1 : Nat) : Int) := by rw [i64_in _ (by omega)]; omega
      have wu : IntKind.i64.wrap ((B.length : Int) - 1) = ((B.length - 1 : Nat) : Int) := by rw [i64_in _ (by omega)]; omega
      have wv : IntKind.i64.wrap (((B.length - 1 : Nat) : Int) - (i : Int)) = ((B.length - 1 - i : Nat) : Int) := by rw [i64_in _ (by omega)]; omega
      have hv : B.length - 1 - i < B.length := by omega
      have hv' : (((B.length - 1 - i : Nat) : Int) < (B.length : Int)) = True := eq_true (by omega)
      have a1 := ptC_at (B.map pqo) (B.length - 1 - i) (by rw [List.length_map]; omega)
      rw [pq_map (by omega)] at a1
      have b1 : ((B.length - 1 - i) * 6 + 6 ≤ B.length * 6) = True := eq_true (by omega)
      have eS : ptC ((B.reverse.take (i + 1)).map pqo) = ptC ((B.reverse.take i).map pqo) ++ pcl (pqo (ptv B (B.length - 1 - i))) := by
        rw [rev_at d1, List.map_append]; exact ptC_snoc _ _
      have pl3 := ptC_len ((B.reverse.take i).map pqo)
      rw [List.length_map, List.length_take, List.length_reverse, Nat.min_eq_left (by omega)] at pl3
      have npp : (i + 1 ≤ i) = False := eq_false (by omega)
      have ovr : ((i + 1) * 80 ≤ 140737488355328) = True := eq_true (by omega)
      have hk3 : ∀ d, (M2 + d = k2) = False := fun d => eq_false (by omega)
      have hk3' : ∀ d, (k2 = M2 + d) = False := fun d => eq_false (by omega)
      have hkk : ∀ d, (M2 + d = kk) = False := fun d => eq_false (by omega)
      have hk3k : (k2 = kk) = False := eq_false (by omega)
      generalize ptC ((B.reverse.take i).map pqo) = O0 at *
      generalize pqo (ptv B (B.length - 1 - i)) = PA at *
      generalize B.length - 1 - i = m at *
      simp only [↓R0, R1, simprocAttr, -Int.reduceAbs, t5, t7, t73, t74, d1, d1', bk, bk2, plB, pl3, a1, b1, hv, hv', wi, wu, wv, npp, ovr, hk3, hk3', hkk, hk3k, pcl_len, pcl_ok, pcl_tk, pp_st, setR_length]
      refine ⟨c - 1, by omega, i + 1, M2 + 2, M2 + 1, false, by omega, rfl, rfl, ?_, by omega, by omega, fun q hq => ?_, rfl⟩
      · rw [if_pos rfl, eS]
      · have nb : ∀ d, (M2 + d = q) = False := fun d => eq_false (by omega)
        have nk2 : (k2 = q) = False := eq_false (by omega)
        simp only [↓R0, R1, simprocAttr, -Int.reduceAbs, nb, nk2]
        exact hh2 q hq
    have ei : i = B.length := by omega
    subst ei
    have d1' : ((B.length : Int) < (B.length : Int)) = False := eq_false (by omega)
    have tkR : B.reverse.take B.length = B.reverse := List.take_of_length_le (by rw [List.length_reverse]; exact Nat.le_refl _)
    rw [tkR] at bk2
    obtain ⟨B', hB'⟩ : ∃ B', B' = B.reverse := ⟨_, rfl⟩
    rw [← hB'] at bk2 ⊢
    clear bk
    have bk := bk2
    simp only [↓R0, R1, simprocAttr, -Int.reduceAbs, t5, t7, t73, t74, d1']
    have kM2 : ∀ d, (M2 + d = k2) = False := fun d => eq_false (by omega)
    have lB' : B'.length = B.length := by rw [hB', List.length_reverse]
    have okO' : ptsOK (B'.map pqo) := ⟨by rw [List.length_map]; omega, fun p hp => by
      obtain ⟨v, hv, rfl⟩ := List.mem_map.1 hp
      obtain ⟨p', hp', rfl⟩ := bm v (by rw [hB'] at hv; exact List.mem_reverse.1 hv)
      exact (pqo_ok (hs.2 p' hp')).le (by omega)⟩
    have pl := ptC_len (B'.map pqo)
    rw [List.length_map, lB'] at pl
    refine lp_parts (fun c tm hpC nx => ∃ (i : Nat), c + i = B.length ∧ tmget tm 5 = .slice (some ⟨k2, 0, none⟩) B.length B.length ∧ tmget tm 9 = .int .i64 (mnI B' i : Nat) ∧ tmget tm 91 = .int .i64 B.length ∧ tmget tm 92 = .int .i64 (i : Nat) ∧ hpC = hp2 ∧ nx = M2 + 0) ?_ B.length
      ⟨0, by omega, ?_, ?_, ?_, ?_, rfl, rfl⟩
    rotate_left
    all_goals first | (simp only [↓R0, R1, simprocAttr, -Int.reduceAbs]; done) | (simp only [↓R0, R1, simprocAttr, -Int.reduceAbs]; rfl) | (simp only [↓R0, R1, simprocAttr, -Int.reduceAbs, t7]; done) | (simp only [↓R0, R1, simprocAttr, -Int.reduceAbs, t7]; rfl) | skip
    clear t7
    rintro c tm hpC nx ⟨i, hc2, t5, t9, t91, t92, rfl, hnx⟩
    rw [hnx]
    clear hnx nx
    have fl := mnI_lt (l := B') (k := i) (n := B.length) (by omega) (by omega)
    by_cases d1 : i < B.length
    · have d1' : ((i : Int) < (B.length : Int)) = True := eq_true (by omega)
      have wi : IntKind.i64.wrap ((i : Int) + 1) = ((i + 1 : Nat) : Int) := by rw [i64_in _ (by omega)]; omega
      have fl' : ((mnI B' i : Int) < (B.length : Int)) = True := eq_true (by omega)
      have a1 := ptC_at (B'.map pqo) i (by rw [List.length_map]; omega)
      have a2 := ptC_at (B'.map pqo) (mnI B' i) (by rw [List.length_map]; omega)
      have b1 : (i * 6 + 6 ≤ B.length * 6) = True := eq_true (by omega)
      have b2 : (mnI B' i * 6 + 6 ≤ B.length * 6) = True := eq_true (by omega)
      have o1 := okO'.2 _ (pqAt_mem (l := B'.map pqo) (i := i) (by rw [List.length_map]; omega))
      have o2 := okO'.2 _ (pqAt_mem (l := B'.map pqo) (i := mnI B' i) (by rw [List.length_map]; omega))
      have cp := cmp26_of o1 o2
      have v1 := pvs_at (l := B'.map pqo) (i := i) (by rw [List.length_map]; omega)
      have v2 := pvs_at (l := B'.map pqo) (i := mnI B' i) (by rw [List.length_map]; omega)
      rw [map_pqo] at v1 v2
      rw [← v1, ← v2] at cp
      have em : mnI B' (i + 1) = if cmpP (ptv B' i) (ptv B' (mnI B' i)) < 0 then i else mnI B' i := rfl
      generalize pqAt (B'.map pqo) i = A at *
      generalize pqAt (B'.map pqo) (mnI B' i) = D at *
      generalize hF : mnI B' i = F at *
      by_cases g : cmpP (ptv B' i) (ptv B' F) < 0
      · have g' := eq_true g
        rw [if_pos g] at em
        simp only [↓R0, R1, simprocAttr, -Int.reduceAbs, t5, t9, t91, t92, d1, d1', bk, pl, a1, a2, b1, b2, fl, fl', pcl_len, pcl_ok, pcl_tk, pp_st, cp, g', wi]
        exact ⟨c - 1, by omega, i + 1, by omega, by rw [em], rfl⟩
      · have g' := eq_false g
        rw [if_neg g] at em
        simp only [↓R0, R1, simprocAttr, -Int.reduceAbs, t5, t9, t91, t92, d1, d1', bk, pl, a1, a2, b1, b2, fl, fl', pcl_len, pcl_ok, pcl_tk, pp_st, cp, g', wi]
        exact ⟨c - 1, by omega, i + 1, by omega, by rw [em], rfl⟩
    have ei : i = B.length := by omega
    subst ei
    have d1' : ((B.length : Int) < (B.length : Int)) = False := eq_false (by omega)
    have rat := fun i (hi : i < B'.length) => rmn_at hi
    rw [lB'] at rat
    have lR : (rmn B').length = B.length := by rw [rmn_len, lB']
    generalize mnI B' B.length = F at *
    simp only [↓R0, R1, simprocAttr, -Int.reduceAbs, t5, t9, t91, t92, d1']
    refine lp_parts (fun c tm hp3 nx => ∃ (i M3 k3 : Nat) (x3 : Bool), c + i = B.length ∧ tmget tm 5 = .slice (some ⟨k2, 0, none⟩) B.length B.length ∧ tmget tm 9 = .int .i64 (F : Nat) ∧ tmget tm 11 = .slice (some ⟨k3, 0, none⟩) i i ∧ tmget tm 109 = .int .i64 B.length ∧ tmget tm 110 = .int .i64 (i : Nat) ∧
        hget hp3 k2 = some ⟨34, 6, x2, ptC (B'.map pqo)⟩ ∧ hget hp3 k3 = some ⟨34, 6, x3, ptC (((rmn B').take i).map pqo)⟩ ∧ M2 ≤ k3 ∧ k3 < M3 ∧ ExtL N h hp3 ∧ nx = M3 + 0) ?_ B.length
      ⟨0, M2 + 1, M2 + 0, true, by omega, ?_, ?_, ?_, ?_, ?_, ?_, ?_, by omega, by omega, ?_, rfl⟩
    rotate_left
    all_goals first | (simp only [↓R0, R1, simprocAttr, -Int.reduceAbs, t5, t9]; done) | (simp only [↓R0, R1, simprocAttr, -Int.reduceAbs, t5, t9]; rfl) | (simp only [↓R0, R1, simprocAttr, -Int.reduceAbs, t5, t9, bk, kM2]; done) | (simp only [↓R0, R1, simprocAttr, -Int.reduceAbs, t5, t9, bk, kM2]; rfl) | skip
    · intro q hq
      have nb : ∀ d, (M2 + d = q) = False := fun d => eq_false (by omega)
      simp only [↓R0, R1, simprocAttr, -Int.reduceAbs, nb]
      exact hh2 q hq
    clear t5 t9 t91 t92
    rintro c tm hp3 nx ⟨i, M3, k3, x3, hc3, t5, t9, t11, t109, t110, c0, c3, g1, g2, hh3, hnx⟩
    rw [hnx]
    clear hnx nx
    by_cases e1 : i < B.length
    · have e1' : ((i : Int) < (B.length : Int)) = True := eq_true (by omega)
      have wi : IntKind.i64.wrap ((i : Int) + 1) = ((i + 1 : Nat) : Int) := by rw [i64_in _ (by omega)]; omega
      have wf : IntKind.i64.wrap ((F : Int) + (i : Int)) = ((F + i : Nat) : Int) := by rw [i64_in _ (by omega)]; omega
      have tf : Int.tmod ((F + i : Nat) : Int) (B.length : Int) = (((F + i) % B.length : Nat) : Int) := rfl
      have hm := Nat.mod_lt (F + i) (show B.length > 0 by omega)
      have hm' : ((((F + i) % B.length : Nat) : Int) < (B.length : Int)) = True := eq_true (by omega)
      have z1 : ((B.length : Int) = 0) = False := eq_false (by omega)
      have z2 : (B.length = 0) = False := eq_false (by omega)
      have a1 := ptC_at (B'.map pqo) ((F + i) % B.length) (by rw [List.length_map]; omega)
      rw [pq_map (by omega), ← rat i (by omega)] at a1
      have b1 : ((F + i) % B.length * 6 + 6 ≤ B.length * 6) = True := eq_true (by omega)
      have eS : ptC (((rmn B').take (i + 1)).map pqo) = ptC (((rmn B').take i).map pqo) ++ pcl (pqo (ptv (rmn B') i)) := by
        rw [List.take_add_one, ptv_some (by omega), List.map_append]; exact ptC_snoc _ _
      have pl3 := ptC_len (((rmn B').take i).map pqo)
      rw [List.length_map, List.length_take, lR, Nat.min_eq_left (by omega)] at pl3
      have npp : (i + 1 ≤ i) = False := eq_false (by omega)
      have ovr : ((i + 1) * 80 ≤ 140737488355328) = True := eq_true (by omega)
      have hk3 : ∀ d, (M3 + d = k3) = False := fun d => eq_false (by omega)
      have hk3' : ∀ d, (k3 = M3 + d) = False := fun d => eq_false (by omega)
      have hk2 : ∀ d, (M3 + d = k2) = False := fun d => eq_false (by omega)
      have hk3k : (k3 = k2) = False := eq_false (by omega)
      generalize ptC (((rmn B').take i).map pqo) = O0 at *
      generalize pqo (ptv (rmn B') i) = PA at *
      generalize (F + i) % B.length = m at *
      simp only [↓R0, R1, simprocAttr, -Int.reduceAbs, t5, t9, t11, t109, t110, e1, e1', c0, c3, pl, pl3, a1, b1, hm, hm', wi, wf, tf, z1, z2, npp, ovr, hk3, hk3', hk2, hk3k, pcl_len, pcl_ok, pcl_tk, pp_st, setR_length]
      refine ⟨c - 1, by omega, i + 1, M3 + 2, M3 + 1, false, by omega, rfl, rfl, ?_, by omega, by omega, fun q hq => ?_, rfl⟩
      · rw [if_pos rfl, eS]
      · have nb : ∀ d, (M3 + d = q) = False := fun d => eq_false (by omega)
        have nk2 : (k3 = q) = False := eq_false (by omega)
        simp only [↓R0, R1, simprocAttr, -Int.reduceAbs, nb, nk2]
        exact hh3 q hq
    have ei : i = B.length := by omega
    subst ei
    have e1' : ((B.length : Int) < (B.length : Int)) = False := eq_false (by omega)
    have tk : (rmn B').take B.length = rmn B' := List.take_of_length_le (by omega)
    rw [tk] at c3
    have eV : nmRL (0, rmn B') = ⟨1, fun σ => .tuple ⟨[.slice (some ⟨σ 0, 0, none⟩) B.length B.length, .int .i64 0]⟩, fun _ => 34, fun _ => 6, fun _ _ => ptC ((rmn B').map pqo)⟩ := by unfold nmRL; rw [lR]
    rw [eV]
    simp only [↓R0, R1, simprocAttr, -Int.reduceAbs, t5, t9, t11, t109, t110, e1', FinL, isEnd, resL, res1]
    exact ⟨fun _ => k3, _, fun i hi => (by omega : N ≤ k3), fun i j (hi : i < 1) (hj : j < 1) _ => by omega, rfl, rfl, fun i hi => ⟨x3, c3⟩, hh3⟩
  have neg' : (sg (ar2 (pvs l) / 2) < 0) = False := eq_false (fun h => neg (hfA.1 h))
  rw [if_neg neg]
  generalize sg (ar2 (pvs l) / 2) = S at *
  generalize RQ.of (ar2 (pvs l) / 2) = QH at *
  obtain ⟨B', hB'⟩ : ∃ B', B' = B := ⟨_, rfl⟩
  rw [← hB']
  rw [← hB'] at bk
  simp only [↓R0, R1, simprocAttr, -Int.reduceAbs, rdS, t0, t4, t5, t6, c1', ar, sgA, neg', q_len, q_ok, q_tk]
  have lB' : B'.length = B.length := by rw [hB']
  have okO' : ptsOK (B'.map pqo) := ⟨by rw [List.length_map]; omega, fun p hp => by
    obtain ⟨v, hv, rfl⟩ := List.mem_map.1 hp
    obtain ⟨p', hp', rfl⟩ := bm v (by rw [hB'] at hv; exact hv)
    exact (pqo_ok (hs.2 p' hp')).le (by omega)⟩
  have pl := ptC_len (B'.map pqo)
  rw [List.length_map, lB'] at pl
  refine lp_parts (fun c tm hp2 nx => ∃ (i : Nat), c + i = B.length ∧ tmget tm 5 = .slice (some ⟨kk, 0, none⟩) B.length B.length ∧ tmget tm 9 = .int .i64 (mnI B' i : Nat) ∧ tmget tm 91 = .int .i64 B.length ∧ tmget tm 92 = .int .i64 (i : Nat) ∧ hp2 = hp ∧ nx = M + 0) ?_ B.length
    ⟨0, by omega, ?_, ?_, ?_, ?_, rfl, rfl⟩
  rotate_left
  all_goals first | (simp only [↓R0, R1, simprocAttr, -Int.reduceAbs]; done) | (simp only [↓R0, R1, simprocAttr, -Int.reduceAbs]; rfl) | (simp only [↓R0, R1, simprocAttr, -Int.reduceAbs, t5]; done) | (simp only [↓R0, R1, simprocAttr, -Int.reduceAbs, t5]; rfl) | skip
  clear t5
  rintro c tm hp2 nx ⟨i, hc2, t5, t9, t91, t92, rfl, hnx⟩
  rw [hnx]
  clear hnx nx
  have fl := mnI_lt (l := B') (k := i) (n := B.length) (by omega) (by omega)
  by_cases d1 : i < B.length
  · have d1' : ((i : Int) < (B.length : Int)) = True := eq_true (by omega)
    have wi : IntKind.i64.wrap ((i : Int) + 1) = ((i + 1 : Nat) : Int) := by rw [i64_in _ (by omega)]; omega
    have fl' : ((mnI B' i : Int) < (B.length : Int)) = True := eq_true (by omega)
    have a1 := ptC_at (B'.map pqo) i (by rw [List.length_map]; omega)
    have a2 := ptC_at (B'.map pqo) (mnI B' i) (by rw [List.length_map]; omega)
    have b1 : (i * 6 + 6 ≤ B.length * 6) = True := eq_true (by omega)
    have b2 : (mnI B' i * 6 + 6 ≤ B.length * 6) = True := eq_true (by omega)
    have o1 := okO'.2 _ (pqAt_mem (l := B'.map pqo) (i := i) (by rw [List.length_map]; omega))
    have o2 := okO'.2 _ (pqAt_mem (l := B'.map pqo) (i := mnI B' i) (by rw [List.length_map]; omega))
    have cp := cmp26_of o1 o2
    have v1 := pvs_at (l := B'.map pqo) (i := i) (by rw [List.length_map]; omega)
    have v2 := pvs_at (l := B'.map pqo) (i := mnI B' i) (by rw [List.length_map]; omega)
    rw [map_pqo] at v1 v2
    rw [← v1, ← v2] at cp
    have em : mnI B' (i + 1) = if cmpP (ptv B' i) (ptv B' (mnI B' i)) < 0 then i else mnI B' i := rfl
    generalize pqAt (B'.map pqo) i = A at *
    generalize pqAt (B'.map pqo) (mnI B' i) = D at *
    generalize hF : mnI B' i = F at *
    by_cases g : cmpP (ptv B' i) (ptv B' F) < 0
    · have g' := eq_true g
      rw [if_pos g] at em
      simp only [↓R0, R1, simprocAttr, -Int.reduceAbs, t5, t9, t91, t92, d1, d1', bk, pl, a1, a2, b1, b2, fl, fl', pcl_len, pcl_ok, pcl_tk, pp_st, cp, g', wi]
      exact ⟨c - 1, by omega, i + 1, by omega, by rw [em], rfl⟩
    · have g' := eq_false g
      rw [if_neg g] at em
      simp only [↓R0, R1, simprocAttr, -Int.reduceAbs, t5, t9, t91, t92, d1, d1', bk, pl, a1, a2, b1, b2, fl, fl', pcl_len, pcl_ok, pcl_tk, pp_st, cp, g', wi]
      exact ⟨c - 1, by omega, i + 1, by omega, by rw [em], rfl⟩
  have ei : i = B.length := by omega
  subst ei
  have d1' : ((B.length : Int) < (B.length : Int)) = False := eq_false (by omega)
  have rat := fun i (hi : i < B'.length) => rmn_at hi
  rw [lB'] at rat
  have lR : (rmn B').length = B.length := by rw [rmn_len, lB']
  generalize mnI B' B.length = F at *
  simp only [↓R0, R1, simprocAttr, -Int.reduceAbs, t5, t9, t91, t92, d1']
  refine lp_parts (fun c tm hp3 nx => ∃ (i M3 k3 : Nat) (x3 : Bool), c + i = B.length ∧ tmget tm 5 = .slice (some ⟨kk, 0, none⟩) B.length B.length ∧ tmget tm 9 = .int .i64 (F : Nat) ∧ tmget tm 11 = .slice (some ⟨k3, 0, none⟩) i i ∧ tmget tm 109 = .int .i64 B.length ∧ tmget tm 110 = .int .i64 (i : Nat) ∧
      hget hp3 kk = some ⟨34, 6, x, ptC (B'.map pqo)⟩ ∧ hget hp3 k3 = some ⟨34, 6, x3, ptC (((rmn B').take i).map pqo)⟩ ∧ M ≤ k3 ∧ k3 < M3 ∧ ExtL N h hp3 ∧ nx = M3 + 0) ?_ B.length
    ⟨0, M + 1, M + 0, true, by omega, ?_, ?_, ?_, ?_, ?_, ?_, ?_, by omega, by omega, ?_, rfl⟩
  rotate_left
  all_goals first | (simp only [↓R0, R1, simprocAttr, -Int.reduceAbs, t5, t9]; done) | (simp only [↓R0, R1, simprocAttr, -Int.reduceAbs, t5, t9]; rfl) | (simp only [↓R0, R1, simprocAttr, -Int.reduceAbs, t5, t9, bk, kM]; done) | (simp only [↓R0, R1, simprocAttr, -Int.reduceAbs, t5, t9, bk, kM]; rfl) | skip
  · intro q hq
    have nb : ∀ d, (M + d = q) = False := fun d => eq_false (by omega)
    simp only [↓R0, R1, simprocAttr, -Int.reduceAbs, nb]
    exact hh q hq
  clear t5 t9 t91 t92
  rintro c tm hp3 nx ⟨i, M3, k3, x3, hc3, t5, t9, t11, t109, t110, c0, c3, g1, g2, hh3, hnx⟩
  rw [hnx]
  clear hnx nx
  by_cases e1 : i < B.length
  · have e1' : ((i : Int) < (B.length : Int)) = True := eq_true (by omega)
    have wi : IntKind.i64.wrap ((i : Int) + 1) = ((i + 1 : Nat) : Int) := by rw [i64_in _ (by omega)]; omega
    have wf : IntKind.i64.wrap ((F : Int) + (i : Int)) = ((F + i : Nat) : Int) := by rw [i64_in _ (by omega)]; omega
    have tf : Int.tmod ((F + i : Nat) : Int) (B.length : Int) = (((F + i) % B.length : Nat) : Int) := rfl
    have hm := Nat.mod_lt (F + i) (show B.length > 0 by omega)
    have hm' : ((((F + i) % B.length : Nat) : Int) < (B.length : Int)) = True := eq_true (by omega)
    have z1 : ((B.length : Int) = 0) = False := eq_false (by omega)
    have z2 : (B.length = 0) = False := eq_false (by omega)
    have a1 := ptC_at (B'.map pqo) ((F + i) % B.length) (by rw [List.length_map]; omega)
    rw [pq_map (by omega), ← rat i (by omega)] at a1
    have b1 : ((F + i) % B.length * 6 + 6 ≤ B.length * 6) = True := eq_true (by omega)
    have eS : ptC (((rmn B').take (i + 1)).map pqo) = ptC (((rmn B').take i).map pqo) ++ pcl (pqo (ptv (rmn B') i)) := by
      rw [List.take_add_one, ptv_some (by omega), List.map_append]; exact ptC_snoc _ _
    have pl3 := ptC_len (((rmn B').take i).map pqo)
    rw [List.length_map, List.length_take, lR, Nat.min_eq_left (by omega)] at pl3
    have npp : (i + 1 ≤ i) = False := eq_false (by omega)
    have ovr : ((i + 1) * 80 ≤ 140737488355328) = True := eq_true (by omega)
    have hk3 : ∀ d, (M3 + d = k3) = False := fun d => eq_false (by omega)
    have hk3' : ∀ d, (k3 = M3 + d) = False := fun d => eq_false (by omega)
    have hkk : ∀ d, (M3 + d = kk) = False := fun d => eq_false (by omega)
    have hk3k : (k3 = kk) = False := eq_false (by omega)
    generalize ptC (((rmn B').take i).map pqo) = O0 at *
    generalize pqo (ptv (rmn B') i) = PA at *
    generalize (F + i) % B.length = m at *
    simp only [↓R0, R1, simprocAttr, -Int.reduceAbs, t5, t9, t11, t109, t110, e1, e1', c0, c3, pl, pl3, a1, b1, hm, hm', wi, wf, tf, z1, z2, npp, ovr, hk3, hk3', hkk, hk3k, pcl_len, pcl_ok, pcl_tk, pp_st, setR_length]
    refine ⟨c - 1, by omega, i + 1, M3 + 2, M3 + 1, false, by omega, rfl, rfl, ?_, by omega, by omega, fun q hq => ?_, rfl⟩
    · rw [if_pos rfl, eS]
    · have nb : ∀ d, (M3 + d = q) = False := fun d => eq_false (by omega)
      have nk2 : (k3 = q) = False := eq_false (by omega)
      simp only [↓R0, R1, simprocAttr, -Int.reduceAbs, nb, nk2]
      exact hh3 q hq
  have ei : i = B.length := by omega
  subst ei
  have e1' : ((B.length : Int) < (B.length : Int)) = False := eq_false (by omega)
  have tk : (rmn B').take B.length = rmn B' := List.take_of_length_le (by omega)
  rw [tk] at c3
  have eV : nmRL (0, rmn B') = ⟨1, fun σ => .tuple ⟨[.slice (some ⟨σ 0, 0, none⟩) B.length B.length, .int .i64 0]⟩, fun _ => 34, fun _ => 6, fun _ _ => ptC ((rmn B').map pqo)⟩ := by unfold nmRL; rw [lR]
  rw [eV]
  simp only [↓R0, R1, simprocAttr, -Int.reduceAbs, t5, t9, t11, t109, t110, e1', FinL, isEnd, resL, res1]
  exact ⟨fun _ => k3, _, fun i hi => (by omega : N ≤ k3), fun i j (hi : i < 1) (hj : j < 1) _ => by omega, rfl, rfl, fun i hi => ⟨x3, c3⟩, hh3⟩
end Go.Eng
end
section
set_option linter.unusedVariables false
set_option linter.unusedSimpArgs false
set_option linter.unusedSectionVars false
set_option maxRecDepth 20000
namespace Go.Eng
open Go Go.Proofs Go.IntWalk
theorem normR_call {h : Heap} {b : Nat} {l : List PQ} {sl : Value} (hx : decPts h sl = some l) (hs : ptsN l) :
    ∃ a D mm, nwL spNormR [sl] h b = some (.tuple ⟨[.slice a (nmOut (pvs l)).2.length (nmOut (pvs l)).2.length, .int .i64 (nmOut (pvs l)).1]⟩, D, mm) ∧ (∀ q, q < b → hget (D ++ h) q = hget h q) ∧
      (∀ hp, ExtL (b + mm) (D ++ h) hp → decPts hp (.slice a (nmOut (pvs l)).2.length (nmOut (pvs l)).2.length) = some ((nmOut (pvs l)).2.map pqo)) := by
  have e0 : spNormR [sl] h = some (nmRL (nmOut (pvs l))) := by
    unfold spNormR
    simp only [hx]
    exact if_pos hs
  have e : nwL spNormR [sl] h b = some ((nmRL (nmOut (pvs l))).val (b + ·), newH (nmRL (nmOut (pvs l))) (b + ·) (nmRL (nmOut (pvs l))).m, (nmRL (nmOut (pvs l))).m) := by
    unfold nwL
    rw [e0]; rfl
  rw [e]
  generalize nmOut (pvs l) = r at *
  unfold nmRL
  refine ⟨some ⟨b + 0, 0, none⟩, _, 1, rfl, fun q hq => ?_, fun hp he => ?_⟩
  · have : (b + 0 = q) = False := eq_false (by omega)
    simp only [newH, List.cons_append, List.nil_append, hget, this, if_false]
  · have g := he (b + 0) (by omega)
    rw [show hget (newH ⟨1, fun σ => Value.tuple ⟨[.slice (some ⟨σ 0, 0, none⟩) r.2.length r.2.length, .int .i64 r.1]⟩, fun _ => 34, fun _ => 6, fun _ _ => ptC (r.2.map pqo)⟩ (b + ·) 1 ++ h) (b + 0) = some ⟨34, 6, false, ptC (r.2.map pqo)⟩ from if_pos rfl] at g
    exact pts_list g (List.length_map _)
theorem nm_nm {L : List P2} (h : (nmOut L).1 = 0) (h12 : L.length ≤ 12) : nmOut (nmOut L).2 = nmOut L := by
  have p := nm_ok h
  have S := prof_iff.1 p
  have e : nmOut L = (0, ncf L) := by unfold nmOut; rw [if_neg (by omega), if_pos p]
  obtain ⟨s1, _, _, _, _, _, s7⟩ := S.ncf
  have le : (ncf L).length ≤ L.length := by
    unfold ncf
    rw [rmn_len]
    have : (ori (bent L)).length = (bent L).length := by unfold ori; split; exact List.length_reverse; rfl
    rw [this, ← bfT_all]
    exact bfT_len _ _
  rw [e]
  show nmOut (ncf L) = (0, ncf L)
  unfold nmOut
  rw [if_neg (by omega), if_pos (prof_iff.2 s1), s7]
theorem nm_le {L : List P2} (h : (nmOut L).1 = 0) : L.length ≤ 12 := by
  unfold nmOut at h
  split at h
  · cases h
  · omega
def spL26cf : List Value → Heap → Option Value
  | [sl], h => match decPts h sl with
    | some l => if l.length ≤ 9223372036854775807 then some (.bool true) else none
    | _ => none
  | _, _ => none
theorem fr_L26cf {h : Heap} {N : Nat} {sl : Value} {l : List PQ} (e : decPts h sl = some l) (m : l.length ≤ maxLen) : rdS spL26cf [sl] h N = some (.bool true, [], 0) := by
  unfold rdS spL26cf
  simp only [e]
  rw [if_pos (show l.length ≤ 9223372036854775807 from m)]; rfl
def c3 : ICode :=
  (.seq (.reg [qq 2 (.mv (.c (.bool false)))]) (.seq (.seq (.reg [qq 9 (.mv (.t 0)), qq 10 (.call 6 [(.t 9)]), qq 11 (.bin .gtr (.t 10) (ci 0))]) (.cond (.t 11) (.seq (.reg [qq 12 (.call 7 []), qq 2 (.mv (.t 12))]) .ret) .skip)) (.seq (.reg [qq 14 (.mv (.t 0)), qq 15 (.call 8 [(.t 14)]), qq 13 (.mv (.t 15)), qq 16 (.ext (.t 13) 0), qq 17 (.ext (.t 13) 1), qq 3 (.mv (.t 16)), qq 4 (.mv (.t 17))]) (.seq (.reg [qq 19 (.mv (.t 0)), qq 20 (.call 9 [(.t 19)]), qq 18 (.mv (.t 20)), qq 21 (.ext (.t 18) 0), qq 22 (.ext (.t 18) 1), qq 5 (.mv (.t 21)), qq 6 (.mv (.t 22))]) (.seq (.seq (.reg [qq 23 (.mv (.t 4)), qq 24 (.mv (.t 6)), qq 25 (.bin .neq (.t 23) (.t 24)), qq 26 (.mv (.t 25)), ⟨(some 27), (some (26, false)), (.mv (.t 3))⟩, ⟨(some 28), (some (26, false)), (.mv (.t 5))⟩, ⟨(some 29), (some (26, false)), (.call 10 [(.t 27), (.t 28)])⟩, ⟨(some 30), (some (26, false)), (.un .not (.t 29))⟩, qq 31 (.pick (.t 26) (.c (.bool true)) (.t 30)), qq 32 (.mv (.t 31)), ⟨(some 33), (some (32, false)), (.mv (.t 0))⟩, ⟨(some 34), (some (32, false)), (.call 11 [(.t 33)])⟩, ⟨(some 35), (some (32, false)), (.mv (.t 0))⟩, ⟨(some 36), (some (32, false)), (.call 12 [(.t 35)])⟩, ⟨(some 37), (some (32, false)), (.eqa true [.b, .s, .s] (.t 34) (.t 36))⟩, qq 38 (.pick (.t 32) (.c (.bool true)) (.t 37))]) (.cond (.t 38) (.seq (.reg [qq 2 (.mv (.c (.bool false)))]) .ret) .skip)) (.seq (.seq (.reg [qq 39 (.mv (.t 6)), qq 40 (.bin .neq (.t 39) (ci 0))]) (.cond (.t 40) (.seq (.reg [qq 41 (.call 7 []), qq 2 (.mv (.t 41))]) .ret) .skip)) (.seq (.reg [qq 43 (.mv (.t 3)), qq 44 (.call 8 [(.t 43)]), qq 42 (.mv (.t 44)), qq 45 (.ext (.t 42) 0), qq 46 (.ext (.t 42) 1), qq 7 (.mv (.t 45)), qq 8 (.mv (.t 46))]) (.seq (.reg [qq 47 (.mv (.t 8)), qq 48 (.bin .eql (.t 47) (ci 0)), qq 49 (.mv (.t 48)), ⟨(some 50), (some (49, true)), (.mv (.t 3))⟩, ⟨(some 51), (some (49, true)), (.mv (.t 7))⟩, ⟨(some 52), (some (49, true)), (.call 10 [(.t 50), (.t 51)])⟩, qq 53 (.pick (.t 49) (.t 52) (.c (.bool false))), qq 54 (.mv (.t 53)), ⟨(some 55), (some (54, true)), (.call 7 [])⟩, qq 56 (.pick (.t 54) (.t 55) (.c (.bool false))), qq 2 (.mv (.t 56))]) .ret))))))))
theorem tr3 : trFun Tryz.prog 3 = some ⟨57, [.t 2], c3⟩ := by kernel_rfl
set_option maxHeartbeats 32000000 in
theorem ok_L26cf : SpecOK Tryz.prog 3 (rdS spL26cf) := by
  refine rd_run (env_cons ok_great26 (env_cons ok_awake26 (env_cons ok_norm2 (env_cons ok_normR (env_cons ok_same26 (env_cons ok_area2 (env_cons ok_area26 (env_nil _)))))))) mixed tr3 ?_ ?_
  · intro args h h' v hle e
    unfold spL26cf at e ⊢
    split at e
    · split at e
      · rename_i l hb
        simp only [decPts_mono hle hb]; exact e
      · cases e
    · cases e
  intro args v h N hG hN
  unfold spL26cf at hG
  split at hG
  case h_2 => cases hG
  rename_i sl
  split at hG
  case h_2 => cases hG
  rename_i l hx
  split at hG
  case isFalse => cases hG
  rename_i hm
  cases hG
  obtain ⟨a, cc, rfl⟩ := decPts_sl hx
  refine ⟨rfl, by simp, ?_⟩
  have gr := great26_of hx hm
  have z0 : ((0 : Int) > 0) = False := eq_false (by omega)
  have z1 : ((1 : Int) > 0) = True := eq_true (by omega)
  by_cases s1 : smallP l
  case neg =>
    rw [if_neg s1] at gr
    simp only [c3, G0, Nat.reduceAdd]
    simp only [↓R0, R1, simprocAttr, -Int.reduceAbs, rdS, gr, z0, z1, awake_of, Fin, isEnd, resL, res1]
    exact ⟨_, rfl, rfl, fun k hk => by simp only [ne_nb hk, if_false]⟩
  rw [if_pos s1] at gr
  have okl : ptsN l := s1.n
  have okc := nm_can s1
  have xH0 : ExtL N h h := fun _ _ => rfl
  obtain ⟨a_1, D_1, mm_1, kc_1, gq_1, hV_1⟩ := norm_call (b := N + 0) hx okl
  obtain ⟨M_1, hM_1⟩ : ∃ x, x = N + 0 + mm_1 := ⟨_, rfl⟩
  have eM_1 : N + 0 + mm_1 = M_1 + 0 := by omega
  rw [show N + 0 + mm_1 = M_1 by omega] at hV_1
  generalize eHP_1 : D_1 ++ h = HP_1 at *
  have ac_1 : ∀ (d : Nat) (tm : List (Nat × Value)) (V : Value) (K : St → Prop), @aft (some d) (some (V, D_1, mm_1)) ⟨(⟨tm, h, N + 0⟩, K)⟩ = K ⟨(d, V) :: tm, HP_1, M_1 + 0⟩ := fun _ _ _ _ => by rw [← eM_1, ← eHP_1]; exact propext Iff.rfl
  have xH_1 : ExtL N h HP_1 := extL_up (M := N + 0) (by omega) xH0 gq_1
  have hx1 : decPts HP_1 (.slice a l.length cc) = some l := ext_pts hN hx xH_1
  obtain ⟨a_2, D_2, mm_2, kc_2, gq_2, hV_2⟩ := normR_call (b := M_1 + 0) hx1 okl
  obtain ⟨M_2, hM_2⟩ : ∃ x, x = M_1 + 0 + mm_2 := ⟨_, rfl⟩
  have eM_2 : M_1 + 0 + mm_2 = M_2 + 0 := by omega
  rw [show M_1 + 0 + mm_2 = M_2 by omega] at hV_2
  generalize eHP_2 : D_2 ++ HP_1 = HP_2 at *
  have ac_2 : ∀ (d : Nat) (tm : List (Nat × Value)) (V : Value) (K : St → Prop), @aft (some d) (some (V, D_2, mm_2)) ⟨(⟨tm, HP_1, M_1 + 0⟩, K)⟩ = K ⟨(d, V) :: tm, HP_2, M_2 + 0⟩ := fun _ _ _ _ => by rw [← eM_2, ← eHP_2]; exact propext Iff.rfl
  have xH_2 : ExtL N h HP_2 := extL_up (M := M_1 + 0) (by omega) xH_1 gq_2
  have hx2 : decPts HP_2 (.slice a l.length cc) = some l := ext_pts hN hx xH_2
  have hA := hV_1 HP_2 (fun q hq => gq_2 q (by omega))
  have hB := hV_2 HP_2 (fun q hq => rfl)
  have sm := same26_of hA hB okc.1
  rw [decide_eq_true rfl] at sm
  have ar := area2_of hx2 okl.ok
  have cq := ceqQ (RQ.of (ar2 (pvs l) / 2))
  have dn : ∀ a b : Int, decide (a ≠ b) = !decide (a = b) := fun a b => by by_cases h : a = b <;> simp [h]
  generalize (RQ.of (ar2 (pvs l) / 2)).cells = QAR at *
  by_cases z : (nmOut (pvs l)).1 = 0
  case neg =>
    have z' := eq_false z
    generalize nmOut (pvs l) = r at *
    simp only [c3, G0, Nat.reduceAdd]
    simp only [↓R0, R1, simprocAttr, -Int.reduceAbs, rdS, gr, z0, z1, kc_1, ac_1, kc_2, ac_2, sm, ar, cq, dn, z', awake_of, Bool.not_true, Bool.not_false, Fin, isEnd, resL, res1]
    exact ⟨_, rfl, rfl, xH_2⟩
  have z' := eq_true z
  have mv := map_pqo (nmOut (pvs l)).2
  obtain ⟨a_3, D_3, mm_3, kc_3, gq_3, hV_3⟩ := norm_call (b := M_2 + 0) hA okc
  rw [mv, nm_nm z (nm_le z)] at kc_3 hV_3
  obtain ⟨M_3, hM_3⟩ : ∃ x, x = M_2 + 0 + mm_3 := ⟨_, rfl⟩
  have eM_3 : M_2 + 0 + mm_3 = M_3 + 0 := by omega
  rw [show M_2 + 0 + mm_3 = M_3 by omega] at hV_3
  generalize eHP_3 : D_3 ++ HP_2 = HP_3 at *
  have ac_3 : ∀ (d : Nat) (tm : List (Nat × Value)) (V : Value) (K : St → Prop), @aft (some d) (some (V, D_3, mm_3)) ⟨(⟨tm, HP_2, M_2 + 0⟩, K)⟩ = K ⟨(d, V) :: tm, HP_3, M_3 + 0⟩ := fun _ _ _ _ => by rw [← eM_3, ← eHP_3]; exact propext Iff.rfl
  have xH_3 : ExtL N h HP_3 := extL_up (M := M_2 + 0) (by omega) xH_2 gq_3
  have hA3 := hV_1 HP_3 (fun q hq => by rw [gq_3 q (by omega), gq_2 q (by omega)])
  have hC := hV_3 HP_3 (fun q hq => rfl)
  have sm3 := same26_of hA3 hC okc.1
  rw [decide_eq_true rfl] at sm3
  generalize nmOut (pvs l) = r at *
  simp only [c3, G0, Nat.reduceAdd]
  simp only [↓R0, R1, simprocAttr, -Int.reduceAbs, rdS, gr, z0, z1, kc_1, ac_1, kc_2, ac_2, kc_3, ac_3, sm, sm3, ar, cq, dn, z', awake_of, Bool.not_true, Bool.not_false, Fin, isEnd, resL, res1]
  exact ⟨_, rfl, rfl, xH_3⟩
end Go.Eng
end
section
set_option linter.unusedVariables false
set_option linter.unusedSimpArgs false
set_option linter.unusedSectionVars false
namespace Go.Eng.K
open Go.Eng
inductive Ki where
  | b | i (k : IntKind) | s
def kiFs (ty : TypeId → Option (List Ki)) (P : Program) : List Field → Nat → Option (List Ki)
  | [], _ => some []
  | f :: r, off =>
    if f.name ≠ "_" ∧ f.offset = off then
      match ty f.type, szOf P f.type with
      | some ks, some n => if ks.length = n then (kiFs ty P r (off + n)).map (ks ++ ·) else none
      | _, _ => none
    else none
def kiTy (P : Program) : Nat → TypeId → Option (List Ki)
  | 0, _ => none
  | d + 1, t =>
    match P.underlying t with
    | some .bool => some [.b]
    | some (.int k) => some [.i k]
    | some .string => some [.s]
    | some (.struct fs) => if P.stoodInHeld t then none else kiFs (kiTy P d) P fs.toList 0
    | some (.array len e) => match kiTy P d e, szOf P e with
      | some ks, some n => if ks.length = n then some (List.replicate len ks).flatten else none
      | _, _ => none
    | _ => none
def kmatch : List Ki → List Value → Prop
  | [], [] => True
  | .b :: ks, .bool _ :: r => kmatch ks r
  | .i k :: ks, .int k' n :: r => (k' = k ∧ (Lit.int k n).wf = true) ∧ kmatch ks r
  | .s :: ks, .string s :: r => s.size ≤ maxLen ∧ kmatch ks r
  | _, _ => False
theorem kmatch_append : ∀ {ks ks' : List Ki} {cs cs' : List Value}, kmatch ks cs → kmatch ks' cs' → kmatch (ks ++ ks') (cs ++ cs')
  | [], _, [], _, _, h => h
  | [], _, _ :: _, _, h, _ => h.elim
  | .b :: ks, ks', cs, cs', h, h' => by
    match cs, h with
    | .bool _ :: r, h => exact kmatch_append (ks := ks) h h'
  | .i k :: ks, ks', cs, cs', h, h' => by
    match cs, h with
    | .int _ _ :: r, h => exact ⟨h.1, kmatch_append (ks := ks) h.2 h'⟩
  | .s :: ks, ks', cs, cs', h, h' => by
    match cs, h with
    | .string _ :: r, h => exact ⟨h.1, kmatch_append (ks := ks) h.2 h'⟩
section
variable {H : Type} {enc : TypeId × Value → H} {P : Program}
theorem cellsOf_sz {t : TypeId} {n : Nat} (h : szOf P t = some n) : P.cellsOf t = n := by
  unfold Program.cellsOf; unfold szOf at h; rw [h]; rfl
def Plain (P : Program) (enc : TypeId × Value → H) (fuel : Nat) (t : TypeId) (ks : List Ki) : Prop :=
  ∀ (w : World) (base : Nat) (spare : Nat → Bool) (held : Bool) (cs : List Value) (x : DataW H × List MemPlace), DataW.trod enc P w base spare held fuel t cs = some x →
    kmatch ks cs ∧ x.2 = [] ∧ ∀ w' base' spare' held', DataW.trod enc P w' base' spare' held' fuel t cs = some x
theorem plain_fields {fuel : Nat} {ty : TypeId → Option (List Ki)} (hty : ∀ t ks n, ty t = some ks → szOf P t = some n → ks.length = n → Plain P enc fuel t ks) :
    ∀ (fs : List Field) (off : Nat) (ks : List Ki), kiFs ty P fs off = some ks → ∀ (w : World) (base : Nat) (spare : Nat → Bool) (held : Bool) (cs : List Value) (xs : List (DataW H × List MemPlace)),
      (fs.mapM fun f => DataW.trod enc P w base spare held fuel f.type ((cs.drop f.offset).take (P.cellsOf f.type))) = some xs → cs.length = off + ks.length →
      kmatch ks (cs.drop off) ∧ xs.flatMap (·.2) = [] ∧ ∀ w' base' spare' held', (fs.mapM fun f => DataW.trod enc P w' base' spare' held' fuel f.type ((cs.drop f.offset).take (P.cellsOf f.type))) = some xs
  | [], off, ks, h, w, base, spare, held, cs, xs, hm, hl => by
    simp only [kiFs, Option.some.injEq] at h
    subst h
    simp only [List.mapM_nil, Option.pure_def, Option.some.injEq] at hm
    subst hm
    simp only [List.length_nil, Nat.add_zero] at hl
    rw [List.drop_eq_nil_of_le (by omega)]
    exact ⟨trivial, rfl, fun _ _ _ _ => rfl⟩
  | f :: r, off, ks, h, w, base, spare, held, cs, xs, hm, hl => by
    simp only [kiFs] at h
    split at h
    case isFalse => cases h
    rename_i hc
    obtain ⟨_, hoff⟩ := hc
    split at h
    case h_2 => cases h
    rename_i ks0 n hk hn
    split at h
    case isFalse => cases h
    rename_i hlen
    rw [Option.map_eq_some_iff] at h
    obtain ⟨ks1, h1, rfl⟩ := h
    have hsz := cellsOf_sz hn
    simp only [List.mapM_cons, Option.bind_eq_bind, Option.bind_eq_some_iff, Option.pure_def, Option.some.injEq] at hm
    obtain ⟨y, hy, ys, hys, rfl⟩ := hm
    have hp := hty f.type ks0 n hk hn hlen w base spare held _ y hy
    obtain ⟨p1, p2, p3⟩ := hp
    simp only [List.length_append] at hl
    obtain ⟨q1, q2, q3⟩ := plain_fields hty r (off + n) ks1 h1 w base spare held cs ys hys (by omega)
    rw [hoff, hsz] at p1
    refine ⟨?_, ?_, ?_⟩
    · have e : cs.drop off = (cs.drop off).take n ++ cs.drop (off + n) := by
        rw [← List.drop_drop, List.take_append_drop]
      rw [e]
      exact kmatch_append p1 q1
    · simp only [List.flatMap_cons, p2, q2, List.nil_append]
    · intro w' base' spare' held'
      simp only [List.mapM_cons, Option.bind_eq_bind, Option.bind_eq_some_iff, Option.pure_def, Option.some.injEq]
      exact ⟨y, p3 w' base' spare' held', ys, q3 w' base' spare' held', rfl⟩
theorem plain_elems {fuel : Nat} {e : TypeId} {ks : List Ki} {n : Nat} (hn : szOf P e = some n) (hl : ks.length = n) (he : Plain P enc fuel e ks) :
    ∀ (m i0 : Nat) (w : World) (base : Nat) (spare : Nat → Bool) (held : Bool) (cs : List Value) (xs : List (DataW H × List MemPlace)),
      ((List.range' i0 m).mapM fun i => DataW.trod enc P w base spare held fuel e ((cs.drop (i * P.cellsOf e)).take (P.cellsOf e))) = some xs → cs.length = (i0 + m) * n →
      kmatch (List.replicate m ks).flatten (cs.drop (i0 * n)) ∧ xs.flatMap (·.2) = [] ∧ ∀ w' base' spare' held', ((List.range' i0 m).mapM fun i => DataW.trod enc P w' base' spare' held' fuel e ((cs.drop (i * P.cellsOf e)).take (P.cellsOf e))) = some xs
  | 0, i0, w, base, spare, held, cs, xs, hm, hlen => by
    simp only [List.range'_zero, List.mapM_nil, Option.pure_def, Option.some.injEq] at hm
    subst hm
    simp only [Nat.add_zero] at hlen
    rw [List.drop_eq_nil_of_le (by omega)]
    exact ⟨trivial, rfl, fun _ _ _ _ => by simp⟩
  | m + 1, i0, w, base, spare, held, cs, xs, hm, hlen => by
    have hsz := cellsOf_sz hn
    simp only [List.range'_succ, List.mapM_cons, Option.bind_eq_bind, Option.bind_eq_some_iff, Option.pure_def, Option.some.injEq] at hm
    obtain ⟨y, hy, ys, hys, rfl⟩ := hm
    obtain ⟨p1, p2, p3⟩ := he w base spare held _ y hy
    obtain ⟨q1, q2, q3⟩ := plain_elems hn hl he m (i0 + 1) w base spare held cs ys hys (by rw [hlen]; congr 1; omega)
    rw [hsz] at p1
    refine ⟨?_, ?_, ?_⟩
    · rw [List.replicate_succ, List.flatten_cons]
      have e : cs.drop (i0 * n) = (cs.drop (i0 * n)).take n ++ cs.drop ((i0 + 1) * n) := by
        rw [Nat.succ_mul, ← List.drop_drop, List.take_append_drop]
      rw [e]
      exact kmatch_append p1 q1
    · simp only [List.flatMap_cons, p2, q2, List.nil_append]
    · intro w' base' spare' held'
      simp only [List.range'_succ, List.mapM_cons, Option.bind_eq_bind, Option.bind_eq_some_iff, Option.pure_def, Option.some.injEq]
      exact ⟨y, p3 w' base' spare' held', ys, q3 w' base' spare' held', rfl⟩
theorem plain_ty : ∀ (fuel d : Nat) (t : TypeId) (ks : List Ki) (n : Nat), kiTy P d t = some ks → szOf P t = some n → ks.length = n → Plain P enc fuel t ks
  | 0, d, t, ks, n, h, hn, hl => by intro w base spare held cs x hx; simp [DataW.trod] at hx
  | fuel + 1, 0, t, ks, n, h, hn, hl => by simp [kiTy] at h
  | fuel + 1, d + 1, t, ks, n, h, hn, hl => by
    intro w base spare held cs x hx
    unfold kiTy at h
    unfold DataW.trod at hx ⊢
    split at h
    · rename_i hu
      cases h
      rw [hu] at hx ⊢
      match cs, hx with
      | [.bool b], hx => simp only [Option.some.injEq] at hx; subst hx; exact ⟨trivial, rfl, fun _ _ _ _ => rfl⟩
    · rename_i k hu
      cases h
      rw [hu] at hx ⊢
      match cs, hx with
      | [.int k' m], hx =>
        simp only at hx
        split at hx
        · rename_i hc
          simp only [Option.some.injEq] at hx; subst hx
          exact ⟨⟨hc, trivial⟩, rfl, fun _ _ _ _ => by simp only; rw [if_pos hc]⟩
        · cases hx
    · rename_i hu
      cases h
      rw [hu] at hx ⊢
      match cs, hx with
      | [.string s], hx =>
        simp only at hx
        split at hx
        · rename_i hc
          simp only [Option.some.injEq] at hx; subst hx
          exact ⟨⟨hc, trivial⟩, rfl, fun _ _ _ _ => by simp only; rw [if_pos hc]⟩
        · cases hx
    · rename_i fs hu
      split at h
      · cases h
      rw [hu] at hx ⊢
      simp only at hx ⊢
      split at hx
      case isFalse => cases hx
      rename_i hlen
      rw [Option.map_eq_some_iff] at hx
      obtain ⟨xs, hxs, rfl⟩ := hx
      rw [cellsOf_sz hn, ← hl] at hlen
      obtain ⟨p1, p2, p3⟩ := plain_fields (fuel := fuel) (fun t ks n h1 h2 h3 => plain_ty fuel d t ks n h1 h2 h3) fs.toList 0 ks h w base spare held cs xs hxs (by omega)
      refine ⟨by simpa using p1, p2, fun w' base' spare' held' => ?_⟩
      rw [if_pos (by rw [cellsOf_sz hn, ← hl, hlen]), p3]; rfl
    · rename_i len e hu
      split at h
      case h_2 => cases h
      rename_i ks0 m hk hm
      split at h
      case isFalse => cases h
      rename_i hlm
      simp only [Option.some.injEq] at h
      subst h
      rw [hu] at hx ⊢
      simp only at hx ⊢
      split at hx
      case isFalse => cases hx
      rename_i hlen
      rw [Option.map_eq_some_iff] at hx
      obtain ⟨xs, hxs, rfl⟩ := hx
      rw [cellsOf_sz hn, ← hl] at hlen
      rw [List.range_eq_range'] at hxs
      have hfl : ((List.replicate len ks0).flatten).length = len * m := by rw [List.length_flatten]; simp [hlm]
      obtain ⟨p1, p2, p3⟩ := plain_elems hm hlm (plain_ty fuel d e ks0 m hk hm hlm) len 0 w base spare held cs xs hxs (by rw [hlen, hfl, Nat.zero_add])
      refine ⟨by simpa using p1, p2, fun w' base' spare' held' => ?_⟩
      rw [if_pos (by rw [cellsOf_sz hn, ← hl, hlen]), List.range_eq_range', p3]; rfl
    · cases h
end
end Go.Eng.K
end
section
set_option linter.unusedVariables false
set_option linter.unusedSimpArgs false
set_option linter.unusedSectionVars false
namespace Go.Eng.K
open Go.Eng
theorem vr_ex (β : Emb) : ∀ v : Value, ∃ a, VR β a v := by
  have key : ∀ (n : Nat) (v : Value), SizeOf.sizeOf v < n → ∃ a, VR β a v := by
    intro n
    induction n with
    | zero => intro v h; omega
    | succ n ih =>
      intro v h
      have list : ∀ l : List Value, (∀ x ∈ l, SizeOf.sizeOf x < n) → ∃ bs, VRs β bs l := by
        intro l
        induction l with
        | nil => intro _; exact ⟨[], .nil⟩
        | cons x r ihl =>
          intro hx
          obtain ⟨a, ha⟩ := ih x (hx x (List.mem_cons_self ..))
          obtain ⟨bs, hs⟩ := ihl (fun y hy => hx y (List.mem_cons_of_mem _ hy))
          exact ⟨a :: bs, .cons _ _ _ _ ha hs⟩
      by_cases ho : okCell v = true
      · exact ⟨.chan none, .junk none v ho⟩
      · match v, ho, h with
        | .agg ⟨l⟩, _, h =>
          obtain ⟨bs, hs⟩ := list l (fun x hx => by
            have := List.sizeOf_lt_of_mem hx
            simp only [Value.agg.sizeOf_spec, Array.mk.sizeOf_spec] at h
            omega)
          exact ⟨.agg ⟨bs⟩, .agg _ _ hs⟩
        | .tuple ⟨l⟩, _, h =>
          obtain ⟨bs, hs⟩ := list l (fun x hx => by
            have := List.sizeOf_lt_of_mem hx
            simp only [Value.tuple.sizeOf_spec, Array.mk.sizeOf_spec] at h
            omega)
          exact ⟨.tuple ⟨bs⟩, .tup _ _ hs⟩
  exact fun v => key (SizeOf.sizeOf v + 1) v (Nat.lt_succ_self _)
def mirE (W : World) : Emb := fun k => if k < W.heap.size then some ⟨k, 0, []⟩ else none
open Classical in
noncomputable def absV (W : World) (v : Value) : Value :=
  match v with
  | .slice (some a) len cap =>
    if len = 0 then .slice (some ⟨0, 0, some 1⟩) 0 0
    else if a.spot = none ∧ a.block < W.heap.size then .slice (some a) len cap
    else Classical.choose (vr_ex (mirE W) (.slice (some a) len cap))
  | v => if isBase v = true then v else Classical.choose (vr_ex (mirE W) v)
theorem absV_vr (W : World) (v : Value) : VR (mirE W) (absV W v) v := by
  unfold absV
  split
  · rename_i a len cap
    split
    · rename_i h; subst h; exact .sle _ _
    · split
      · rename_i h
        obtain ⟨b, off, s⟩ := a
        obtain ⟨h1, h2⟩ := h
        simp only at h1 h2
        subst h1
        exact VR.sl b off len cap ⟨b, 0, []⟩ (by unfold mirE; rw [if_pos h2])
      · exact Classical.choose_spec (vr_ex (mirE W) _)
  · split
    · rename_i h; exact .base _ h
    · exact Classical.choose_spec (vr_ex (mirE W) _)
theorem absV_base {W : World} {v : Value} (h : isBase v = true) : absV W v = v := by
  unfold absV
  split
  · simp [isBase] at h
  · rw [if_pos h]
theorem absV_map (W : World) : ∀ l : List Value, VRs (mirE W) (l.map (absV W)) l
  | [] => .nil
  | v :: r => .cons _ _ _ _ (absV_vr W v) (absV_map W r)
theorem absV_bases {W : World} : ∀ {l : List Value}, l.all isBase = true → l.map (absV W) = l
  | [], _ => rfl
  | v :: r, h => by
    simp only [List.all_cons, Bool.and_eq_true] at h
    rw [List.map_cons, absV_base h.1, absV_bases h.2]
noncomputable def mirB (W : World) (b : Nat) : Option Blk :=
  match W.heap[b]? with
  | some (.cells c elem _) => some ⟨elem, 0, true, c.toList.map (absV W)⟩
  | _ => none
noncomputable def mirror (W : World) : Heap := (List.range W.heap.size).map fun b => (b, mirB W b)
theorem hget_map {f : Nat → Option Blk} {k : Nat} : ∀ (l : List Nat), hget (l.map fun b => (b, f b)) k = if k ∈ l then f k else none
  | [] => rfl
  | b :: r => by
    simp only [List.map_cons, hget]
    by_cases e : b = k
    · subst e; simp
    · rw [if_neg e, hget_map r]
      simp [Ne.symm e]
theorem mir_get (W : World) (k : Nat) : hget (mirror W) k = mirB W k := by
  unfold mirror
  rw [hget_map]
  by_cases h : k < W.heap.size
  · rw [if_pos (List.mem_range.2 h)]
  · rw [if_neg (by simpa using h)]
    unfold mirB
    rw [Array.getElem?_eq_none (by omega)]
theorem mir_blk {W : World} {k : Nat} {blk : Blk} (h : hget (mirror W) k = some blk) : k < W.heap.size ∧ ∃ C fr, W.heap[k]? = some (.cells ⟨C⟩ blk.elem fr) ∧ blk.sz = 0 ∧ blk.cells = C.map (absV W) := by
  rw [mir_get] at h
  unfold mirB at h
  split at h
  · rename_i c elem fr hk
    cases h
    refine ⟨?_, c.toList, fr, hk, rfl, rfl⟩
    rcases Nat.lt_or_ge k W.heap.size with h | h
    · exact h
    · rw [Array.getElem?_eq_none h] at hk; cases hk
  · cases h
theorem mir_wr {W : World} {k : Nat} : ¬ wr (mirror W) k := fun ⟨blk, h1, h2⟩ => by
  obtain ⟨_, C, fr, _, h3, _⟩ := mir_blk h1
  exact h2 h3
theorem mir_rel (W : World) : Rel (mirE W) (mirror W) W := by
  refine ⟨fun k blk hk => ?_, fun k k' L L' _ b => absurd b mir_wr, fun k L h => ?_⟩
  · obtain ⟨h1, C, fr, h2, h3, h4⟩ := mir_blk hk
    refine ⟨⟨k, 0, []⟩, C, fr, by unfold mirE; rw [if_pos h1], by simpa using h2, fun h => absurd h3 h, by rw [h4]; exact absV_map W C, by simp, fun _ => rfl⟩
  · unfold mirE at h
    split at h
    · rename_i hk; cases h; exact hk
    · cases h
theorem mir_calls {P : Program} {f : Nat} {S : List Value → Heap → Nat → Option Out} (hS : SpecOK P f S) {W : World} {aargs args : List Value} {v : Value} (h : S aargs (mirror W) W.heap.size = some (v, [], 0))
    (ha : VRs (mirE W) aargs args) (hv : isBase v = true) :
    Calls P f ⟨args⟩ W fun e W' => e = .returned v ∧ W'.os = W.os ∧ W'.output = W.output ∧ ∀ b, b < W.heap.size → W'.heap[b]? = W.heap[b]? := by
  have h := hS.ok aargs (mirror W) W.heap.size (v, [], 0) h (mirE W) W args ha (mir_rel W) (fun k h1 h2 => by simp only at h2; omega)
    ⟨W.heap.size, fun k hk => by
      rcases Nat.lt_or_ge k W.heap.size with h | h
      · exact h
      · exact absurd (by unfold mirE; rw [if_neg (by omega)]) hk⟩
  refine h.mono ?_
  rintro e W' ⟨β', v', he, hvr, hrel, hfr, _⟩
  exact ⟨by rw [he, hvr.base_left hv], hfr.os, hfr.out, fun b hb => hfr.keep b hb (fun k L hk => absurd hk mir_wr)⟩
theorem kept_of {W W' : World} (h1 : W'.os = W.os) (h2 : W'.output = W.output) (h3 : ∀ b, b < W.heap.size → W'.heap[b]? = W.heap[b]?) : W.keptBut W' (fun _ => False) := by
  refine ⟨h1, h2, fun i hi => ?_⟩
  rw [h3 i hi]
  cases W.heap[i]? with
  | none => rfl
  | some o =>
    cases o with
    | cells c t fr => exact ⟨rfl, rfl, rfl, fun _ _ => rfl⟩
    | map es cl => exact .inr ⟨rfl, rfl⟩
    | _ => rfl
section
variable {H : Type} {enc : TypeId × Value → H} {P : Program}
theorem trodAll_old {W W' : World} (hs : ∀ b, b < W.heap.size → W'.heap[b]? = W.heap[b]?) {base : Nat} {sp : Nat → Bool} {held : Bool} :
    ∀ {ts : List TypeId} {vs : List Value} {ds : List (DataW H)} {ps : List MemPlace}, DataW.TrodAll enc P W base sp held ts vs ds ps → DataW.TrodAll enc P W' base sp held ts vs ds ps
  | [], [], [], _, h => h
  | t :: ts, v :: vs, d :: ds, ps, ⟨p, q, ⟨n, h1⟩, h2, e⟩ => by
    have lt := DataW.trod_lt n _ _ _ h1
    refine ⟨p, q, ⟨n, DataW.trod_carry n _ _ _ h1 (fun x hx => ?_)⟩, trodAll_old hs h2, e⟩
    have hb := lt x hx
    cases x with
    | cell b off => simp only [MemPlace.block] at hb; simp only [World.sameAt, World.cell?, hs b hb]
    | map b => simp only [MemPlace.block] at hb; simp only [World.sameAt, hs b hb]
  | [], [], _ :: _, _, h => h.elim
  | [], _ :: _, _, _, h => by cases h
  | _ :: _, [], _, _, h => by cases h
  | _ :: _, _ :: _, [], _, h => by cases h
theorem args_again {W W' : World} (hl : laidOutB P = true) (hm : mapsRowed P = true) (hz : ((List.range P.types.size).all fun t => match P.underlying t with | some (.slice e) => decide (0 < P.cellsOf e) | _ => true) = true)
    (hs : ∀ b, b < W.heap.size → W'.heap[b]? = W.heap[b]?) {ts : List TypeId} (ht : ts.all (fun t => decide (t < P.types.size)) = true) {vs : List Value} {ds : List (DataW H)} {ps : List MemPlace} (h : DataW.TrodAll enc P W 0 (fun _ => true) true ts vs ds ps) :
    DataW.TrodAll enc P W' 0 (fun b => decide (b < W.heap.size)) true ts vs ds ps := by
  refine DataW.TrodAll.respare (kids_rows hl hm) (slices_full_of P hz) (fun t h => of_decide_eq_true (List.all_eq_true.1 ht t h)) (trodAll_old hs h) (fun p hp => ?_)
  exact decide_eq_true (DataW.TrodAll.lt h p hp)
theorem mir_at {W : World} {a : Addr} {n : Nat} {cs : List Value} (hn : 0 < n) (h : W.cells? 0 a n = some cs) :
    a.spot = none ∧ a.block < W.heap.size ∧ ∃ blk, hget (mirror W) a.block = some blk ∧ a.off + n ≤ blk.cells.length ∧ (blk.cells.drop a.off).take n = cs.map (absV W) := by
  obtain ⟨_, hlen, hc⟩ := World.cells?_some h
  have h0 := hc 0 hn
  rw [List.getElem?_eq_getElem (by omega)] at h0
  have e0 : a.add 0 = a := rfl
  rw [e0] at h0
  unfold World.cell? at h0
  split at h0
  case h_2 => cases h0
  rename_i c elem fr hk
  split at h0
  case isTrue => cases h0
  rename_i hsp
  have hspot : a.spot = none := by cases h : a.spot with | none => rfl | some s => rw [h] at hsp; simp at hsp
  have hlt : a.block < W.heap.size := by
    rcases Nat.lt_or_ge a.block W.heap.size with h | h
    · exact h
    · rw [Array.getElem?_eq_none h] at hk; cases hk
  have cell : ∀ i, i < n → c.toList[a.off + i]? = cs[i]? := fun i hi => by
    have := hc i hi
    rw [← this]
    have ea : a.add i = ⟨a.block, a.off + i, none⟩ := by
      unfold Addr.add
      split
      · rename_i h0; subst h0; cases a; simp_all
      · rfl
    rw [ea]
    simp only [World.cell?, hk]
    simp
  have hle : a.off + n ≤ c.toList.length := by
    have := cell (n - 1) (by omega)
    rw [List.getElem?_eq_getElem (by omega : n - 1 < cs.length)] at this
    have := (List.getElem?_eq_some_iff.1 this).1
    omega
  refine ⟨hspot, hlt, ⟨elem, 0, true, c.toList.map (absV W)⟩, ?_, by simpa using hle, ?_⟩
  · rw [mir_get]; unfold mirB; rw [hk]
  · refine List.ext_getElem? fun i => ?_
    rw [List.getElem?_take]
    by_cases hi : i < n
    · rw [if_pos hi, List.getElem?_drop, List.getElem?_map, List.getElem?_map, cell i hi]
    · rw [if_neg hi, List.getElem?_eq_none (by simp; omega)]
theorem many_ex {α : Type} {sz : Nat} {dec : List Value → Option α} : ∀ (l : Nat) (cs : List Value), (∀ i, i < l → ∃ x, dec ((cs.drop (i * sz)).take sz) = some x) → ∃ xs, many sz dec l cs = some xs
  | 0, cs, _ => ⟨[], rfl⟩
  | l + 1, cs, h => by
    obtain ⟨x, hx⟩ := h 0 (by omega)
    simp only [Nat.zero_mul, List.drop_zero] at hx
    obtain ⟨xs, hxs⟩ := many_ex l (cs.drop sz) (fun i hi => by
      obtain ⟨y, hy⟩ := h (i + 1) (by omega)
      refine ⟨y, ?_⟩
      rw [List.drop_drop, ← hy, Nat.succ_mul, Nat.add_comm (i * sz) sz])
    refine ⟨x :: xs, ?_⟩
    unfold many
    simp only [hx, hxs]
theorem mir_list {W : World} {α : Type} {dec : List Value → Option α} {t e : TypeId} {n fuel : Nat} {held : Bool} {sv : Value} {x : DataW H × List MemPlace} (ht : P.underlying t = some (.slice e)) (hsz : P.cellsOf e = n) (hn : 0 < n)
    (h : DataW.trod enc P W 0 (fun _ => true) held fuel t [sv] = some x)
    (hdec : ∀ (m : Nat) (cs : List Value) (y : DataW H × List MemPlace), DataW.trod enc P W 0 (fun _ => true) held m e cs = some y → ∃ z, dec (cs.map (absV W)) = some z) :
    ∃ xs, listAt n dec (mirror W) (absV W sv) = some xs ∧ xs.length ≤ maxLen := by
  rcases Go.Deep.open_slice ht h with ⟨h1, _⟩ | ⟨a, len, cap, m, k, D, Pl, h1, _, hl, hm, hmm, _, hx⟩
  · simp only [List.cons.injEq, and_true] at h1
    subst h1
    exact ⟨[], by rw [absV_base rfl]; rfl, by simp⟩
  · simp only [List.cons.injEq, and_true] at h1
    subst h1
    simp only [if_true] at hmm
    subst hmm
    rw [hsz] at hx
    by_cases h0 : len = 0
    · subst h0
      exact ⟨[], by unfold absV; simp only [if_true]; rfl, by simp⟩
    · obtain ⟨c0, hc0, _⟩ := hx 0 (by omega)
      rw [Nat.zero_mul] at hc0
      obtain ⟨s1, s2, blk, s3, _, _⟩ := mir_at hn hc0
      have ev : absV W (.slice (some a) len m) = .slice (some a) len m := by unfold absV; simp only; rw [if_neg h0, if_pos ⟨s1, s2⟩]
      obtain ⟨b, off, sp⟩ := a
      replace s1 : sp = none := s1
      replace s3 : hget (mirror W) b = some blk := s3
      subst s1
      have cell : ∀ i, i < len → ∃ cs, off + i * n + n ≤ blk.cells.length ∧ (blk.cells.drop (off + i * n)).take n = cs.map (absV W) ∧ ∃ y, DataW.trod enc P W 0 (fun _ => true) held k e cs = some y := fun i hi => by
        obtain ⟨cs, hc, hy⟩ := hx i (by omega)
        obtain ⟨q1, q2, blk', q3, q4, q5⟩ := mir_at hn hc
        have ea : (⟨b, off, none⟩ : Addr).add (i * n) = ⟨b, off + i * n, none⟩ := add_none _ _ _
        rw [ea] at q3 q4 q5
        replace q3 : hget (mirror W) b = some blk' := q3
        replace q4 : off + i * n + n ≤ blk'.cells.length := q4
        replace q5 : (blk'.cells.drop (off + i * n)).take n = cs.map (absV W) := q5
        rw [s3] at q3; cases q3
        exact ⟨cs, q4, q5, _, hy⟩
      have hle : off + len * n ≤ blk.cells.length := by
        obtain ⟨_, q, _⟩ := cell (len - 1) (by omega)
        obtain ⟨l', rfl⟩ : ∃ l', len = l' + 1 := ⟨len - 1, by omega⟩
        simp only [Nat.add_sub_cancel] at q
        rw [Nat.succ_mul]; omega
      have la : lay n (mirror W) (.slice (some ⟨b, off, none⟩) len m) = some ((blk.cells.drop off).take (len * n)) := by
        obtain ⟨l', rfl⟩ : ∃ l', len = l' + 1 := ⟨len - 1, by omega⟩
        unfold lay
        simp only [s3]
        rw [if_pos ⟨hl, hle⟩]
      obtain ⟨xs, hxs⟩ := many_ex (sz := n) (dec := dec) len ((blk.cells.drop off).take (len * n)) (fun i hi => by
        obtain ⟨cs, q1, q2, y, q3⟩ := cell i hi
        obtain ⟨z, hz⟩ := hdec k cs y q3
        refine ⟨z, ?_⟩
        rw [List.drop_take, List.take_take, List.drop_drop]
        have : n ≤ len * n - i * n := by rw [← Nat.sub_mul]; exact Nat.le_mul_of_pos_left _ (by omega)
        rw [Nat.min_eq_left this, q2]
        exact hz)
      refine ⟨xs, ?_, ?_⟩
      · rw [ev]
        unfold listAt
        rw [la]
        exact hxs
      · rw [(many_get hxs).1]; omega
theorem kmatch_base : ∀ {ks : List Ki} {cs : List Value}, kmatch ks cs → cs.all isBase = true
  | [], [], _ => rfl
  | .b :: ks, cs, h => by
    match cs, h with
    | .bool _ :: r, h => simp only [List.all_cons, isBase, Bool.true_and]; exact kmatch_base (ks := ks) h
  | .i k :: ks, cs, h => by
    match cs, h with
    | .int _ _ :: r, h => simp only [List.all_cons, isBase, Bool.true_and]; exact kmatch_base (ks := ks) h.2
  | .s :: ks, cs, h => by
    match cs, h with
    | .string _ :: r, h => simp only [List.all_cons, isBase, Bool.true_and]; exact kmatch_base (ks := ks) h.2
end
end Go.Eng.K
end
section
set_option linter.unusedVariables false
set_option linter.unusedSimpArgs false
set_option linter.unusedSectionVars false
namespace Go.Eng
structure Pt where
  (s1 : Bool) (l1 : List UInt8) (s2 : Bool) (l2 : List UInt8) (s3 : Bool) (l3 : List UInt8) (s4 : Bool) (l4 : List UInt8)
deriving DecidableEq
namespace Pt
def x (p : Pt) : Int := sv p.s1 p.l1
def y (p : Pt) : Int := sv p.s2 p.l2
def z (p : Pt) : Int := sv p.s3 p.l3
def w (p : Pt) : Int := sv p.s4 p.l4
def on (p q r : Pt) : Prop := flt p.x p.y p.z p.w q.x q.y q.z q.w r.x r.y r.z r.w
instance {p q r : Pt} : Decidable (on p q r) := by unfold on; infer_instance
def ok (p : Pt) : Prop := (p.l1.length ≤ 65536 ∧ p.l2.length ≤ 65536 ∧ p.l3.length ≤ 65536 ∧ p.l4.length ≤ 65536) ∧ 0 < p.w
instance {p : Pt} : Decidable p.ok := by unfold ok; infer_instance
end Pt
end Go.Eng
end
section
set_option linter.unusedVariables false
set_option linter.unusedSimpArgs false
set_option linter.unusedSectionVars false
namespace Go.Eng
namespace Pt
def dflt : Pt := ⟨false, [], false, [], false, [], false, []⟩
def sz (k : Nat) (p : Pt) : Prop := p.l1.length ≤ k ∧ p.l2.length ≤ k ∧ p.l3.length ≤ k ∧ p.l4.length ≤ k
instance {k : Nat} {p : Pt} : Decidable (p.sz k) := by unfold sz; infer_instance
end Pt
def ptAt (l : List Pt) (i : Nat) : Pt := (l[i]?).getD Pt.dflt
def awx (a b : Pt) : Int := b.x * a.w - a.x * b.w
def awy (a b : Pt) : Int := b.y * a.w - a.y * b.w
def awz (a b : Pt) : Int := b.z * a.w - a.z * b.w
def lftZ (P a b x : Pt) : Int :=
  0 + P.x * (awy a b * awz a x - awz a b * awy a x) + P.y * (awz a b * awx a x - awx a b * awz a x) + P.z * (awx a b * awy a x - awy a b * awx a x)
def turnsP (P : Pt) (l : List Pt) : Prop := ∀ i, i < l.length → ∀ j, j < l.length → j ≠ i → j ≠ (i + 1) % l.length → 0 < lftZ P (ptAt l i) (ptAt l ((i + 1) % l.length)) (ptAt l j)
instance {P : Pt} {l : List Pt} : Decidable (turnsP P l) := by unfold turnsP; infer_instance
end Go.Eng
end
section
set_option linter.unusedVariables false
set_option linter.unusedSimpArgs false
set_option linter.unusedSectionVars false
namespace Go.Eng.K
open Go.Eng
section
variable {H : Type} {enc : TypeId × Value → H} {P : Program}
def sumL : List Nat → Nat
  | [] => 0
  | x :: r => x + sumL r
variable (bulk : DataW H → Nat) (b1 : ∀ b : List UInt8, b.length ≤ bulk (.lit (.string b))) (b2 : ∀ ps : List (DataW H), sumL (ps.map bulk) ≤ bulk (.agg ps))
include b1 b2 in
include b1 b2 in
end
end Go.Eng.K
end
section
set_option linter.unusedVariables false
set_option linter.unusedSimpArgs false
set_option linter.unusedSectionVars false
namespace Go.Eng.K
open Go.Eng Go.WideShapes
section
variable {H : Type} {enc : TypeId × Value → H} {P : Program}
end
end Go.Eng.K
end
section
set_option linter.unusedVariables false
set_option linter.unusedSimpArgs false
set_option linter.unusedSectionVars false
namespace Go.Eng.K
open Go.Eng Go.WideShapes
section
variable {H : Type} {enc : TypeId × Value → H} {P : Program}
theorem km_p {cs : List Value} (h : kmatch [.b, .s, .s, .b, .s, .s] cs) : ∃ p : PQ, cs = pcl p := by
  match cs, h with
  | [.bool s, .string ⟨⟨n⟩⟩, .string ⟨⟨d⟩⟩, .bool s', .string ⟨⟨n'⟩⟩, .string ⟨⟨d'⟩⟩], _ => exact ⟨(⟨s, n, d⟩, ⟨s', n', d'⟩), rfl⟩
theorem pts_trod {W : World} {fuel : Nat} {tv tp : TypeId} {sv : Value} {x : DataW H × List MemPlace} (hv : P.underlying tv = some (.slice tp)) (hq : kiTy P 20 tp = some [.b, .s, .s, .b, .s, .s]) (hs : szOf P tp = some 6)
    (h : DataW.trod enc P W 0 (fun _ => true) true fuel tv [sv] = some x) : ∃ l, decPts (mirror W) (absV W sv) = some l ∧ l.length ≤ maxLen :=
  mir_list (dec := dec2) (n := 6) hv (cellsOf_sz hs) (by omega) h (fun m cs y hy => by
    obtain ⟨km, _, _⟩ := plain_ty m 20 tp _ 6 hq hs rfl W 0 _ true _ y hy
    obtain ⟨q, eq⟩ := km_p km
    rw [absV_bases (kmatch_base km), eq]
    exact ⟨q, rfl⟩)
theorem open_pts {W : World} {base : Nat} {t tp : TypeId} {v : Value} {d : DataW H} {ps : List MemPlace} (hv : P.underlying t = some (.slice tp)) (hq : kiTy P 20 tp = some [.b, .s, .s, .b, .s, .s]) (hs : szOf P tp = some 6)
    (hval : Value.okWide P W .any base t v) (h : DataW.Trod enc P W 0 (fun _ => true) true t v d ps) : ∃ l, decPts (mirror W) (absV W v) = some l ∧ l.length ≤ maxLen := by
  obtain ⟨a, len, cap, rfl⟩ := okWide_slice hv hval
  obtain ⟨fuel, h⟩ := h
  exact pts_trod hv hq hs h
end
end Go.Eng.K
end
