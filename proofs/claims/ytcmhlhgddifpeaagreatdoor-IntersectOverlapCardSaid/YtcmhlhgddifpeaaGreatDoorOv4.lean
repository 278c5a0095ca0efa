/-
  A part of the proof: the machine, the contracts of the functions and the plain laws, merged from smaller texts.
-/
import Derived.Test.YtcmhlhgddifpeaaGreatDoorOv3
import Derived.RowKit3
import Derived.ChangeSame
section
set_option linter.unusedVariables false
set_option linter.unusedSimpArgs false
set_option linter.unusedSectionVars false
set_option maxRecDepth 20000
namespace Go.Eng
open Go Go.Proofs Go.IntWalk
def spLnThrough : List Value → Option Value
  | [.agg ⟨[.bool s1, .string ⟨⟨l1⟩⟩, .bool s2, .string ⟨⟨l2⟩⟩, .bool s3, .string ⟨⟨l3⟩⟩, .bool s4, .string ⟨⟨l4⟩⟩]⟩, .agg ⟨[.bool t1, .string ⟨⟨m1⟩⟩, .bool t2, .string ⟨⟨m2⟩⟩, .bool t3, .string ⟨⟨m3⟩⟩, .bool t4, .string ⟨⟨m4⟩⟩]⟩, .agg ⟨[.bool q1, .string ⟨⟨k1⟩⟩, .bool q2, .string ⟨⟨k2⟩⟩, .bool q3, .string ⟨⟨k3⟩⟩, .bool q4, .string ⟨⟨k4⟩⟩]⟩] =>
    if l1.length ≤ 1073741824 ∧ l2.length ≤ 1073741824 ∧ l3.length ≤ 1073741824 ∧ l4.length ≤ 1073741824 ∧ m1.length ≤ 1073741824 ∧ m2.length ≤ 1073741824 ∧ m3.length ≤ 1073741824 ∧ m4.length ≤ 1073741824 ∧ k1.length ≤ 1073741824 ∧ k2.length ≤ 1073741824 ∧ k3.length ≤ 1073741824 ∧ k4.length ≤ 1073741824 then
      (if (thC (sv s1 l1) (sv s2 l2) (sv s3 l3) (sv s4 l4) (sv t1 m1) (sv t2 m2) (sv t3 m3) (sv t4 m4) (sv q1 k1) (sv q2 k2) (sv q3 k3) (sv q4 k4)).x = 0 ∧ (thC (sv s1 l1) (sv s2 l2) (sv s3 l3) (sv s4 l4) (sv t1 m1) (sv t2 m2) (sv t3 m3) (sv t4 m4) (sv q1 k1) (sv q2 k2) (sv q3 k3) (sv q4 k4)).y = 0 ∧ (thC (sv s1 l1) (sv s2 l2) (sv s3 l3) (sv s4 l4) (sv t1 m1) (sv t2 m2) (sv t3 m3) (sv t4 m4) (sv q1 k1) (sv q2 k2) (sv q3 k3) (sv q4 k4)).z = 0 then some (.tuple ⟨[.agg ⟨pZ⟩, .bool false]⟩)
        else some (.tuple ⟨[.agg ⟨lE (thC (sv s1 l1) (sv s2 l2) (sv s3 l3) (sv s4 l4) (sv t1 m1) (sv t2 m2) (sv t3 m3) (sv t4 m4) (sv q1 k1) (sv q2 k2) (sv q3 k3) (sv q4 k4)).x (thC (sv s1 l1) (sv s2 l2) (sv s3 l3) (sv s4 l4) (sv t1 m1) (sv t2 m2) (sv t3 m3) (sv t4 m4) (sv q1 k1) (sv q2 k2) (sv q3 k3) (sv q4 k4)).y (thC (sv s1 l1) (sv s2 l2) (sv s3 l3) (sv s4 l4) (sv t1 m1) (sv t2 m2) (sv t3 m3) (sv t4 m4) (sv q1 k1) (sv q2 k2) (sv q3 k3) (sv q4 k4)).z (thC (sv s1 l1) (sv s2 l2) (sv s3 l3) (sv s4 l4) (sv t1 m1) (sv t2 m2) (sv t3 m3) (sv t4 m4) (sv q1 k1) (sv q2 k2) (sv q3 k3) (sv q4 k4)).w⟩, .bool true]⟩)) else none
  | _ => none
def c58 : ICode :=
  (.seq (.reg [qq 3 (.box 30 8 (.t 0)), qq 4 (.box 30 8 (.t 1)), qq 5 (.box 30 8 (.t 2)), qq 6 (.alloc 25 8 [(.bool false), e0, (.bool false), e0, (.bool false), e0, (.bool false), e0]), qq 7 (.mv (.c (.bool false)))]) (.seq (.dreg [qu 15 (.load true 8 (.t 3)), qu 16 (.load true 8 (.t 4)), qu 17 (.call 99 [(.t 15), (.t 16)]), qv 18 [2] (.load true 8 (.t 3)), qv 19 [2] (.load true 8 (.t 5)), qu 20 (.call 99 [(.t 18), (.t 19)]), qu 8 (.alloc 59 6 [(.bool false), e0, (.bool false), e0, (.bool false), e0]), qu 9 (.alloc 59 6 [(.bool false), e0, (.bool false), e0, (.bool false), e0]), qm (.store 6 (.t 8) (.t 17)), qm (.store 6 (.t 9) (.t 20))]) (.seq (.reg [qq 10 (.alloc 108 8 [(.bool false), e0, (.bool false), e0, (.bool false), e0, (.bool false), e0])]) (.seq (.seq (.reg [qq 21 (.mv (ci 0))]) (.block 0 (.loop (.seq (.reg [qq 22 (.bin .lss (.t 21) (ci 3))]) (.seq (.cond (.t 22) .skip (.exit 0)) (.seq (.block 1 (.seq (.reg [qq 23 (.mv (.t 21)), qq 11 (.mv (.t 23))]) (.seq (.reg [qq 24 (.mv (.t 11)), qq 25 (.bin .add (.t 24) (ci 1)), qq 26 (.bin .rem (.t 25) (ci 3)), qq 27 (.mv (.t 11)), qq 28 (.bin .add (.t 27) (ci 2)), qq 29 (.bin .rem (.t 28) (ci 3)), qq 12 (.mv (.t 26)), qq 13 (.mv (.t 29))]) (.dreg [qu 30 (.mv (.t 11)), qu 31 (.mv (.t 12)), qu 32 (.ixarr 3 2 (.t 8) (.t 31)), qu 33 (.load true 2 (.t 32)), qu 34 (.mv (.t 13)), qu 35 (.ixarr 3 2 (.t 8) (.t 34)), qu 36 (.load true 2 (.t 35)), qu 37 (.mv (.t 12)), qu 38 (.ixarr 3 2 (.t 9) (.t 37)), qu 39 (.load true 2 (.t 38)), qu 40 (.mv (.t 13)), qu 41 (.ixarr 3 2 (.t 9) (.t 40)), qu 42 (.load true 2 (.t 41)), qu 43 (.call 100 [(.t 33), (.t 36), (.t 39), (.t 42)]), qu 44 (.ixarr 4 2 (.t 10) (.t 30)), qm (.store 2 (.t 44) (.t 43))])))) (.reg [qq 45 (.bin .add (.t 21) (ci 1)), qq 21 (.mv (.t 45))]))))))) (.seq (.dreg [qu 46 (.ixarr 4 2 (.t 10) (ci 0)), qu 47 (.load true 2 (.t 46)), qu 48 (.faddr 0 (.t 3)), qu 49 (.load true 2 (.t 48)), qu 50 (.call 35 [(.t 47), (.t 49)]), qu 51 (.ixarr 4 2 (.t 10) (ci 1)), qv 52 [4] (.load true 2 (.t 51)), qu 53 (.faddr 2 (.t 3)), qv 54 [4] (.load true 2 (.t 53)), qu 55 (.call 35 [(.t 52), (.t 54)]), qu 56 (.call 34 [(.t 50), (.t 55)]), qu 57 (.ixarr 4 2 (.t 10) (ci 2)), qv 58 [4, 9, 10] (.load true 2 (.t 57)), qu 59 (.faddr 4 (.t 3)), qv 60 [4, 9, 10] (.load true 2 (.t 59)), qu 61 (.call 35 [(.t 58), (.t 60)]), qu 62 (.call 34 [(.t 56), (.t 61)]), qu 63 (.ixarr 4 2 (.t 10) (ci 3)), qm (.store 2 (.t 63) (.t 62))]) (.seq (.seq (.reg [qq 64 (.mv (ci 0))]) (.block 2 (.loop (.seq (.reg [qq 65 (.bin .lss (.t 64) (ci 3))]) (.seq (.cond (.t 65) .skip (.exit 2)) (.seq (.block 3 (.seq (.reg [qq 66 (.mv (.t 64)), qq 14 (.mv (.t 66))]) (.dreg [qu 67 (.mv (.t 14)), qu 68 (.mv (.t 14)), qu 69 (.ixarr 4 2 (.t 10) (.t 68)), qu 70 (.load true 2 (.t 69)), qu 71 (.faddr 6 (.t 3)), qu 72 (.load true 2 (.t 71)), qu 73 (.call 35 [(.t 70), (.t 72)]), qu 74 (.ixarr 4 2 (.t 10) (.t 67)), qm (.store 2 (.t 74) (.t 73))]))) (.reg [qq 75 (.bin .add (.t 64) (ci 1)), qq 64 (.mv (.t 75))]))))))) (.seq (.reg [qq 76 (.load true 8 (.t 10)), qq 77 (.call 102 [(.t 76)]), qq 78 (.call 101 [(.t 77)]), qq 79 (.ext (.t 78) 0), qq 80 (.ext (.t 78) 1), qn (.store 8 (.t 6) (.t 79)), qq 7 (.mv (.t 80))]) .ret)))))))
theorem tr58 : trFun Tryz.prog 58 = some ⟨81, [.cell 6 true 8, .t 7], c58⟩ := by kernel_rfl
set_option maxHeartbeats 4000000 in
theorem ok_lnThrough : SpecOK Tryz.prog 58 (flat spLnThrough) := by
  refine flat_run (env_cons ok_lnAway (env_cons ok_lnMinor (env_cons ok_iMul (env_cons ok_iAdd (env_cons ok_lnOf (env_cons ok_lnNorm (env_nil _))))))) mixed tr58 ?_
  intro args v h N hG
  unfold spLnThrough at hG
  split at hG
  case h_2 => cases hG
  rename_i s1 l1 s2 l2 s3 l3 s4 l4 t1 m1 t2 m2 t3 m3 t4 m4 q1 k1 q2 k2 q3 k3 q4 k4
  split at hG
  case isFalse => cases hG
  rename_i hl
  obtain ⟨h1, h2, h3, h4, h5, h6, h7, h8, h9, h10, h11, h12⟩ := hl
  have a1 := len_sv (s := s1) h1
  have a2 := len_sv (s := s2) h2
  have a3 := len_sv (s := s3) h3
  have a4 := len_sv (s := s4) h4
  have b1 := len_sv (s := t1) h5
  have b2 := len_sv (s := t2) h6
  have b3 := len_sv (s := t3) h7
  have b4 := len_sv (s := t4) h8
  have d1 := len_sv (s := q1) h9
  have d2 := len_sv (s := q2) h10
  have d3 := len_sv (s := q3) h11
  have d4 := len_sv (s := q4) h12
  have g1 : l1.length ≤ 17179869184 := by omega
  have g2 : l2.length ≤ 17179869184 := by omega
  have g3 : l3.length ≤ 17179869184 := by omega
  have g4 : l4.length ≤ 17179869184 := by omega
  have g5 : m1.length ≤ 17179869184 := by omega
  have g6 : m2.length ≤ 17179869184 := by omega
  have g7 : m3.length ≤ 17179869184 := by omega
  have g8 : m4.length ≤ 17179869184 := by omega
  have g9 : k1.length ≤ 17179869184 := by omega
  have g10 : k2.length ≤ 17179869184 := by omega
  have g11 : k3.length ≤ 17179869184 := by omega
  have g12 : k4.length ≤ 17179869184 := by omega
  have f1 : l1.length ≤ 34359738368 := by omega
  have f2 : l2.length ≤ 34359738368 := by omega
  have f3 : l3.length ≤ 34359738368 := by omega
  have f4 : l4.length ≤ 34359738368 := by omega
  obtain ⟨A1, eA1⟩ : ∃ x, sv s1 l1 = x := ⟨_, rfl⟩
  obtain ⟨A2, eA2⟩ : ∃ x, sv s2 l2 = x := ⟨_, rfl⟩
  obtain ⟨A3, eA3⟩ : ∃ x, sv s3 l3 = x := ⟨_, rfl⟩
  obtain ⟨A4, eA4⟩ : ∃ x, sv s4 l4 = x := ⟨_, rfl⟩
  obtain ⟨B1, eB1⟩ : ∃ x, sv t1 m1 = x := ⟨_, rfl⟩
  obtain ⟨B2, eB2⟩ : ∃ x, sv t2 m2 = x := ⟨_, rfl⟩
  obtain ⟨B3, eB3⟩ : ∃ x, sv t3 m3 = x := ⟨_, rfl⟩
  obtain ⟨B4, eB4⟩ : ∃ x, sv t4 m4 = x := ⟨_, rfl⟩
  obtain ⟨D1, eD1⟩ : ∃ x, sv q1 k1 = x := ⟨_, rfl⟩
  obtain ⟨D2, eD2⟩ : ∃ x, sv q2 k2 = x := ⟨_, rfl⟩
  obtain ⟨D3, eD3⟩ : ∃ x, sv q3 k3 = x := ⟨_, rfl⟩
  obtain ⟨D4, eD4⟩ : ∃ x, sv q4 k4 = x := ⟨_, rfl⟩
  rw [eA1, eA2, eA3, eA4, eB1, eB2, eB3, eB4, eD1, eD2, eD3, eD4] at hG
  rw [eA1] at a1; rw [eA2] at a2; rw [eA3] at a3; rw [eA4] at a4
  rw [eB1] at b1; rw [eB2] at b2; rw [eB3] at b3; rw [eB4] at b4
  rw [eD1] at d1; rw [eD2] at d2; rw [eD3] at d3; rw [eD4] at d4
  have lu : ∀ {x y w v : Int}, (bl x.natAbs).length ≤ 1073741824 → (bl y.natAbs).length ≤ 1073741824 → (bl w.natAbs).length ≤ 1073741824 → (bl v.natAbs).length ≤ 1073741824 → (bl (y * w - x * v).natAbs).length ≤ 4294967296 :=
    fun hx hy hw hv => lsub (lmul (k := 2147483648) hy hw (by omega)) (lmul (k := 2147483648) hx hv (by omega)) (by omega)
  have u1 := lu a1 b1 a4 b4
  have u2 := lu a2 b2 a4 b4
  have u3 := lu a3 b3 a4 b4
  have v1 := lu a1 d1 a4 d4
  have v2 := lu a2 d2 a4 d4
  have v3 := lu a3 d3 a4 d4
  clear lu
  unfold thC thN aw at hG
  obtain ⟨U1, eU1⟩ : ∃ x, B1 * A4 - A1 * B4 = x := ⟨_, rfl⟩
  obtain ⟨U2, eU2⟩ : ∃ x, B2 * A4 - A2 * B4 = x := ⟨_, rfl⟩
  obtain ⟨U3, eU3⟩ : ∃ x, B3 * A4 - A3 * B4 = x := ⟨_, rfl⟩
  obtain ⟨V1, eV1⟩ : ∃ x, D1 * A4 - A1 * D4 = x := ⟨_, rfl⟩
  obtain ⟨V2, eV2⟩ : ∃ x, D2 * A4 - A2 * D4 = x := ⟨_, rfl⟩
  obtain ⟨V3, eV3⟩ : ∃ x, D3 * A4 - A3 * D4 = x := ⟨_, rfl⟩
  rw [eU1] at u1; rw [eU2] at u2; rw [eU3] at u3; rw [eV1] at v1; rw [eV2] at v2; rw [eV3] at v3
  rw [eU1, eU2, eU3, eV1, eV2, eV3] at hG
  have ln : ∀ {x y w v : Int}, (bl x.natAbs).length ≤ 4294967296 → (bl y.natAbs).length ≤ 4294967296 → (bl w.natAbs).length ≤ 4294967296 → (bl v.natAbs).length ≤ 4294967296 → (bl (x * v - y * w).natAbs).length ≤ 17179869184 :=
    fun hx hy hw hv => lsub (lmul (k := 8589934592) hx hv (by omega)) (lmul (k := 8589934592) hy hw (by omega)) (by omega)
  have n1 := ln u2 u3 v2 v3
  have n2 := ln u3 u1 v3 v1
  have n3 := ln u1 u2 v1 v2
  clear ln
  obtain ⟨N1, eN1⟩ : ∃ x, U2 * V3 - U3 * V2 = x := ⟨_, rfl⟩
  obtain ⟨N2, eN2⟩ : ∃ x, U3 * V1 - U1 * V3 = x := ⟨_, rfl⟩
  obtain ⟨N3, eN3⟩ : ∃ x, U1 * V2 - U2 * V1 = x := ⟨_, rfl⟩
  rw [eN1] at n1; rw [eN2] at n2; rw [eN3] at n3
  rw [eN1, eN2, eN3] at hG
  have lp : ∀ {x y : Int}, (bl x.natAbs).length ≤ 17179869184 → (bl y.natAbs).length ≤ 1073741824 → (bl (x * y).natAbs).length ≤ 25769803776 :=
    fun hx hy => lmul hx hy (by omega)
  have p1 := lp n1 a1
  have p2 := lp n2 a2
  have p3 := lp n3 a3
  have r1 := lle (k := 34359738368) (lp n1 a4) (by omega)
  have r2 := lle (k := 34359738368) (lp n2 a4) (by omega)
  have r3 := lle (k := 34359738368) (lp n3 a4) (by omega)
  clear lp
  have x1 := lle (k := 68719476736) p1 (by omega)
  have x2 := lle (k := 68719476736) p2 (by omega)
  have x3 := lle (k := 68719476736) p3 (by omega)
  have y1 := ladd (k := 25769803777) p1 p2 (by omega)
  have y2 := lle (k := 68719476736) y1 (by omega)
  have y3 := ladd (k := 34359738368) y1 p3 (by omega)
  have o1 := lle (k := 34359738368) n1 (by omega)
  have o2 := lle (k := 34359738368) n2 (by omega)
  have o3 := lle (k := 34359738368) n3 (by omega)
  have e1 := lle (k := 17179869184) u1 (by omega)
  have e2 := lle (k := 17179869184) u2 (by omega)
  have e3 := lle (k := 17179869184) u3 (by omega)
  have e4 := lle (k := 17179869184) v1 (by omega)
  have e5 := lle (k := 17179869184) v2 (by omega)
  have e6 := lle (k := 17179869184) v3 (by omega)
  clear a1 a2 a3 a4 b1 b2 b3 b4 d1 d2 d3 d4 u1 u2 u3 v1 v2 v3 n1 n2 n3 p1 p2 p3 y1
  have w1 : IntKind.i64.wrap 1 = 1 := i64_in _ (by omega)
  have w2 : IntKind.i64.wrap 2 = 2 := i64_in _ (by omega)
  have w3 : IntKind.i64.wrap 3 = 3 := i64_in _ (by omega)
  have w4 : IntKind.i64.wrap 4 = 4 := i64_in _ (by omega)
  have i1 : Int.tmod 1 3 = 1 := rfl
  have i2 : Int.tmod 2 3 = 2 := rfl
  have i3 : Int.tmod 3 3 = 0 := rfl
  have i4 : Int.tmod 4 3 = 1 := rfl
  split at hG
  · rename_i h0
    have hh := eq_true h0
    cases hG
    refine ⟨rfl, by simp, ?_⟩
    simp only [c58, G0, Nat.reduceAdd]
    simp only [↓R0, R1, simprocAttr, -Int.reduceAbs, spLnAway, g1, g2, g3, g4, g5, g6, g7, g8, g9, g10, g11, g12, eA1, eA2, eA3, eA4, eB1, eB2, eB3, eB4, eD1, eD2, eD3, eD4, eU1, eU2, eU3, eV1, eV2, eV3, tE, iE]
    refine lp_step ?_
    simp only [↓R0, R1, simprocAttr, -Int.reduceAbs, e1, e2, e3, e4, e5, e6, eN1, eN2, eN3, w1, w2, w3, w4, i1, i2, i3, i4, spLnMinor, iE]
    refine lp_step ?_
    simp only [↓R0, R1, simprocAttr, -Int.reduceAbs, e1, e2, e3, e4, e5, e6, eN1, eN2, eN3, w1, w2, w3, w4, i1, i2, i3, i4, spLnMinor, iE]
    refine lp_step ?_
    simp only [↓R0, R1, simprocAttr, -Int.reduceAbs, e1, e2, e3, e4, e5, e6, eN1, eN2, eN3, w1, w2, w3, w4, i1, i2, i3, i4, spLnMinor, iE]
    refine lp_step ?_
    simp only [↓R0, R1, simprocAttr, -Int.reduceAbs, o1, o2, o3, f1, f2, f3, f4, eA1, eA2, eA3, eA4, x1, x2, x3, y2, spIMul, spIAdd, iE]
    refine lp_step ?_
    simp only [↓R0, R1, simprocAttr, -Int.reduceAbs, o1, o2, o3, f1, f2, f3, f4, eA1, eA2, eA3, eA4, w1, w2, w3, spIMul, iE]
    refine lp_step ?_
    simp only [↓R0, R1, simprocAttr, -Int.reduceAbs, o1, o2, o3, f1, f2, f3, f4, eA1, eA2, eA3, eA4, w1, w2, w3, spIMul, iE]
    refine lp_step ?_
    simp only [↓R0, R1, simprocAttr, -Int.reduceAbs, o1, o2, o3, f1, f2, f3, f4, eA1, eA2, eA3, eA4, w1, w2, w3, spIMul, iE]
    refine lp_step ?_
    simp only [↓R0, R1, simprocAttr, -Int.reduceAbs, spId8, spLnNorm, r1, r2, r3, y3, hh, pZ, lE, Fin, isEnd, resL, res1, iE, rE]
    exact ⟨_, rfl, rfl, fun k hk => by simp only [ne_nb hk, if_false]⟩
  · rename_i h0
    have hh := eq_false h0
    cases hG
    refine ⟨rfl, by simp, ?_⟩
    simp only [c58, G0, Nat.reduceAdd]
    simp only [↓R0, R1, simprocAttr, -Int.reduceAbs, spLnAway, g1, g2, g3, g4, g5, g6, g7, g8, g9, g10, g11, g12, eA1, eA2, eA3, eA4, eB1, eB2, eB3, eB4, eD1, eD2, eD3, eD4, eU1, eU2, eU3, eV1, eV2, eV3, tE, iE]
    refine lp_step ?_
    simp only [↓R0, R1, simprocAttr, -Int.reduceAbs, e1, e2, e3, e4, e5, e6, eN1, eN2, eN3, w1, w2, w3, w4, i1, i2, i3, i4, spLnMinor, iE]
    refine lp_step ?_
    simp only [↓R0, R1, simprocAttr, -Int.reduceAbs, e1, e2, e3, e4, e5, e6, eN1, eN2, eN3, w1, w2, w3, w4, i1, i2, i3, i4, spLnMinor, iE]
    refine lp_step ?_
    simp only [↓R0, R1, simprocAttr, -Int.reduceAbs, e1, e2, e3, e4, e5, e6, eN1, eN2, eN3, w1, w2, w3, w4, i1, i2, i3, i4, spLnMinor, iE]
    refine lp_step ?_
    simp only [↓R0, R1, simprocAttr, -Int.reduceAbs, o1, o2, o3, f1, f2, f3, f4, eA1, eA2, eA3, eA4, x1, x2, x3, y2, spIMul, spIAdd, iE]
    refine lp_step ?_
    simp only [↓R0, R1, simprocAttr, -Int.reduceAbs, o1, o2, o3, f1, f2, f3, f4, eA1, eA2, eA3, eA4, w1, w2, w3, spIMul, iE]
    refine lp_step ?_
    simp only [↓R0, R1, simprocAttr, -Int.reduceAbs, o1, o2, o3, f1, f2, f3, f4, eA1, eA2, eA3, eA4, w1, w2, w3, spIMul, iE]
    refine lp_step ?_
    simp only [↓R0, R1, simprocAttr, -Int.reduceAbs, o1, o2, o3, f1, f2, f3, f4, eA1, eA2, eA3, eA4, w1, w2, w3, spIMul, iE]
    refine lp_step ?_
    simp only [↓R0, R1, simprocAttr, -Int.reduceAbs, spId8, spLnNorm, r1, r2, r3, y3, hh, pZ, lE, Fin, isEnd, resL, res1, iE, rE]
    exact ⟨_, rfl, rfl, fun k hk => by simp only [ne_nb hk, if_false]⟩
end Go.Eng
end
section
set_option linter.unusedVariables false
set_option linter.unusedSimpArgs false
set_option linter.unusedSectionVars false
set_option maxRecDepth 20000
namespace Go.Eng
open Go Go.Proofs Go.IntWalk
def spXCollin : List Value → Option Value
  | [.agg ⟨[.bool s1, .string ⟨⟨l1⟩⟩, .bool s2, .string ⟨⟨l2⟩⟩, .bool s3, .string ⟨⟨l3⟩⟩, .bool s4, .string ⟨⟨l4⟩⟩]⟩, .agg ⟨[.bool t1, .string ⟨⟨m1⟩⟩, .bool t2, .string ⟨⟨m2⟩⟩, .bool t3, .string ⟨⟨m3⟩⟩, .bool t4, .string ⟨⟨m4⟩⟩]⟩, .agg ⟨[.bool q1, .string ⟨⟨k1⟩⟩, .bool q2, .string ⟨⟨k2⟩⟩, .bool q3, .string ⟨⟨k3⟩⟩, .bool q4, .string ⟨⟨k4⟩⟩]⟩] =>
    if (l1.length ≤ 67108864 ∧ l2.length ≤ 67108864 ∧ l3.length ≤ 67108864 ∧ l4.length ≤ 67108864 ∧ m1.length ≤ 67108864 ∧ m2.length ≤ 67108864 ∧ m3.length ≤ 67108864 ∧ m4.length ≤ 67108864 ∧ k1.length ≤ 67108864 ∧ k2.length ≤ 67108864 ∧ k3.length ≤ 67108864 ∧ k4.length ≤ 67108864) ∧ sv s4 l4 ≠ 0 then
      some (.bool (decide (flt (sv s1 l1) (sv s2 l2) (sv s3 l3) (sv s4 l4) (sv t1 m1) (sv t2 m2) (sv t3 m3) (sv t4 m4) (sv q1 k1) (sv q2 k2) (sv q3 k3) (sv q4 k4)))) else none
  | _ => none
def c19 : ICode :=
  (.seq (.reg [qq 3 (.box 30 8 (.t 0)), qq 4 (.box 30 8 (.t 1)), qq 5 (.box 30 8 (.t 2)), qq 6 (.mv (.c (.bool false)))]) (.seq (.reg [qq 10 (.load true 8 (.t 3)), qq 11 (.load true 8 (.t 4)), qq 12 (.load true 8 (.t 5)), qq 13 (.call 58 [(.t 10), (.t 11), (.t 12)]), qq 9 (.mv (.t 13)), qq 14 (.ext (.t 9) 0), qq 15 (.ext (.t 9) 1), qq 7 (.alloc 25 8 [(.bool false), e0, (.bool false), e0, (.bool false), e0, (.bool false), e0]), qn (.store 8 (.t 7) (.t 14)), qq 8 (.mv (.t 15))]) (.seq (.reg [qq 16 (.mv (.t 8)), qq 17 (.un .not (.t 16)), qq 6 (.mv (.t 17))]) .ret)))
theorem tr19 : trFun Tryz.prog 19 = some ⟨18, [.t 6], c19⟩ := by kernel_rfl
set_option maxHeartbeats 2000000 in
theorem ok_xCollin : SpecOK Tryz.prog 19 (flat spXCollin) := by
  refine flat_run (env_cons ok_lnThrough (env_nil _)) mixed tr19 ?_
  intro args v h N hG
  unfold spXCollin at hG
  split at hG
  case h_2 => cases hG
  rename_i s1 l1 s2 l2 s3 l3 s4 l4 t1 m1 t2 m2 t3 m3 t4 m4 q1 k1 q2 k2 q3 k3 q4 k4
  split at hG
  case isFalse => cases hG
  rename_i hl
  obtain ⟨⟨h1, h2, h3, h4, h5, h6, h7, h8, h9, h10, h11, h12⟩, hne⟩ := hl
  have hF := thC_zero (a1 := sv s1 l1) (a2 := sv s2 l2) (a3 := sv s3 l3) (b1 := sv t1 m1) (b2 := sv t2 m2) (b3 := sv t3 m3) (b4 := sv t4 m4) (c1 := sv q1 k1) (c2 := sv q2 k2) (c3 := sv q3 k3) (c4 := sv q4 k4) hne
  obtain ⟨T, hT⟩ : ∃ T, thC (sv s1 l1) (sv s2 l2) (sv s3 l3) (sv s4 l4) (sv t1 m1) (sv t2 m2) (sv t3 m3) (sv t4 m4) (sv q1 k1) (sv q2 k2) (sv q3 k3) (sv q4 k4) = T := ⟨_, rfl⟩
  rw [hT] at hF
  obtain ⟨x, y, z, w⟩ := T
  simp only at hF
  have g1 : l1.length ≤ 1073741824 := by omega
  have g2 : l2.length ≤ 1073741824 := by omega
  have g3 : l3.length ≤ 1073741824 := by omega
  have g4 : l4.length ≤ 1073741824 := by omega
  have g5 : m1.length ≤ 1073741824 := by omega
  have g6 : m2.length ≤ 1073741824 := by omega
  have g7 : m3.length ≤ 1073741824 := by omega
  have g8 : m4.length ≤ 1073741824 := by omega
  have g9 : k1.length ≤ 1073741824 := by omega
  have g10 : k2.length ≤ 1073741824 := by omega
  have g11 : k3.length ≤ 1073741824 := by omega
  have g12 : k4.length ≤ 1073741824 := by omega
  cases hG
  refine ⟨rfl, by simp, ?_⟩
  by_cases h0 : x = 0 ∧ y = 0 ∧ z = 0
  · have hd := eq_true (hF ▸ h0)
    have hh := eq_true h0
    simp only [c19, G0, Nat.reduceAdd]
    simp only [↓R0, R1, simprocAttr, -Int.reduceAbs, spLnThrough, g1, g2, g3, g4, g5, g6, g7, g8, g9, g10, g11, g12, hT, hh, pZ, hd, Bool.not_false, Bool.not_true, Fin, isEnd, resL, res1, iE, rE]
    exact ⟨_, rfl, rfl, fun k hk => by simp only [ne_nb hk, if_false]⟩
  · have hh := eq_false h0
    have hd := eq_false (hF ▸ h0)
    simp only [c19, G0, Nat.reduceAdd]
    simp only [↓R0, R1, simprocAttr, -Int.reduceAbs, spLnThrough, g1, g2, g3, g4, g5, g6, g7, g8, g9, g10, g11, g12, hT, hh, lE, hd, Bool.not_false, Bool.not_true, Fin, isEnd, resL, res1, iE, rE]
    exact ⟨_, rfl, rfl, fun k hk => by simp only [ne_nb hk, if_false]⟩
end Go.Eng
end
section
set_option linter.unusedVariables false
set_option linter.unusedSimpArgs false
set_option linter.unusedSectionVars false
namespace Go.Eng
def lex3 (x y z : Int) : Int := if x.sign = 0 then (if y.sign = 0 then z.sign else y.sign) else x.sign
def cmp4 (a1 a2 a3 a4 b1 b2 b3 b4 : Int) : Int := lex3 (a1 * b4 - b1 * a4) (a2 * b4 - b2 * a4) (a3 * b4 - b3 * a4)
theorem sg_cases (x : Int) : (x.sign = 1 ∧ 0 < x) ∨ (x.sign = 0 ∧ x = 0) ∨ (x.sign = -1 ∧ x < 0) := by
  rcases Int.lt_trichotomy x 0 with h | h | h
  · exact .inr (.inr ⟨Int.sign_eq_neg_one_of_neg h, h⟩)
  · exact .inr (.inl ⟨by rw [h]; rfl, h⟩)
  · exact .inl ⟨Int.sign_eq_one_of_pos h, h⟩
theorem lex3_neg (x y z : Int) : lex3 (-x) (-y) (-z) = -lex3 x y z := by
  unfold lex3
  rw [Int.sign_neg, Int.sign_neg, Int.sign_neg]
  rcases sg_cases x with ⟨h, _⟩ | ⟨h, _⟩ | ⟨h, _⟩ <;> rcases sg_cases y with ⟨g, _⟩ | ⟨g, _⟩ | ⟨g, _⟩ <;> rcases sg_cases z with ⟨k, _⟩ | ⟨k, _⟩ | ⟨k, _⟩ <;> rw [h, g, k] <;> decide
theorem lex3_zero {x y z : Int} (h : lex3 x y z = 0) : x = 0 ∧ y = 0 ∧ z = 0 := by
  unfold lex3 at h
  rcases sg_cases x with ⟨e, p⟩ | ⟨e, p⟩ | ⟨e, p⟩ <;> rcases sg_cases y with ⟨g, q⟩ | ⟨g, q⟩ | ⟨g, q⟩ <;> rcases sg_cases z with ⟨k, r⟩ | ⟨k, r⟩ | ⟨k, r⟩ <;> rw [e, g, k] at h <;> first | exact ⟨p, q, r⟩ | exact absurd h (by decide)
theorem cmp4_neg (a1 a2 a3 a4 b1 b2 b3 b4 : Int) : cmp4 b1 b2 b3 b4 a1 a2 a3 a4 = -cmp4 a1 a2 a3 a4 b1 b2 b3 b4 := by
  unfold cmp4; rw [← lex3_neg, Int.neg_sub, Int.neg_sub, Int.neg_sub]
theorem cmp4_zero {a1 a2 a3 a4 b1 b2 b3 b4 : Int} (h : cmp4 a1 a2 a3 a4 b1 b2 b3 b4 = 0) : a1 * b4 = b1 * a4 ∧ a2 * b4 = b2 * a4 ∧ a3 * b4 = b3 * a4 := by
  obtain ⟨h1, h2, h3⟩ := lex3_zero h
  exact ⟨by omega, by omega, by omega⟩
section
variable {x b a m n p : Int}
end
def btw (a1 a2 a3 a4 b1 b2 b3 b4 x1 x2 x3 x4 : Int) : Prop :=
  (¬ cmp4 a1 a2 a3 a4 x1 x2 x3 x4 = 0) ∧ cmp4 a1 a2 a3 a4 x1 x2 x3 x4 = cmp4 x1 x2 x3 x4 b1 b2 b3 b4 ∧ flt a1 a2 a3 a4 b1 b2 b3 b4 x1 x2 x3 x4
instance {a1 a2 a3 a4 b1 b2 b3 b4 x1 x2 x3 x4 : Int} : Decidable (btw a1 a2 a3 a4 b1 b2 b3 b4 x1 x2 x3 x4) := by unfold btw; infer_instance
theorem num_sign {q : Rat} {n d : Int} (h : q = Rat.divInt n d) (hd : 0 < d) : q.num.sign = n.sign := by
  have hq : 0 < (q.den : Int) := by have := q.den_pos; omega
  have e : q.num * d = n * q.den := (Rat.divInt_eq_divInt_iff (by omega) (by omega)).1 (by rw [← h]; exact Rat.num_divInt_den q)
  rw [← sign_pos_mul (x := q.num) hd, e, sign_pos_mul hq]
theorem sub_sign {a c : Int} {b d : Int} (hb : 0 < b) (hd : 0 < d) : (Rat.divInt a b - Rat.divInt c d).num.sign = (a * d - c * b).sign := by
  refine num_sign (d := b * d) ?_ (Int.mul_pos hb hd)
  have e1 : (b : Rat) ≠ 0 := fun e => by have : b = 0 := by exact_mod_cast e
                                         omega
  have e2 : (d : Rat) ≠ 0 := fun e => by have : d = 0 := by exact_mod_cast e
                                         omega
  simp only [Rat.divInt_eq_div, Rat.intCast_sub, Rat.intCast_mul]
  generalize (b : Rat) = B at *
  generalize (d : Rat) = D at *
  grind
end Go.Eng
end
section
set_option linter.unusedVariables false
set_option linter.unusedSimpArgs false
set_option linter.unusedSectionVars false
set_option maxRecDepth 20000
namespace Go.Eng
open Go Go.Proofs Go.IntWalk
theorem pQ_cross {x y z w x' y' z' w' a a' : Int} (hw : 0 < w) (hw' : 0 < w') (ha : (pG x y z w : Int) ∣ a) (ha' : (pG x' y' z' w' : Int) ∣ a') :
    (pQ x y z w a * pQ x' y' z' w' w' - pQ x' y' z' w' a' * pQ x y z w w).sign = (a * w' - a' * w).sign := by
  have h1 := pQ_mul ha
  have h2 := pQ_mul ha'
  have h3 := pQ_mul (pG_dvd_w x y z w)
  have h4 := pQ_mul (pG_dvd_w x' y' z' w')
  have g1 := pG_pos x y z w
  have g2 := pG_pos x' y' z' w'
  rw [pW_of (by omega : w ≠ 0)] at h1 h3
  rw [pW_of (by omega : w' ≠ 0)] at h2 h4
  rw [if_neg (by omega)] at h1 h2 h3 h4
  have g1' : 0 < (pG x y z w : Int) := by omega
  have g2' : 0 < (pG x' y' z' w' : Int) := by omega
  generalize (pG x y z w : Int) = g at *
  generalize (pG x' y' z' w' : Int) = g' at *
  generalize pQ x y z w a = A at *
  generalize pQ x y z w w = W at *
  generalize pQ x' y' z' w' a' = A' at *
  generalize pQ x' y' z' w' w' = W' at *
  rw [← sign_pos_mul (x := A * W' - A' * W) (Int.mul_pos g1' g2')]
  have e : (A * W' - A' * W) * (g * g') = a * w' - a' * w := by grind
  rw [e]
def spPCmp : List Value → Option Value
  | [.agg ⟨[.bool s1, .string ⟨⟨l1⟩⟩, .bool s2, .string ⟨⟨l2⟩⟩, .bool s3, .string ⟨⟨l3⟩⟩, .bool s4, .string ⟨⟨l4⟩⟩]⟩, .agg ⟨[.bool t1, .string ⟨⟨m1⟩⟩, .bool t2, .string ⟨⟨m2⟩⟩, .bool t3, .string ⟨⟨m3⟩⟩, .bool t4, .string ⟨⟨m4⟩⟩]⟩] =>
    if (l1.length ≤ 65536 ∧ l2.length ≤ 65536 ∧ l3.length ≤ 65536 ∧ l4.length ≤ 65536 ∧ m1.length ≤ 65536 ∧ m2.length ≤ 65536 ∧ m3.length ≤ 65536 ∧ m4.length ≤ 65536) ∧ 0 < (sv s4 l4) ∧ 0 < (sv t4 m4) then some (.int .i64 (cmp4 (sv s1 l1) (sv s2 l2) (sv s3 l3) (sv s4 l4) (sv t1 m1) (sv t2 m2) (sv t3 m3) (sv t4 m4))) else none
  | _ => none
def c28 : ICode :=
  (.seq (.reg [qq 2 (.box 30 8 (.t 0)), qq 3 (.box 30 8 (.t 1)), qq 4 (.mv (ci 0))]) (.seq (.dreg [qu 10 (.load true 8 (.t 2)), qu 11 (.call 75 [(.t 10)]), qv 12 [1] (.load true 8 (.t 3)), qu 13 (.call 75 [(.t 12)]), qm (.store 8 (.t 2) (.t 11)), qm (.store 8 (.t 3) (.t 13))]) (.seq (.dreg [qu 14 (.faddr 0 (.t 2)), qu 15 (.load true 2 (.t 14)), qu 16 (.faddr 2 (.t 2)), qu 17 (.load true 2 (.t 16)), qu 18 (.faddr 4 (.t 2)), qu 19 (.load true 2 (.t 18)), qu 20 (.build [(.bool false), e0, (.bool false), e0, (.bool false), e0] [(0, 2, (.t 15)), (2, 2, (.t 17)), (4, 2, (.t 19))]), qu 21 (.faddr 0 (.t 3)), qu 22 (.load true 2 (.t 21)), qu 23 (.faddr 2 (.t 3)), qu 24 (.load true 2 (.t 23)), qu 25 (.faddr 4 (.t 3)), qu 26 (.load true 2 (.t 25)), qu 27 (.build [(.bool false), e0, (.bool false), e0, (.bool false), e0] [(0, 2, (.t 22)), (2, 2, (.t 24)), (4, 2, (.t 26))]), qu 5 (.alloc 59 6 [(.bool false), e0, (.bool false), e0, (.bool false), e0]), qu 6 (.alloc 59 6 [(.bool false), e0, (.bool false), e0, (.bool false), e0]), ⟨none, none, [1008, 1010, 1012], (.store 6 (.t 5) (.t 20))⟩, qm (.store 6 (.t 6) (.t 27))]) (.seq (.seq (.reg [qq 28 (.load true 6 (.t 5)), qq 29 (.mv (ci 0))]) (.block 0 (.loop (.seq (.reg [qq 30 (.bin .lss (.t 29) (ci 3))]) (.seq (.cond (.t 30) .skip (.exit 0)) (.seq (.block 1 (.seq (.reg [qq 31 (.mv (.t 29)), qq 32 (.idarr 3 true 2 (.t 28) (.t 29)), qq 8 (.alloc 23 2 [(.bool false), e0]), qq 7 (.mv (.t 31)), qn (.store 2 (.t 8) (.t 32))]) (.seq (.dreg [qu 33 (.load true 2 (.t 8)), qu 34 (.faddr 6 (.t 3)), qu 35 (.load true 2 (.t 34)), qu 36 (.call 35 [(.t 33), (.t 35)]), qu 37 (.mv (.t 7)), qu 38 (.ixarr 3 2 (.t 6) (.t 37)), qv 39 [3] (.load true 2 (.t 38)), qu 40 (.faddr 6 (.t 2)), qv 41 [3] (.load true 2 (.t 40)), qu 42 (.call 35 [(.t 39), (.t 41)]), qu 43 (.call 76 [(.t 36), (.t 42)]), qu 9 (.mv (.t 43))]) (.seq (.reg [qq 44 (.mv (.t 9)), qq 45 (.bin .neq (.t 44) (ci 0))]) (.cond (.t 45) (.seq (.reg [qq 46 (.mv (.t 9)), qq 4 (.mv (.t 46))]) .ret) .skip))))) (.reg [qq 47 (.bin .add (.t 29) (ci 1)), qq 29 (.mv (.t 47))]))))))) (.seq (.reg [qq 4 (.mv (ci 0))]) .ret)))))
theorem tr28 : trFun Tryz.prog 28 = some ⟨48, [.t 4], c28⟩ := by kernel_rfl
set_option maxHeartbeats 4000000 in
theorem ok_pCmp : SpecOK Tryz.prog 28 (flat spPCmp) := by
  refine flat_run (env_cons ok_pNorm (env_cons ok_iMul (env_cons ok_iCmp (env_nil _)))) mixed tr28 ?_
  intro args v h N hG
  unfold spPCmp at hG
  split at hG
  case h_2 => cases hG
  rename_i s1 l1 s2 l2 s3 l3 s4 l4 t1 m1 t2 m2 t3 m3 t4 m4
  split at hG
  case isFalse => cases hG
  rename_i hl
  obtain ⟨⟨ha1, ha2, ha3, ha4, hb1, hb2, hb3, hb4⟩, pa, pb⟩ := hl
  have ga1 : l1.length ≤ 34359738368 := by omega
  have ea1 := len_sv (s := s1) ha1
  obtain ⟨a1, fa1⟩ : ∃ z, sv s1 l1 = z := ⟨_, rfl⟩
  rw [fa1] at ea1 hG
  have ga2 : l2.length ≤ 34359738368 := by omega
  have ea2 := len_sv (s := s2) ha2
  obtain ⟨a2, fa2⟩ : ∃ z, sv s2 l2 = z := ⟨_, rfl⟩
  rw [fa2] at ea2 hG
  have ga3 : l3.length ≤ 34359738368 := by omega
  have ea3 := len_sv (s := s3) ha3
  obtain ⟨a3, fa3⟩ : ∃ z, sv s3 l3 = z := ⟨_, rfl⟩
  rw [fa3] at ea3 hG
  have ga4 : l4.length ≤ 34359738368 := by omega
  have ea4 := len_sv (s := s4) ha4
  obtain ⟨a4, fa4⟩ : ∃ z, sv s4 l4 = z := ⟨_, rfl⟩
  rw [fa4] at ea4 hG
  rw [fa4] at pa
  have pwa := pW_of (by omega : a4 ≠ 0)
  have gb1 : m1.length ≤ 34359738368 := by omega
  have eb1 := len_sv (s := t1) hb1
  obtain ⟨b1, fb1⟩ : ∃ z, sv t1 m1 = z := ⟨_, rfl⟩
  rw [fb1] at eb1 hG
  have gb2 : m2.length ≤ 34359738368 := by omega
  have eb2 := len_sv (s := t2) hb2
  obtain ⟨b2, fb2⟩ : ∃ z, sv t2 m2 = z := ⟨_, rfl⟩
  rw [fb2] at eb2 hG
  have gb3 : m3.length ≤ 34359738368 := by omega
  have eb3 := len_sv (s := t3) hb3
  obtain ⟨b3, fb3⟩ : ∃ z, sv t3 m3 = z := ⟨_, rfl⟩
  rw [fb3] at eb3 hG
  have gb4 : m4.length ≤ 34359738368 := by omega
  have eb4 := len_sv (s := t4) hb4
  obtain ⟨b4, fb4⟩ : ∃ z, sv t4 m4 = z := ⟨_, rfl⟩
  rw [fb4] at eb4 hG
  rw [fb4] at pb
  have pwb := pW_of (by omega : b4 ≠ 0)
  have sg1 := pQ_cross pa pb (pG_dvd_x a1 a2 a3 a4) (pG_dvd_x b1 b2 b3 b4)
  have sg2 := pQ_cross pa pb (pG_dvd_y a1 a2 a3 a4) (pG_dvd_y b1 b2 b3 b4)
  have sg3 := pQ_cross pa pb (pG_dvd_z a1 a2 a3 a4) (pG_dvd_z b1 b2 b3 b4)
  have na1 := pQ_len (x := a1) (y := a2) (z := a3) (w := a4) ea1
  obtain ⟨A1, ca1⟩ : ∃ z, pQ a1 a2 a3 a4 a1 = z := ⟨_, rfl⟩
  rw [ca1] at na1
  have na2 := pQ_len (x := a1) (y := a2) (z := a3) (w := a4) ea2
  obtain ⟨A2, ca2⟩ : ∃ z, pQ a1 a2 a3 a4 a2 = z := ⟨_, rfl⟩
  rw [ca2] at na2
  have na3 := pQ_len (x := a1) (y := a2) (z := a3) (w := a4) ea3
  obtain ⟨A3, ca3⟩ : ∃ z, pQ a1 a2 a3 a4 a3 = z := ⟨_, rfl⟩
  rw [ca3] at na3
  have na4 := pQ_len (x := a1) (y := a2) (z := a3) (w := a4) ea4
  obtain ⟨A4, ca4⟩ : ∃ z, pQ a1 a2 a3 a4 a4 = z := ⟨_, rfl⟩
  rw [ca4] at na4
  have nb1 := pQ_len (x := b1) (y := b2) (z := b3) (w := b4) eb1
  obtain ⟨B1, cb1⟩ : ∃ z, pQ b1 b2 b3 b4 b1 = z := ⟨_, rfl⟩
  rw [cb1] at nb1
  have nb2 := pQ_len (x := b1) (y := b2) (z := b3) (w := b4) eb2
  obtain ⟨B2, cb2⟩ : ∃ z, pQ b1 b2 b3 b4 b2 = z := ⟨_, rfl⟩
  rw [cb2] at nb2
  have nb3 := pQ_len (x := b1) (y := b2) (z := b3) (w := b4) eb3
  obtain ⟨B3, cb3⟩ : ∃ z, pQ b1 b2 b3 b4 b3 = z := ⟨_, rfl⟩
  rw [cb3] at nb3
  have nb4 := pQ_len (x := b1) (y := b2) (z := b3) (w := b4) eb4
  obtain ⟨B4, cb4⟩ : ∃ z, pQ b1 b2 b3 b4 b4 = z := ⟨_, rfl⟩
  rw [cb4] at nb4
  rw [ca1, ca4, cb1, cb4] at sg1
  rw [ca2, ca4, cb2, cb4] at sg2
  rw [ca3, ca4, cb3, cb4] at sg3
  have ka1 := lle (k := 34359738368) na1 (by omega)
  have ka2 := lle (k := 34359738368) na2 (by omega)
  have ka3 := lle (k := 34359738368) na3 (by omega)
  have ka4 := lle (k := 34359738368) na4 (by omega)
  have kb1 := lle (k := 34359738368) nb1 (by omega)
  have kb2 := lle (k := 34359738368) nb2 (by omega)
  have kb3 := lle (k := 34359738368) nb3 (by omega)
  have kb4 := lle (k := 34359738368) nb4 (by omega)
  have u1 := lmul (k := 68719476736) na1 nb4 (by omega)
  have v1 := lmul (k := 68719476736) nb1 na4 (by omega)
  have u2 := lmul (k := 68719476736) na2 nb4 (by omega)
  have v2 := lmul (k := 68719476736) nb2 na4 (by omega)
  have u3 := lmul (k := 68719476736) na3 nb4 (by omega)
  have v3 := lmul (k := 68719476736) nb3 na4 (by omega)
  unfold cmp4 lex3 at hG
  rw [← sg1, ← sg2, ← sg3] at hG
  have w1 : IntKind.i64.wrap 1 = 1 := i64_in _ (by omega)
  have w2 : IntKind.i64.wrap 2 = 2 := i64_in _ (by omega)
  have w3 : IntKind.i64.wrap 3 = 3 := i64_in _ (by omega)
  obtain ⟨S1, eS1⟩ : ∃ z, (A1 * B4 - B1 * A4).sign = z := ⟨_, rfl⟩
  rw [eS1] at hG
  obtain ⟨S2, eS2⟩ : ∃ z, (A2 * B4 - B2 * A4).sign = z := ⟨_, rfl⟩
  rw [eS2] at hG
  obtain ⟨S3, eS3⟩ : ∃ z, (A3 * B4 - B3 * A4).sign = z := ⟨_, rfl⟩
  rw [eS3] at hG
  clear sg1 sg2 sg3 na1 ea1 na2 ea2 na3 ea3 na4 ea4 nb1 eb1 nb2 eb2 nb3 eb3 nb4 eb4
  by_cases z1 : S1 = 0
  case neg =>
    simp only [z1, if_false, reduceCtorEq] at hG
    cases hG
    refine ⟨rfl, by simp, ?_⟩
    simp only [c28, G0, Nat.reduceAdd]
    simp only [↓R0, R1, simprocAttr, -Int.reduceAbs, spPNorm, pE, iE, ga1, fa1, ga2, fa2, ga3, fa3, ga4, fa4, pwa, gb1, fb1, gb2, fb2, gb3, fb3, gb4, fb4, pwb, ca1, ca2, ca3, ca4, cb1, cb2, cb3, cb4, ka1, ka2, ka3, ka4, kb1, kb2, kb3, kb4, u1, v1, u2, v2, u3, v3, eS1, eS2, eS3, w1, w2, w3]
    refine lp_step ?_
    simp only [↓R0, R1, simprocAttr, -Int.reduceAbs, spIMul, spICmp, iE, z1, not_true_eq_false, not_false_eq_true, ga1, fa1, ga2, fa2, ga3, fa3, ga4, fa4, pwa, gb1, fb1, gb2, fb2, gb3, fb3, gb4, fb4, pwb, ca1, ca2, ca3, ca4, cb1, cb2, cb3, cb4, ka1, ka2, ka3, ka4, kb1, kb2, kb3, kb4, u1, v1, u2, v2, u3, v3, eS1, eS2, eS3, w1, w2, w3, Fin, isEnd, resL, res1, iE, rE]
    exact ⟨_, rfl, rfl, fun k hk => by simp only [ne_nb hk, if_false]⟩
  by_cases z2 : S2 = 0
  case neg =>
    simp only [z2, if_false, z1, if_true, reduceCtorEq] at hG
    cases hG
    refine ⟨rfl, by simp, ?_⟩
    simp only [c28, G0, Nat.reduceAdd]
    simp only [↓R0, R1, simprocAttr, -Int.reduceAbs, spPNorm, pE, iE, ga1, fa1, ga2, fa2, ga3, fa3, ga4, fa4, pwa, gb1, fb1, gb2, fb2, gb3, fb3, gb4, fb4, pwb, ca1, ca2, ca3, ca4, cb1, cb2, cb3, cb4, ka1, ka2, ka3, ka4, kb1, kb2, kb3, kb4, u1, v1, u2, v2, u3, v3, eS1, eS2, eS3, w1, w2, w3]
    refine lp_step ?_
    simp only [↓R0, R1, simprocAttr, -Int.reduceAbs, spIMul, spICmp, iE, z1, z2, not_true_eq_false, not_false_eq_true, ga1, fa1, ga2, fa2, ga3, fa3, ga4, fa4, pwa, gb1, fb1, gb2, fb2, gb3, fb3, gb4, fb4, pwb, ca1, ca2, ca3, ca4, cb1, cb2, cb3, cb4, ka1, ka2, ka3, ka4, kb1, kb2, kb3, kb4, u1, v1, u2, v2, u3, v3, eS1, eS2, eS3, w1, w2, w3]
    refine lp_step ?_
    simp only [↓R0, R1, simprocAttr, -Int.reduceAbs, spIMul, spICmp, iE, z1, z2, not_true_eq_false, not_false_eq_true, ga1, fa1, ga2, fa2, ga3, fa3, ga4, fa4, pwa, gb1, fb1, gb2, fb2, gb3, fb3, gb4, fb4, pwb, ca1, ca2, ca3, ca4, cb1, cb2, cb3, cb4, ka1, ka2, ka3, ka4, kb1, kb2, kb3, kb4, u1, v1, u2, v2, u3, v3, eS1, eS2, eS3, w1, w2, w3, Fin, isEnd, resL, res1, iE, rE]
    exact ⟨_, rfl, rfl, fun k hk => by simp only [ne_nb hk, if_false]⟩
  by_cases z3 : S3 = 0
  case neg =>
    simp only [z3, if_false, z1, if_true, z2, if_true, reduceCtorEq] at hG
    cases hG
    refine ⟨rfl, by simp, ?_⟩
    simp only [c28, G0, Nat.reduceAdd]
    simp only [↓R0, R1, simprocAttr, -Int.reduceAbs, spPNorm, pE, iE, ga1, fa1, ga2, fa2, ga3, fa3, ga4, fa4, pwa, gb1, fb1, gb2, fb2, gb3, fb3, gb4, fb4, pwb, ca1, ca2, ca3, ca4, cb1, cb2, cb3, cb4, ka1, ka2, ka3, ka4, kb1, kb2, kb3, kb4, u1, v1, u2, v2, u3, v3, eS1, eS2, eS3, w1, w2, w3]
    refine lp_step ?_
    simp only [↓R0, R1, simprocAttr, -Int.reduceAbs, spIMul, spICmp, iE, z1, z2, z3, not_true_eq_false, not_false_eq_true, ga1, fa1, ga2, fa2, ga3, fa3, ga4, fa4, pwa, gb1, fb1, gb2, fb2, gb3, fb3, gb4, fb4, pwb, ca1, ca2, ca3, ca4, cb1, cb2, cb3, cb4, ka1, ka2, ka3, ka4, kb1, kb2, kb3, kb4, u1, v1, u2, v2, u3, v3, eS1, eS2, eS3, w1, w2, w3]
    refine lp_step ?_
    simp only [↓R0, R1, simprocAttr, -Int.reduceAbs, spIMul, spICmp, iE, z1, z2, z3, not_true_eq_false, not_false_eq_true, ga1, fa1, ga2, fa2, ga3, fa3, ga4, fa4, pwa, gb1, fb1, gb2, fb2, gb3, fb3, gb4, fb4, pwb, ca1, ca2, ca3, ca4, cb1, cb2, cb3, cb4, ka1, ka2, ka3, ka4, kb1, kb2, kb3, kb4, u1, v1, u2, v2, u3, v3, eS1, eS2, eS3, w1, w2, w3]
    refine lp_step ?_
    simp only [↓R0, R1, simprocAttr, -Int.reduceAbs, spIMul, spICmp, iE, z1, z2, z3, not_true_eq_false, not_false_eq_true, ga1, fa1, ga2, fa2, ga3, fa3, ga4, fa4, pwa, gb1, fb1, gb2, fb2, gb3, fb3, gb4, fb4, pwb, ca1, ca2, ca3, ca4, cb1, cb2, cb3, cb4, ka1, ka2, ka3, ka4, kb1, kb2, kb3, kb4, u1, v1, u2, v2, u3, v3, eS1, eS2, eS3, w1, w2, w3, Fin, isEnd, resL, res1, iE, rE]
    exact ⟨_, rfl, rfl, fun k hk => by simp only [ne_nb hk, if_false]⟩
  simp only [z1, z2, z3, if_true] at hG
  cases hG
  refine ⟨rfl, by simp, ?_⟩
  simp only [c28, G0, Nat.reduceAdd]
  simp only [↓R0, R1, simprocAttr, -Int.reduceAbs, spPNorm, pE, iE, ga1, fa1, ga2, fa2, ga3, fa3, ga4, fa4, pwa, gb1, fb1, gb2, fb2, gb3, fb3, gb4, fb4, pwb, ca1, ca2, ca3, ca4, cb1, cb2, cb3, cb4, ka1, ka2, ka3, ka4, kb1, kb2, kb3, kb4, u1, v1, u2, v2, u3, v3, eS1, eS2, eS3, w1, w2, w3]
  refine lp_step ?_
  simp only [↓R0, R1, simprocAttr, -Int.reduceAbs, spIMul, spICmp, iE, z1, z2, z3, not_true_eq_false, not_false_eq_true, ga1, fa1, ga2, fa2, ga3, fa3, ga4, fa4, pwa, gb1, fb1, gb2, fb2, gb3, fb3, gb4, fb4, pwb, ca1, ca2, ca3, ca4, cb1, cb2, cb3, cb4, ka1, ka2, ka3, ka4, kb1, kb2, kb3, kb4, u1, v1, u2, v2, u3, v3, eS1, eS2, eS3, w1, w2, w3]
  refine lp_step ?_
  simp only [↓R0, R1, simprocAttr, -Int.reduceAbs, spIMul, spICmp, iE, z1, z2, z3, not_true_eq_false, not_false_eq_true, ga1, fa1, ga2, fa2, ga3, fa3, ga4, fa4, pwa, gb1, fb1, gb2, fb2, gb3, fb3, gb4, fb4, pwb, ca1, ca2, ca3, ca4, cb1, cb2, cb3, cb4, ka1, ka2, ka3, ka4, kb1, kb2, kb3, kb4, u1, v1, u2, v2, u3, v3, eS1, eS2, eS3, w1, w2, w3]
  refine lp_step ?_
  simp only [↓R0, R1, simprocAttr, -Int.reduceAbs, spIMul, spICmp, iE, z1, z2, z3, not_true_eq_false, not_false_eq_true, ga1, fa1, ga2, fa2, ga3, fa3, ga4, fa4, pwa, gb1, fb1, gb2, fb2, gb3, fb3, gb4, fb4, pwb, ca1, ca2, ca3, ca4, cb1, cb2, cb3, cb4, ka1, ka2, ka3, ka4, kb1, kb2, kb3, kb4, u1, v1, u2, v2, u3, v3, eS1, eS2, eS3, w1, w2, w3]
  refine lp_step ?_
  simp only [↓R0, R1, simprocAttr, -Int.reduceAbs, Fin, isEnd, resL, res1, iE, rE]
  exact ⟨_, rfl, rfl, fun k hk => by simp only [ne_nb hk, if_false]⟩
def spR4Cmp : List Value → Option Value
  | [.agg ⟨[.bool s1, .string ⟨⟨l1⟩⟩, .bool s2, .string ⟨⟨l2⟩⟩, .bool s3, .string ⟨⟨l3⟩⟩, .bool s4, .string ⟨⟨l4⟩⟩]⟩, .agg ⟨[.bool t1, .string ⟨⟨m1⟩⟩, .bool t2, .string ⟨⟨m2⟩⟩, .bool t3, .string ⟨⟨m3⟩⟩, .bool t4, .string ⟨⟨m4⟩⟩]⟩] =>
    if (l1.length ≤ 65536 ∧ l2.length ≤ 65536 ∧ l3.length ≤ 65536 ∧ l4.length ≤ 65536 ∧ m1.length ≤ 65536 ∧ m2.length ≤ 65536 ∧ m3.length ≤ 65536 ∧ m4.length ≤ 65536) ∧ 0 < (sv s4 l4) ∧ 0 < (sv t4 m4) then some (.int .i64 (cmp4 (sv s1 l1) (sv s2 l2) (sv s3 l3) (sv s4 l4) (sv t1 m1) (sv t2 m2) (sv t3 m3) (sv t4 m4))) else none
  | _ => none
def c63 : ICode :=
  (.seq (.reg [qq 2 (.box 30 8 (.t 0)), qq 3 (.box 30 8 (.t 1)), qq 4 (.mv (ci 0))]) (.seq (.dreg [qu 9 (.load true 8 (.t 2)), qu 10 (.call 57 [(.t 9)]), qv 11 [1] (.load true 8 (.t 3)), qu 12 (.call 57 [(.t 11)]), qu 5 (.alloc 67 9 [(.bool false), e0, e0, (.bool false), e0, e0, (.bool false), e0, e0]), qu 6 (.alloc 67 9 [(.bool false), e0, e0, (.bool false), e0, e0, (.bool false), e0, e0]), qm (.store 9 (.t 5) (.t 10)), qm (.store 9 (.t 6) (.t 12))]) (.seq (.seq (.reg [qq 13 (.mv (ci 0))]) (.block 0 (.loop (.seq (.reg [qq 14 (.bin .lss (.t 13) (ci 3))]) (.seq (.cond (.t 14) .skip (.exit 0)) (.seq (.block 1 (.seq (.reg [qq 15 (.mv (.t 13)), qq 7 (.mv (.t 15))]) (.seq (.dreg [qu 16 (.mv (.t 7)), qu 17 (.ixarr 3 3 (.t 5) (.t 16)), qu 18 (.load true 3 (.t 17)), qu 19 (.mv (.t 7)), qu 20 (.ixarr 3 3 (.t 6) (.t 19)), qu 21 (.load true 3 (.t 20)), qu 22 (.call 107 [(.t 18), (.t 21)]), qu 8 (.mv (.t 22))]) (.seq (.reg [qq 23 (.mv (.t 8)), qq 24 (.bin .neq (.t 23) (ci 0))]) (.cond (.t 24) (.seq (.reg [qq 25 (.mv (.t 8)), qq 4 (.mv (.t 25))]) .ret) .skip))))) (.reg [qq 26 (.bin .add (.t 13) (ci 1)), qq 13 (.mv (.t 26))]))))))) (.seq (.reg [qq 4 (.mv (ci 0))]) .ret))))
theorem tr63 : trFun Tryz.prog 63 = some ⟨27, [.t 4], c63⟩ := by kernel_rfl
set_option maxHeartbeats 4000000 in
theorem ok_r4Cmp : SpecOK Tryz.prog 63 (flat spR4Cmp) := by
  refine flat_run (env_cons ok_r4Coords (env_cons ok_r3Cmp (env_nil _))) mixed tr63 ?_
  intro args v h N hG
  unfold spR4Cmp at hG
  split at hG
  case h_2 => cases hG
  rename_i s1 l1 s2 l2 s3 l3 s4 l4 t1 m1 t2 m2 t3 m3 t4 m4
  split at hG
  case isFalse => cases hG
  rename_i hl
  obtain ⟨⟨ha1, ha2, ha3, ha4, hb1, hb2, hb3, hb4⟩, pa, pb⟩ := hl
  have ga1 : l1.length ≤ 34359738368 := by omega
  have ea1 := len_sv (s := s1) ha1
  obtain ⟨a1, fa1⟩ : ∃ z, sv s1 l1 = z := ⟨_, rfl⟩
  rw [fa1] at ea1 hG
  have ga2 : l2.length ≤ 34359738368 := by omega
  have ea2 := len_sv (s := s2) ha2
  obtain ⟨a2, fa2⟩ : ∃ z, sv s2 l2 = z := ⟨_, rfl⟩
  rw [fa2] at ea2 hG
  have ga3 : l3.length ≤ 34359738368 := by omega
  have ea3 := len_sv (s := s3) ha3
  obtain ⟨a3, fa3⟩ : ∃ z, sv s3 l3 = z := ⟨_, rfl⟩
  rw [fa3] at ea3 hG
  have ga4 : l4.length ≤ 34359738368 := by omega
  have ea4 := len_sv (s := s4) ha4
  obtain ⟨a4, fa4⟩ : ∃ z, sv s4 l4 = z := ⟨_, rfl⟩
  rw [fa4] at ea4 hG
  rw [fa4] at pa
  have nea : a4 ≠ 0 := by omega
  have pwa := pW_of nea
  have gb1 : m1.length ≤ 34359738368 := by omega
  have eb1 := len_sv (s := t1) hb1
  obtain ⟨b1, fb1⟩ : ∃ z, sv t1 m1 = z := ⟨_, rfl⟩
  rw [fb1] at eb1 hG
  have gb2 : m2.length ≤ 34359738368 := by omega
  have eb2 := len_sv (s := t2) hb2
  obtain ⟨b2, fb2⟩ : ∃ z, sv t2 m2 = z := ⟨_, rfl⟩
  rw [fb2] at eb2 hG
  have gb3 : m3.length ≤ 34359738368 := by omega
  have eb3 := len_sv (s := t3) hb3
  obtain ⟨b3, fb3⟩ : ∃ z, sv t3 m3 = z := ⟨_, rfl⟩
  rw [fb3] at eb3 hG
  have gb4 : m4.length ≤ 34359738368 := by omega
  have eb4 := len_sv (s := t4) hb4
  obtain ⟨b4, fb4⟩ : ∃ z, sv t4 m4 = z := ⟨_, rfl⟩
  rw [fb4] at eb4 hG
  rw [fb4] at pb
  have neb : b4 ≠ 0 := by omega
  have pwb := pW_of neb
  have sg1 := sub_sign (a := a1) (c := b1) pa pb
  have sg2 := sub_sign (a := a2) (c := b2) pa pb
  have sg3 := sub_sign (a := a3) (c := b3) pa pb
  have rx1 := divInt_RB nea ea1 ea4
  obtain ⟨x1, fx1⟩ : ∃ z, Rat.divInt a1 a4 = z := ⟨_, rfl⟩
  rw [fx1] at rx1 sg1
  have Fx1n := rx1.num (k := 4294967296) (by omega)
  have Fx1d := rx1.den (k := 4294967296) (by omega)
  have rx2 := divInt_RB nea ea2 ea4
  obtain ⟨x2, fx2⟩ : ∃ z, Rat.divInt a2 a4 = z := ⟨_, rfl⟩
  rw [fx2] at rx2 sg2
  have Fx2n := rx2.num (k := 4294967296) (by omega)
  have Fx2d := rx2.den (k := 4294967296) (by omega)
  have rx3 := divInt_RB nea ea3 ea4
  obtain ⟨x3, fx3⟩ : ∃ z, Rat.divInt a3 a4 = z := ⟨_, rfl⟩
  rw [fx3] at rx3 sg3
  have Fx3n := rx3.num (k := 4294967296) (by omega)
  have Fx3d := rx3.den (k := 4294967296) (by omega)
  have ry1 := divInt_RB neb eb1 eb4
  obtain ⟨y1, fy1⟩ : ∃ z, Rat.divInt b1 b4 = z := ⟨_, rfl⟩
  rw [fy1] at ry1 sg1
  have Fy1n := ry1.num (k := 4294967296) (by omega)
  have Fy1d := ry1.den (k := 4294967296) (by omega)
  have ry2 := divInt_RB neb eb2 eb4
  obtain ⟨y2, fy2⟩ : ∃ z, Rat.divInt b2 b4 = z := ⟨_, rfl⟩
  rw [fy2] at ry2 sg2
  have Fy2n := ry2.num (k := 4294967296) (by omega)
  have Fy2d := ry2.den (k := 4294967296) (by omega)
  have ry3 := divInt_RB neb eb3 eb4
  obtain ⟨y3, fy3⟩ : ∃ z, Rat.divInt b3 b4 = z := ⟨_, rfl⟩
  rw [fy3] at ry3 sg3
  have Fy3n := ry3.num (k := 4294967296) (by omega)
  have Fy3d := ry3.den (k := 4294967296) (by omega)
  unfold cmp4 lex3 at hG
  rw [← sg1, ← sg2, ← sg3] at hG
  have w1 : IntKind.i64.wrap 1 = 1 := i64_in _ (by omega)
  have w2 : IntKind.i64.wrap 2 = 2 := i64_in _ (by omega)
  have w3 : IntKind.i64.wrap 3 = 3 := i64_in _ (by omega)
  obtain ⟨S1, eS1⟩ : ∃ z, (x1 - y1).num.sign = z := ⟨_, rfl⟩
  rw [eS1] at hG
  obtain ⟨S2, eS2⟩ : ∃ z, (x2 - y2).num.sign = z := ⟨_, rfl⟩
  rw [eS2] at hG
  obtain ⟨S3, eS3⟩ : ∃ z, (x3 - y3).num.sign = z := ⟨_, rfl⟩
  rw [eS3] at hG
  clear sg1 sg2 sg3 ea1 ea2 ea3 ea4 eb1 eb2 eb3 eb4
  by_cases z1 : S1 = 0
  case neg =>
    simp only [z1, if_false, reduceCtorEq] at hG
    cases hG
    refine ⟨rfl, by simp, ?_⟩
    simp only [c63, G0, Nat.reduceAdd]
    simp only [↓R0, R1, simprocAttr, -Int.reduceAbs, spR4Coords, r3E, rE, ga1, fa1, ga2, fa2, ga3, fa3, ga4, fa4, pwa, gb1, fb1, gb2, fb2, gb3, fb3, gb4, fb4, pwb, fx1, Fx1n, Fx1d, fx2, Fx2n, Fx2d, fx3, Fx3n, Fx3d, fy1, Fy1n, Fy1d, fy2, Fy2n, Fy2d, fy3, Fy3n, Fy3d, eS1, eS2, eS3, w1, w2, w3]
    refine lp_step ?_
    simp only [↓R0, R1, simprocAttr, -Int.reduceAbs, spR3Cmp, rv_can, rE, z1, not_true_eq_false, not_false_eq_true, ga1, fa1, ga2, fa2, ga3, fa3, ga4, fa4, pwa, gb1, fb1, gb2, fb2, gb3, fb3, gb4, fb4, pwb, fx1, Fx1n, Fx1d, fx2, Fx2n, Fx2d, fx3, Fx3n, Fx3d, fy1, Fy1n, Fy1d, fy2, Fy2n, Fy2d, fy3, Fy3n, Fy3d, eS1, eS2, eS3, w1, w2, w3, Fin, isEnd, resL, res1, iE, rE]
    exact ⟨_, rfl, rfl, fun k hk => by simp only [ne_nb hk, if_false]⟩
  by_cases z2 : S2 = 0
  case neg =>
    simp only [z2, if_false, z1, if_true, reduceCtorEq] at hG
    cases hG
    refine ⟨rfl, by simp, ?_⟩
    simp only [c63, G0, Nat.reduceAdd]
    simp only [↓R0, R1, simprocAttr, -Int.reduceAbs, spR4Coords, r3E, rE, ga1, fa1, ga2, fa2, ga3, fa3, ga4, fa4, pwa, gb1, fb1, gb2, fb2, gb3, fb3, gb4, fb4, pwb, fx1, Fx1n, Fx1d, fx2, Fx2n, Fx2d, fx3, Fx3n, Fx3d, fy1, Fy1n, Fy1d, fy2, Fy2n, Fy2d, fy3, Fy3n, Fy3d, eS1, eS2, eS3, w1, w2, w3]
    refine lp_step ?_
    simp only [↓R0, R1, simprocAttr, -Int.reduceAbs, spR3Cmp, rv_can, rE, z1, z2, not_true_eq_false, not_false_eq_true, ga1, fa1, ga2, fa2, ga3, fa3, ga4, fa4, pwa, gb1, fb1, gb2, fb2, gb3, fb3, gb4, fb4, pwb, fx1, Fx1n, Fx1d, fx2, Fx2n, Fx2d, fx3, Fx3n, Fx3d, fy1, Fy1n, Fy1d, fy2, Fy2n, Fy2d, fy3, Fy3n, Fy3d, eS1, eS2, eS3, w1, w2, w3]
    refine lp_step ?_
    simp only [↓R0, R1, simprocAttr, -Int.reduceAbs, spR3Cmp, rv_can, rE, z1, z2, not_true_eq_false, not_false_eq_true, ga1, fa1, ga2, fa2, ga3, fa3, ga4, fa4, pwa, gb1, fb1, gb2, fb2, gb3, fb3, gb4, fb4, pwb, fx1, Fx1n, Fx1d, fx2, Fx2n, Fx2d, fx3, Fx3n, Fx3d, fy1, Fy1n, Fy1d, fy2, Fy2n, Fy2d, fy3, Fy3n, Fy3d, eS1, eS2, eS3, w1, w2, w3, Fin, isEnd, resL, res1, iE, rE]
    exact ⟨_, rfl, rfl, fun k hk => by simp only [ne_nb hk, if_false]⟩
  by_cases z3 : S3 = 0
  case neg =>
    simp only [z3, if_false, z1, if_true, z2, if_true, reduceCtorEq] at hG
    cases hG
    refine ⟨rfl, by simp, ?_⟩
    simp only [c63, G0, Nat.reduceAdd]
    simp only [↓R0, R1, simprocAttr, -Int.reduceAbs, spR4Coords, r3E, rE, ga1, fa1, ga2, fa2, ga3, fa3, ga4, fa4, pwa, gb1, fb1, gb2, fb2, gb3, fb3, gb4, fb4, pwb, fx1, Fx1n, Fx1d, fx2, Fx2n, Fx2d, fx3, Fx3n, Fx3d, fy1, Fy1n, Fy1d, fy2, Fy2n, Fy2d, fy3, Fy3n, Fy3d, eS1, eS2, eS3, w1, w2, w3]
    refine lp_step ?_
    simp only [↓R0, R1, simprocAttr, -Int.reduceAbs, spR3Cmp, rv_can, rE, z1, z2, z3, not_true_eq_false, not_false_eq_true, ga1, fa1, ga2, fa2, ga3, fa3, ga4, fa4, pwa, gb1, fb1, gb2, fb2, gb3, fb3, gb4, fb4, pwb, fx1, Fx1n, Fx1d, fx2, Fx2n, Fx2d, fx3, Fx3n, Fx3d, fy1, Fy1n, Fy1d, fy2, Fy2n, Fy2d, fy3, Fy3n, Fy3d, eS1, eS2, eS3, w1, w2, w3]
    refine lp_step ?_
    simp only [↓R0, R1, simprocAttr, -Int.reduceAbs, spR3Cmp, rv_can, rE, z1, z2, z3, not_true_eq_false, not_false_eq_true, ga1, fa1, ga2, fa2, ga3, fa3, ga4, fa4, pwa, gb1, fb1, gb2, fb2, gb3, fb3, gb4, fb4, pwb, fx1, Fx1n, Fx1d, fx2, Fx2n, Fx2d, fx3, Fx3n, Fx3d, fy1, Fy1n, Fy1d, fy2, Fy2n, Fy2d, fy3, Fy3n, Fy3d, eS1, eS2, eS3, w1, w2, w3]
    refine lp_step ?_
    simp only [↓R0, R1, simprocAttr, -Int.reduceAbs, spR3Cmp, rv_can, rE, z1, z2, z3, not_true_eq_false, not_false_eq_true, ga1, fa1, ga2, fa2, ga3, fa3, ga4, fa4, pwa, gb1, fb1, gb2, fb2, gb3, fb3, gb4, fb4, pwb, fx1, Fx1n, Fx1d, fx2, Fx2n, Fx2d, fx3, Fx3n, Fx3d, fy1, Fy1n, Fy1d, fy2, Fy2n, Fy2d, fy3, Fy3n, Fy3d, eS1, eS2, eS3, w1, w2, w3, Fin, isEnd, resL, res1, iE, rE]
    exact ⟨_, rfl, rfl, fun k hk => by simp only [ne_nb hk, if_false]⟩
  simp only [z1, z2, z3, if_true] at hG
  cases hG
  refine ⟨rfl, by simp, ?_⟩
  simp only [c63, G0, Nat.reduceAdd]
  simp only [↓R0, R1, simprocAttr, -Int.reduceAbs, spR4Coords, r3E, rE, ga1, fa1, ga2, fa2, ga3, fa3, ga4, fa4, pwa, gb1, fb1, gb2, fb2, gb3, fb3, gb4, fb4, pwb, fx1, Fx1n, Fx1d, fx2, Fx2n, Fx2d, fx3, Fx3n, Fx3d, fy1, Fy1n, Fy1d, fy2, Fy2n, Fy2d, fy3, Fy3n, Fy3d, eS1, eS2, eS3, w1, w2, w3]
  refine lp_step ?_
  simp only [↓R0, R1, simprocAttr, -Int.reduceAbs, spR3Cmp, rv_can, rE, z1, z2, z3, not_true_eq_false, not_false_eq_true, ga1, fa1, ga2, fa2, ga3, fa3, ga4, fa4, pwa, gb1, fb1, gb2, fb2, gb3, fb3, gb4, fb4, pwb, fx1, Fx1n, Fx1d, fx2, Fx2n, Fx2d, fx3, Fx3n, Fx3d, fy1, Fy1n, Fy1d, fy2, Fy2n, Fy2d, fy3, Fy3n, Fy3d, eS1, eS2, eS3, w1, w2, w3]
  refine lp_step ?_
  simp only [↓R0, R1, simprocAttr, -Int.reduceAbs, spR3Cmp, rv_can, rE, z1, z2, z3, not_true_eq_false, not_false_eq_true, ga1, fa1, ga2, fa2, ga3, fa3, ga4, fa4, pwa, gb1, fb1, gb2, fb2, gb3, fb3, gb4, fb4, pwb, fx1, Fx1n, Fx1d, fx2, Fx2n, Fx2d, fx3, Fx3n, Fx3d, fy1, Fy1n, Fy1d, fy2, Fy2n, Fy2d, fy3, Fy3n, Fy3d, eS1, eS2, eS3, w1, w2, w3]
  refine lp_step ?_
  simp only [↓R0, R1, simprocAttr, -Int.reduceAbs, spR3Cmp, rv_can, rE, z1, z2, z3, not_true_eq_false, not_false_eq_true, ga1, fa1, ga2, fa2, ga3, fa3, ga4, fa4, pwa, gb1, fb1, gb2, fb2, gb3, fb3, gb4, fb4, pwb, fx1, Fx1n, Fx1d, fx2, Fx2n, Fx2d, fx3, Fx3n, Fx3d, fy1, Fy1n, Fy1d, fy2, Fy2n, Fy2d, fy3, Fy3n, Fy3d, eS1, eS2, eS3, w1, w2, w3]
  refine lp_step ?_
  simp only [↓R0, R1, simprocAttr, -Int.reduceAbs, Fin, isEnd, resL, res1, iE, rE]
  exact ⟨_, rfl, rfl, fun k hk => by simp only [ne_nb hk, if_false]⟩
end Go.Eng
end
section
set_option linter.unusedVariables false
set_option linter.unusedSimpArgs false
set_option linter.unusedSectionVars false
namespace Go.Eng
structure Pt where
  (s1 : Bool) (l1 : List UInt8) (s2 : Bool) (l2 : List UInt8) (s3 : Bool) (l3 : List UInt8) (s4 : Bool) (l4 : List UInt8)
deriving DecidableEq
namespace Pt
def cells (p : Pt) : List Value := [.bool p.s1, .string ⟨⟨p.l1⟩⟩, .bool p.s2, .string ⟨⟨p.l2⟩⟩, .bool p.s3, .string ⟨⟨p.l3⟩⟩, .bool p.s4, .string ⟨⟨p.l4⟩⟩]
def x (p : Pt) : Int := sv p.s1 p.l1
def y (p : Pt) : Int := sv p.s2 p.l2
def z (p : Pt) : Int := sv p.s3 p.l3
def w (p : Pt) : Int := sv p.s4 p.l4
def cmp (p q : Pt) : Int := cmp4 p.x p.y p.z p.w q.x q.y q.z q.w
def on (p q r : Pt) : Prop := flt p.x p.y p.z p.w q.x q.y q.z q.w r.x r.y r.z r.w
instance {p q r : Pt} : Decidable (on p q r) := by unfold on; infer_instance
def ok (p : Pt) : Prop := (p.l1.length ≤ 65536 ∧ p.l2.length ≤ 65536 ∧ p.l3.length ≤ 65536 ∧ p.l4.length ≤ 65536) ∧ 0 < p.w
instance {p : Pt} : Decidable p.ok := by unfold ok; infer_instance
def lo (p q : Pt) : Pt := if 0 < cmp p q then q else p
def hi (p q : Pt) : Pt := if 0 < cmp p q then p else q
theorem lo_ok {p q : Pt} (hp : p.ok) (hq : q.ok) : (lo p q).ok := by unfold lo; split <;> assumption
theorem hi_ok {p q : Pt} (hp : p.ok) (hq : q.ok) : (hi p q).ok := by unfold hi; split <;> assumption
theorem cmp_neg (p q : Pt) : cmp q p = -cmp p q := cmp4_neg ..
theorem cmp_self (p : Pt) : cmp p p = 0 := by have := cmp_neg p p; omega
def over (a b c d : Pt) : Option (Pt × Pt) :=
  if lo a b = hi a b ∨ lo c d = hi c d ∨ ¬ on (lo a b) (hi a b) (lo c d) ∨ ¬ on (lo a b) (hi a b) (hi c d) then none else
  if 0 ≤ cmp (hi (lo a b) (lo c d)) (lo (hi a b) (hi c d)) then none else some (hi (lo a b) (lo c d), lo (hi a b) (hi c d))
def share (a b c d : Pt) : Option (Pt × Pt) :=
  if cmp a b = 0 ∨ cmp c d = 0 ∨ ¬ on a b c ∨ ¬ on a b d then none else
  if 0 ≤ cmp (if 0 < cmp (lo c d) (lo a b) then lo c d else lo a b) (if cmp (hi c d) (hi a b) < 0 then hi c d else hi a b) then none else
  some (if 0 < cmp (lo c d) (lo a b) then lo c d else lo a b, if cmp (hi c d) (hi a b) < 0 then hi c d else hi a b)
theorem on_swap (p q r : Pt) : on q p r = on p q r := by
  unfold on flt
  have e : ∀ a1 a2 a3 b1 b2 b3 c1 c2 c3 : Int, dt3 b1 b2 b3 a1 a2 a3 c1 c2 c3 = -dt3 a1 a2 a3 b1 b2 b3 c1 c2 c3 := by intros; unfold dt3; grind
  rw [e p.y p.z p.w, e p.z p.x p.w, e p.x p.y p.w, Int.neg_eq_zero, Int.neg_eq_zero, Int.neg_eq_zero]
theorem on_sort (p q r : Pt) : on (lo p q) (hi p q) r = on p q r := by
  unfold lo hi; split
  · exact on_swap p q r
  · rfl
theorem two_sort (P : Pt → Prop) (p q : Pt) : (P (lo p q) ∧ P (hi p q)) = (P p ∧ P q) := by
  unfold lo hi; split
  · exact propext ⟨fun ⟨a, b⟩ => ⟨b, a⟩, fun ⟨a, b⟩ => ⟨b, a⟩⟩
  · rfl
theorem over_share {a b c d : Pt} (h : ∀ p q : Pt, (p = a ∨ p = b ∨ p = c ∨ p = d) → (q = a ∨ q = b ∨ q = c ∨ q = d) → cmp p q = 0 → p = q) : over a b c d = share a b c d := by
  have ma : ∀ {p q : Pt}, lo p q = p ∨ lo p q = q := fun {p q} => by unfold lo; split; exact .inr rfl; exact .inl rfl
  have mb : ∀ {p q : Pt}, hi p q = p ∨ hi p q = q := fun {p q} => by unfold hi; split; exact .inl rfl; exact .inr rfl
  have eq1 : ∀ {p q : Pt}, (lo p q = hi p q) = (p = q) := fun {p q} => by
    unfold lo hi; split
    · exact propext ⟨Eq.symm, Eq.symm⟩
    · rfl
  have z1 : ∀ {p q : Pt}, (p = a ∨ p = b ∨ p = c ∨ p = d) → (q = a ∨ q = b ∨ q = c ∨ q = d) → (p = q) = (cmp p q = 0) := fun hp hq => propext ⟨fun e => by rw [e]; exact cmp_self _, h _ _ hp hq⟩
  have hc : (lo a b = hi a b ∨ lo c d = hi c d ∨ ¬ on (lo a b) (hi a b) (lo c d) ∨ ¬ on (lo a b) (hi a b) (hi c d)) = (cmp a b = 0 ∨ cmp c d = 0 ∨ ¬ on a b c ∨ ¬ on a b d) := by
    rw [eq1, eq1, z1 (.inl rfl) (.inr (.inl rfl)), z1 (.inr (.inr (.inl rfl))) (.inr (.inr (.inr rfl))), on_sort, on_sort]
    have e := two_sort (fun r => on a b r) c d
    have nn : ∀ U V : Prop, (¬ U ∨ ¬ V) = ¬ (U ∧ V) := fun U V => propext ⟨fun h g => h.elim (fun k => k g.1) (fun k => k g.2), fun h => (Classical.em U).elim (fun u => .inr fun v => h ⟨u, v⟩) .inl⟩
    rw [nn, nn]
    exact congrArg (fun P => _ ∨ _ ∨ ¬ P) e
  unfold over share
  simp only [hc]
  split
  · rfl
  have mla : lo a b = a ∨ lo a b = b ∨ lo a b = c ∨ lo a b = d := by rcases ma (p := a) (q := b) with e | e <;> rw [e] <;> simp
  have mlc : lo c d = a ∨ lo c d = b ∨ lo c d = c ∨ lo c d = d := by rcases ma (p := c) (q := d) with e | e <;> rw [e] <;> simp
  have mha : hi a b = a ∨ hi a b = b ∨ hi a b = c ∨ hi a b = d := by rcases mb (p := a) (q := b) with e | e <;> rw [e] <;> simp
  have mhc : hi c d = a ∨ hi c d = b ∨ hi c d = c ∨ hi c d = d := by rcases mb (p := c) (q := d) with e | e <;> rw [e] <;> simp
  generalize lo a b = A at *
  generalize lo c d = C at *
  generalize hi a b = B at *
  generalize hi c d = D at *
  have k1 : (if 0 < cmp C A then C else A) = hi A C := by
    unfold hi
    have n := cmp_neg A C
    by_cases g : cmp A C = 0
    · have e := h _ _ mla mlc g
      subst e; simp
    · by_cases p : 0 < cmp A C
      · rw [if_neg (by omega), if_pos p]
      · rw [if_pos (by omega), if_neg p]
  have k2 : (if cmp D B < 0 then D else B) = lo B D := by
    unfold lo
    have n := cmp_neg B D
    by_cases p : 0 < cmp B D
    · rw [if_pos (by omega), if_pos p]
    · rw [if_neg (by omega), if_neg p]
  rw [k1, k2]
end Pt
end Go.Eng
end
section
set_option linter.unusedVariables false
set_option linter.unusedSimpArgs false
set_option linter.unusedSectionVars false
set_option maxRecDepth 20000
namespace Go.Eng
open Go Go.Proofs Go.IntWalk
theorem ceq8 {s1 l1 s2 l2 s3 l3 s4 l4 t1 m1 t2 m2 t3 m3 t4 m4} : ceq [.b, .s, .b, .s, .b, .s, .b, .s] [.bool s1, .string ⟨⟨l1⟩⟩, .bool s2, .string ⟨⟨l2⟩⟩, .bool s3, .string ⟨⟨l3⟩⟩, .bool s4, .string ⟨⟨l4⟩⟩] [.bool t1, .string ⟨⟨m1⟩⟩, .bool t2, .string ⟨⟨m2⟩⟩, .bool t3, .string ⟨⟨m3⟩⟩, .bool t4, .string ⟨⟨m4⟩⟩] =
    some (decide ((⟨s1, l1, s2, l2, s3, l3, s4, l4⟩ : Pt) = ⟨t1, m1, t2, m2, t3, m3, t4, m4⟩)) := by
  have e : ∀ a b : List UInt8, decide ((⟨⟨a⟩⟩ : ByteArray) = ⟨⟨b⟩⟩) = decide (a = b) := fun a b => by
    congr 1; exact propext ⟨fun h => by injection h with h; injection h, fun h => by rw [h]⟩
  simp only [ceq, Option.map_some, Bool.and_true, e, Option.some.injEq, Pt.mk.injEq, Bool.decide_and]
theorem pCmp_pt {p q : Pt} (hp : p.ok) (hq : q.ok) : spPCmp [.agg ⟨p.cells⟩, .agg ⟨q.cells⟩] = some (.int .i64 (Pt.cmp p q)) := by
  unfold spPCmp Pt.cells
  simp only
  rw [if_pos ⟨⟨hp.1.1, hp.1.2.1, hp.1.2.2.1, hp.1.2.2.2, hq.1.1, hq.1.2.1, hq.1.2.2.1, hq.1.2.2.2⟩, hp.2, hq.2⟩]; rfl
theorem r4Cmp_pt {p q : Pt} (hp : p.ok) (hq : q.ok) : spR4Cmp [.agg ⟨p.cells⟩, .agg ⟨q.cells⟩] = some (.int .i64 (Pt.cmp p q)) := by
  unfold spR4Cmp Pt.cells
  simp only
  rw [if_pos ⟨⟨hp.1.1, hp.1.2.1, hp.1.2.2.1, hp.1.2.2.2, hq.1.1, hq.1.2.1, hq.1.2.2.1, hq.1.2.2.2⟩, hp.2, hq.2⟩]; rfl
theorem collin_pt {p q r : Pt} (hp : p.ok) (hq : q.ok) (hr : r.ok) : spXCollin [.agg ⟨p.cells⟩, .agg ⟨q.cells⟩, .agg ⟨r.cells⟩] = some (.bool (decide (Pt.on p q r))) := by
  have n : sv p.s4 p.l4 ≠ 0 := by have := hp.2; unfold Pt.w at this; omega
  unfold spXCollin Pt.cells
  simp only
  have t := fun {n : Nat} (h : n ≤ 65536) => (Nat.le_trans h (by omega) : n ≤ 67108864)
  rw [if_pos ⟨⟨t hp.1.1, t hp.1.2.1, t hp.1.2.2.1, t hp.1.2.2.2, t hq.1.1, t hq.1.2.1, t hq.1.2.2.1, t hq.1.2.2.2, t hr.1.1, t hr.1.2.1, t hr.1.2.2.1, t hr.1.2.2.2⟩, n⟩]; rfl
theorem straight_pt {p q r : Pt} (hp : p.ok) (hq : q.ok) (hr : r.ok) : spR6Straight [.agg ⟨p.cells⟩, .agg ⟨q.cells⟩, .agg ⟨r.cells⟩] = some (.bool (decide (Pt.on p q r))) := by
  unfold spR6Straight Pt.cells
  simp only
  rw [if_pos ⟨⟨hp.1.1, hp.1.2.1, hp.1.2.2.1, hp.1.2.2.2, hq.1.1, hq.1.2.1, hq.1.2.2.1, hq.1.2.2.2, hr.1.1, hr.1.2.1, hr.1.2.2.1, hr.1.2.2.2⟩, hp.2, hq.2, hr.2⟩]; rfl
def spXSorted : List Value → Option Value
  | [.agg ⟨[.bool s1, .string ⟨⟨l1⟩⟩, .bool s2, .string ⟨⟨l2⟩⟩, .bool s3, .string ⟨⟨l3⟩⟩, .bool s4, .string ⟨⟨l4⟩⟩]⟩, .agg ⟨[.bool t1, .string ⟨⟨m1⟩⟩, .bool t2, .string ⟨⟨m2⟩⟩, .bool t3, .string ⟨⟨m3⟩⟩, .bool t4, .string ⟨⟨m4⟩⟩]⟩] =>
    if (⟨s1, l1, s2, l2, s3, l3, s4, l4⟩ : Pt).ok ∧ (⟨t1, m1, t2, m2, t3, m3, t4, m4⟩ : Pt).ok then some (.tuple ⟨[.agg ⟨(Pt.lo (⟨s1, l1, s2, l2, s3, l3, s4, l4⟩ : Pt) (⟨t1, m1, t2, m2, t3, m3, t4, m4⟩ : Pt)).cells⟩, .agg ⟨(Pt.hi (⟨s1, l1, s2, l2, s3, l3, s4, l4⟩ : Pt) (⟨t1, m1, t2, m2, t3, m3, t4, m4⟩ : Pt)).cells⟩]⟩) else none
  | _ => none
def c64 : ICode :=
  (.seq (.reg [qq 2 (.box 30 8 (.t 0)), qq 3 (.box 30 8 (.t 1)), qq 4 (.alloc 30 8 [(.bool false), e0, (.bool false), e0, (.bool false), e0, (.bool false), e0]), qq 5 (.alloc 30 8 [(.bool false), e0, (.bool false), e0, (.bool false), e0, (.bool false), e0])]) (.seq (.seq (.reg [qq 6 (.load true 8 (.t 2)), qq 7 (.load true 8 (.t 3)), qq 8 (.call 28 [(.t 6), (.t 7)]), qq 9 (.bin .gtr (.t 8) (ci 0))]) (.cond (.t 9) (.seq (.dreg [qu 10 (.load true 8 (.t 3)), qu 11 (.load true 8 (.t 2)), ⟨none, none, [1001], (.store 8 (.t 4) (.t 10))⟩, qm (.store 8 (.t 5) (.t 11))]) .ret) .skip)) (.seq (.dreg [qu 12 (.load true 8 (.t 2)), qu 13 (.load true 8 (.t 3)), ⟨none, none, [1001], (.store 8 (.t 4) (.t 12))⟩, qm (.store 8 (.t 5) (.t 13))]) .ret)))
theorem tr64 : trFun Tryz.prog 64 = some ⟨14, [.cell 4 true 8, .cell 5 true 8], c64⟩ := by kernel_rfl
set_option maxHeartbeats 8000000 in
theorem ok_xSorted : SpecOK Tryz.prog 64 (flat spXSorted) := by
  refine flat_run (env_cons ok_pCmp (env_nil _)) mixed tr64 ?_
  intro args v h N hG
  unfold spXSorted at hG
  split at hG
  case h_2 => cases hG
  rename_i s1 l1 s2 l2 s3 l3 s4 l4 t1 m1 t2 m2 t3 m3 t4 m4
  split at hG
  case isFalse => cases hG
  rename_i hl
  obtain ⟨ha, hb⟩ := hl
  have e1 := pCmp_pt ha hb
  unfold Pt.lo Pt.hi at hG
  obtain ⟨k, ek⟩ : ∃ z, Pt.cmp (⟨s1, l1, s2, l2, s3, l3, s4, l4⟩ : Pt) (⟨t1, m1, t2, m2, t3, m3, t4, m4⟩ : Pt) = z := ⟨_, rfl⟩
  rw [ek] at hG e1
  by_cases hk : 0 < k
  · simp only [hk, if_true] at hG
    unfold Pt.cells at *
    cases hG
    refine ⟨rfl, by simp, ?_⟩
    simp only [c64, G0, Nat.reduceAdd]
    simp only [↓R0, R1, simprocAttr, -Int.reduceAbs, e1, hk, gt_iff_lt, Fin, isEnd, resL, res1, iE, rE]
    exact ⟨_, rfl, rfl, fun k hk => by simp only [ne_nb hk, if_false]⟩
  · simp only [hk, if_false] at hG
    unfold Pt.cells at *
    cases hG
    refine ⟨rfl, by simp, ?_⟩
    simp only [c64, G0, Nat.reduceAdd]
    simp only [↓R0, R1, simprocAttr, -Int.reduceAbs, e1, hk, gt_iff_lt, Fin, isEnd, resL, res1, iE, rE]
    exact ⟨_, rfl, rfl, fun k hk => by simp only [ne_nb hk, if_false]⟩
def ovE : Option (Pt × Pt) → Value
  | none => .tuple ⟨[.agg ⟨pZ⟩, .agg ⟨pZ⟩, .bool false]⟩
  | some (l, h) => .tuple ⟨[.agg ⟨l.cells⟩, .agg ⟨h.cells⟩, .bool true]⟩
theorem sorted_pt {p q : Pt} (hp : p.ok) (hq : q.ok) : spXSorted [.agg ⟨p.cells⟩, .agg ⟨q.cells⟩] = some (.tuple ⟨[.agg ⟨(Pt.lo p q).cells⟩, .agg ⟨(Pt.hi p q).cells⟩]⟩) := by
  unfold spXSorted
  rw [show p.cells = [.bool p.s1, .string ⟨⟨p.l1⟩⟩, .bool p.s2, .string ⟨⟨p.l2⟩⟩, .bool p.s3, .string ⟨⟨p.l3⟩⟩, .bool p.s4, .string ⟨⟨p.l4⟩⟩] from rfl, show q.cells = [.bool q.s1, .string ⟨⟨q.l1⟩⟩, .bool q.s2, .string ⟨⟨q.l2⟩⟩, .bool q.s3, .string ⟨⟨q.l3⟩⟩, .bool q.s4, .string ⟨⟨q.l4⟩⟩] from rfl]
  simp only
  exact if_pos ⟨hp, hq⟩
def spXOver : List Value → Option Value
  | [.agg ⟨[.bool s1, .string ⟨⟨l1⟩⟩, .bool s2, .string ⟨⟨l2⟩⟩, .bool s3, .string ⟨⟨l3⟩⟩, .bool s4, .string ⟨⟨l4⟩⟩]⟩, .agg ⟨[.bool t1, .string ⟨⟨m1⟩⟩, .bool t2, .string ⟨⟨m2⟩⟩, .bool t3, .string ⟨⟨m3⟩⟩, .bool t4, .string ⟨⟨m4⟩⟩]⟩, .agg ⟨[.bool q1, .string ⟨⟨k1⟩⟩, .bool q2, .string ⟨⟨k2⟩⟩, .bool q3, .string ⟨⟨k3⟩⟩, .bool q4, .string ⟨⟨k4⟩⟩]⟩, .agg ⟨[.bool p1, .string ⟨⟨j1⟩⟩, .bool p2, .string ⟨⟨j2⟩⟩, .bool p3, .string ⟨⟨j3⟩⟩, .bool p4, .string ⟨⟨j4⟩⟩]⟩] =>
    if (⟨s1, l1, s2, l2, s3, l3, s4, l4⟩ : Pt).ok ∧ (⟨t1, m1, t2, m2, t3, m3, t4, m4⟩ : Pt).ok ∧ (⟨q1, k1, q2, k2, q3, k3, q4, k4⟩ : Pt).ok ∧ (⟨p1, j1, p2, j2, p3, j3, p4, j4⟩ : Pt).ok then some (ovE (Pt.over (⟨s1, l1, s2, l2, s3, l3, s4, l4⟩ : Pt) (⟨t1, m1, t2, m2, t3, m3, t4, m4⟩ : Pt) (⟨q1, k1, q2, k2, q3, k3, q4, k4⟩ : Pt) (⟨p1, j1, p2, j2, p3, j3, p4, j4⟩ : Pt))) else none
  | _ => none
def c23 : ICode :=
  (.seq (.reg [qq 4 (.box 30 8 (.t 0)), qq 5 (.box 30 8 (.t 1)), qq 6 (.box 30 8 (.t 2)), qq 7 (.box 30 8 (.t 3)), qq 8 (.alloc 30 8 [(.bool false), e0, (.bool false), e0, (.bool false), e0, (.bool false), e0]), qq 9 (.alloc 30 8 [(.bool false), e0, (.bool false), e0, (.bool false), e0, (.bool false), e0]), qq 10 (.mv (.c (.bool false)))]) (.seq (.reg [qq 16 (.load true 8 (.t 4)), qq 17 (.load true 8 (.t 5)), qq 18 (.call 64 [(.t 16), (.t 17)]), qq 15 (.mv (.t 18)), qq 19 (.ext (.t 15) 0), qq 20 (.ext (.t 15) 1), qn (.store 8 (.t 4) (.t 19)), qn (.store 8 (.t 5) (.t 20))]) (.seq (.reg [qq 22 (.load true 8 (.t 6)), qq 23 (.load true 8 (.t 7)), qq 24 (.call 64 [(.t 22), (.t 23)]), qq 21 (.mv (.t 24)), qq 25 (.ext (.t 21) 0), qq 26 (.ext (.t 21) 1), qn (.store 8 (.t 6) (.t 25)), qn (.store 8 (.t 7) (.t 26))]) (.seq (.seq (.reg [qq 27 (.load true 8 (.t 4)), qq 28 (.load true 8 (.t 5)), qq 29 (.eqa false [.b, .s, .b, .s, .b, .s, .b, .s] (.t 27) (.t 28)), qq 30 (.mv (.t 29)), ⟨(some 31), (some (30, false)), (.load true 8 (.t 6))⟩, ⟨(some 32), (some (30, false)), (.load true 8 (.t 7))⟩, ⟨(some 33), (some (30, false)), (.eqa false [.b, .s, .b, .s, .b, .s, .b, .s] (.t 31) (.t 32))⟩, qq 34 (.pick (.t 30) (.c (.bool true)) (.t 33)), qq 35 (.mv (.t 34)), ⟨(some 36), (some (35, false)), (.load true 8 (.t 4))⟩, ⟨(some 37), (some (35, false)), (.load true 8 (.t 5))⟩, ⟨(some 38), (some (35, false)), (.load true 8 (.t 6))⟩, ⟨(some 39), (some (35, false)), (.call 19 [(.t 36), (.t 37), (.t 38)])⟩, ⟨(some 40), (some (35, false)), (.un .not (.t 39))⟩, qq 41 (.pick (.t 35) (.c (.bool true)) (.t 40)), qq 42 (.mv (.t 41)), ⟨(some 43), (some (42, false)), (.load true 8 (.t 4))⟩, ⟨(some 44), (some (42, false)), (.load true 8 (.t 5))⟩, ⟨(some 45), (some (42, false)), (.load true 8 (.t 7))⟩, ⟨(some 46), (some (42, false)), (.call 19 [(.t 43), (.t 44), (.t 45)])⟩, ⟨(some 47), (some (42, false)), (.un .not (.t 46))⟩, qq 48 (.pick (.t 42) (.c (.bool true)) (.t 47))]) (.cond (.t 48) (.seq (.reg [qq 49 (.build [(.bool false), e0, (.bool false), e0, (.bool false), e0, (.bool false), e0] []), qq 50 (.build [(.bool false), e0, (.bool false), e0, (.bool false), e0, (.bool false), e0] []), qn (.store 8 (.t 8) (.t 49)), qn (.store 8 (.t 9) (.t 50)), qq 10 (.mv (.c (.bool false)))]) .ret) .skip)) (.seq (.reg [qq 52 (.load true 8 (.t 4)), qq 53 (.load true 8 (.t 6)), qq 54 (.call 64 [(.t 52), (.t 53)]), qq 51 (.mv (.t 54)), qq 55 (.ext (.t 51) 0), qq 56 (.ext (.t 51) 1), qq 11 (.alloc 30 8 [(.bool false), e0, (.bool false), e0, (.bool false), e0, (.bool false), e0]), qq 12 (.alloc 30 8 [(.bool false), e0, (.bool false), e0, (.bool false), e0, (.bool false), e0]), qn (.store 8 (.t 11) (.t 55)), qn (.store 8 (.t 12) (.t 56))]) (.seq (.reg [qq 58 (.load true 8 (.t 5)), qq 59 (.load true 8 (.t 7)), qq 60 (.call 64 [(.t 58), (.t 59)]), qq 57 (.mv (.t 60)), qq 61 (.ext (.t 57) 0), qq 62 (.ext (.t 57) 1), qq 13 (.alloc 30 8 [(.bool false), e0, (.bool false), e0, (.bool false), e0, (.bool false), e0]), qq 14 (.alloc 30 8 [(.bool false), e0, (.bool false), e0, (.bool false), e0, (.bool false), e0]), qn (.store 8 (.t 13) (.t 61)), qn (.store 8 (.t 14) (.t 62))]) (.seq (.seq (.reg [qq 63 (.load true 8 (.t 12)), qq 64 (.load true 8 (.t 13)), qq 65 (.call 28 [(.t 63), (.t 64)]), qq 66 (.bin .geq (.t 65) (ci 0))]) (.cond (.t 66) (.seq (.reg [qq 67 (.build [(.bool false), e0, (.bool false), e0, (.bool false), e0, (.bool false), e0] []), qq 68 (.build [(.bool false), e0, (.bool false), e0, (.bool false), e0, (.bool false), e0] []), qn (.store 8 (.t 8) (.t 67)), qn (.store 8 (.t 9) (.t 68)), qq 10 (.mv (.c (.bool false)))]) .ret) .skip)) (.seq (.dreg [qu 69 (.load true 8 (.t 12)), qu 70 (.load true 8 (.t 13)), ⟨none, none, [1001], (.store 8 (.t 8) (.t 69))⟩, qm (.store 8 (.t 9) (.t 70)), qu 10 (.mv (.c (.bool true)))]) .ret))))))))
theorem tr23 : trFun Tryz.prog 23 = some ⟨71, [.cell 8 true 8, .cell 9 true 8, .t 10], c23⟩ := by kernel_rfl
set_option maxHeartbeats 8000000 in
theorem ok_xOver : SpecOK Tryz.prog 23 (flat spXOver) := by
  refine flat_run (env_cons ok_xSorted (env_cons ok_xCollin (env_cons ok_pCmp (env_nil _)))) mixed tr23 ?_
  intro args v h N hG
  unfold spXOver at hG
  split at hG
  case h_2 => cases hG
  rename_i s1 l1 s2 l2 s3 l3 s4 l4 t1 m1 t2 m2 t3 m3 t4 m4 q1 k1 q2 k2 q3 k3 q4 k4 p1 j1 p2 j2 p3 j3 p4 j4
  split at hG
  case isFalse => cases hG
  rename_i hl
  obtain ⟨ha, hb, hc, hd⟩ := hl
  have sab := sorted_pt ha hb
  have scd := sorted_pt hc hd
  have kA := Pt.lo_ok ha hb
  have kB := Pt.hi_ok ha hb
  have kC := Pt.lo_ok hc hd
  have kD := Pt.hi_ok hc hd
  unfold Pt.over at hG
  generalize Pt.lo (⟨s1, l1, s2, l2, s3, l3, s4, l4⟩ : Pt) (⟨t1, m1, t2, m2, t3, m3, t4, m4⟩ : Pt) = A at *
  generalize Pt.hi (⟨s1, l1, s2, l2, s3, l3, s4, l4⟩ : Pt) (⟨t1, m1, t2, m2, t3, m3, t4, m4⟩ : Pt) = B at *
  generalize Pt.lo (⟨q1, k1, q2, k2, q3, k3, q4, k4⟩ : Pt) (⟨p1, j1, p2, j2, p3, j3, p4, j4⟩ : Pt) = C at *
  generalize Pt.hi (⟨q1, k1, q2, k2, q3, k3, q4, k4⟩ : Pt) (⟨p1, j1, p2, j2, p3, j3, p4, j4⟩ : Pt) = D at *
  have c1 := collin_pt kA kB kC
  have c2 := collin_pt kA kB kD
  have sac := sorted_pt kA kC
  have sbd := sorted_pt kB kD
  have kL := Pt.hi_ok kA kC
  have kH := Pt.lo_ok kB kD
  generalize Pt.hi A C = L at *
  generalize Pt.lo B D = H at *
  have cLH := pCmp_pt kL kH
  generalize Pt.lo A C = L' at *
  generalize Pt.hi B D = H' at *
  obtain ⟨k, ek⟩ : ∃ z, Pt.cmp L H = z := ⟨_, rfl⟩
  rw [ek] at hG cLH
  obtain ⟨u, eu⟩ : ∃ p : Prop, Pt.on A B C = p := ⟨_, rfl⟩
  obtain ⟨w, ew⟩ : ∃ p : Prop, Pt.on A B D = p := ⟨_, rfl⟩
  obtain ⟨aa1, aa2, aa3, aa4, aa5, aa6, aa7, aa8⟩ := A
  obtain ⟨bb1, bb2, bb3, bb4, bb5, bb6, bb7, bb8⟩ := B
  obtain ⟨cc1, cc2, cc3, cc4, cc5, cc6, cc7, cc8⟩ := C
  obtain ⟨dd1, dd2, dd3, dd4, dd5, dd6, dd7, dd8⟩ := D
  obtain ⟨ll1, ll2, ll3, ll4, ll5, ll6, ll7, ll8⟩ := L
  obtain ⟨hh1, hh2, hh3, hh4, hh5, hh6, hh7, hh8⟩ := H
  obtain ⟨le1, le2, le3, le4, le5, le6, le7, le8⟩ := L'
  obtain ⟨he1, he2, he3, he4, he5, he6, he7, he8⟩ := H'
  unfold Pt.cells at *
  by_cases z1 : (⟨aa1, aa2, aa3, aa4, aa5, aa6, aa7, aa8⟩ : Pt) = (⟨bb1, bb2, bb3, bb4, bb5, bb6, bb7, bb8⟩ : Pt)
  case pos =>
    simp only [z1, or_true, true_or, false_or, or_false, not_true_eq_false, not_false_eq_true, if_true, if_false, ovE] at hG
    cases hG
    refine ⟨rfl, by simp, ?_⟩
    simp only [c23, G0, Nat.reduceAdd]
    simp only [↓R0, R1, simprocAttr, -Int.reduceAbs, sab, scd, ceq8, c1, c2, sac, sbd, cLH, z1, ge_iff_le, Bool.not_true, Bool.not_false, decide_true, decide_false, pZ, Fin, isEnd, resL, res1, iE, rE]
    exact ⟨_, rfl, rfl, fun k hk => by simp only [ne_nb hk, if_false]⟩
  by_cases z2 : (⟨cc1, cc2, cc3, cc4, cc5, cc6, cc7, cc8⟩ : Pt) = (⟨dd1, dd2, dd3, dd4, dd5, dd6, dd7, dd8⟩ : Pt)
  case pos =>
    simp only [z1, z2, or_true, true_or, false_or, or_false, not_true_eq_false, not_false_eq_true, if_true, if_false, ovE] at hG
    cases hG
    refine ⟨rfl, by simp, ?_⟩
    simp only [c23, G0, Nat.reduceAdd]
    simp only [↓R0, R1, simprocAttr, -Int.reduceAbs, sab, scd, ceq8, c1, c2, sac, sbd, cLH, z1, z2, ge_iff_le, Bool.not_true, Bool.not_false, decide_true, decide_false, pZ, Fin, isEnd, resL, res1, iE, rE]
    exact ⟨_, rfl, rfl, fun k hk => by simp only [ne_nb hk, if_false]⟩
  by_cases z3 : Pt.on (⟨aa1, aa2, aa3, aa4, aa5, aa6, aa7, aa8⟩ : Pt) (⟨bb1, bb2, bb3, bb4, bb5, bb6, bb7, bb8⟩ : Pt) (⟨cc1, cc2, cc3, cc4, cc5, cc6, cc7, cc8⟩ : Pt)
  case neg =>
    simp only [z1, z2, z3, or_true, true_or, false_or, or_false, not_true_eq_false, not_false_eq_true, if_true, if_false, ovE] at hG
    cases hG
    refine ⟨rfl, by simp, ?_⟩
    simp only [c23, G0, Nat.reduceAdd]
    simp only [↓R0, R1, simprocAttr, -Int.reduceAbs, sab, scd, ceq8, c1, c2, sac, sbd, cLH, z1, z2, z3, ge_iff_le, Bool.not_true, Bool.not_false, decide_true, decide_false, pZ, Fin, isEnd, resL, res1, iE, rE]
    exact ⟨_, rfl, rfl, fun k hk => by simp only [ne_nb hk, if_false]⟩
  by_cases z4 : Pt.on (⟨aa1, aa2, aa3, aa4, aa5, aa6, aa7, aa8⟩ : Pt) (⟨bb1, bb2, bb3, bb4, bb5, bb6, bb7, bb8⟩ : Pt) (⟨dd1, dd2, dd3, dd4, dd5, dd6, dd7, dd8⟩ : Pt)
  case neg =>
    simp only [z1, z2, z3, z4, or_true, true_or, false_or, or_false, not_true_eq_false, not_false_eq_true, if_true, if_false, ovE] at hG
    cases hG
    refine ⟨rfl, by simp, ?_⟩
    simp only [c23, G0, Nat.reduceAdd]
    simp only [↓R0, R1, simprocAttr, -Int.reduceAbs, sab, scd, ceq8, c1, c2, sac, sbd, cLH, z1, z2, z3, z4, ge_iff_le, Bool.not_true, Bool.not_false, decide_true, decide_false, pZ, Fin, isEnd, resL, res1, iE, rE]
    exact ⟨_, rfl, rfl, fun k hk => by simp only [ne_nb hk, if_false]⟩
  by_cases z5 : 0 ≤ k
  case pos =>
    simp only [z1, z2, z3, z4, z5, or_true, true_or, false_or, or_false, not_true_eq_false, not_false_eq_true, if_true, if_false, ovE] at hG
    cases hG
    refine ⟨rfl, by simp, ?_⟩
    simp only [c23, G0, Nat.reduceAdd]
    simp only [↓R0, R1, simprocAttr, -Int.reduceAbs, sab, scd, ceq8, c1, c2, sac, sbd, cLH, z1, z2, z3, z4, z5, ge_iff_le, Bool.not_true, Bool.not_false, decide_true, decide_false, pZ, Fin, isEnd, resL, res1, iE, rE]
    exact ⟨_, rfl, rfl, fun k hk => by simp only [ne_nb hk, if_false]⟩
  simp only [z1, z2, z3, z4, z5, or_true, true_or, false_or, or_false, not_true_eq_false, not_false_eq_true, if_true, if_false, ovE] at hG
  cases hG
  refine ⟨rfl, by simp, ?_⟩
  simp only [c23, G0, Nat.reduceAdd]
  simp only [↓R0, R1, simprocAttr, -Int.reduceAbs, sab, scd, ceq8, c1, c2, sac, sbd, cLH, z1, z2, z3, z4, z5, ge_iff_le, Bool.not_true, Bool.not_false, decide_true, decide_false, Fin, isEnd, resL, res1, iE, rE]
  exact ⟨_, rfl, rfl, fun k hk => by simp only [ne_nb hk, if_false]⟩
def spR6Share : List Value → Option Value
  | [.agg ⟨[.bool s1, .string ⟨⟨l1⟩⟩, .bool s2, .string ⟨⟨l2⟩⟩, .bool s3, .string ⟨⟨l3⟩⟩, .bool s4, .string ⟨⟨l4⟩⟩]⟩, .agg ⟨[.bool t1, .string ⟨⟨m1⟩⟩, .bool t2, .string ⟨⟨m2⟩⟩, .bool t3, .string ⟨⟨m3⟩⟩, .bool t4, .string ⟨⟨m4⟩⟩]⟩, .agg ⟨[.bool q1, .string ⟨⟨k1⟩⟩, .bool q2, .string ⟨⟨k2⟩⟩, .bool q3, .string ⟨⟨k3⟩⟩, .bool q4, .string ⟨⟨k4⟩⟩]⟩, .agg ⟨[.bool p1, .string ⟨⟨j1⟩⟩, .bool p2, .string ⟨⟨j2⟩⟩, .bool p3, .string ⟨⟨j3⟩⟩, .bool p4, .string ⟨⟨j4⟩⟩]⟩] =>
    if (⟨s1, l1, s2, l2, s3, l3, s4, l4⟩ : Pt).ok ∧ (⟨t1, m1, t2, m2, t3, m3, t4, m4⟩ : Pt).ok ∧ (⟨q1, k1, q2, k2, q3, k3, q4, k4⟩ : Pt).ok ∧ (⟨p1, j1, p2, j2, p3, j3, p4, j4⟩ : Pt).ok then some (ovE (Pt.share (⟨s1, l1, s2, l2, s3, l3, s4, l4⟩ : Pt) (⟨t1, m1, t2, m2, t3, m3, t4, m4⟩ : Pt) (⟨q1, k1, q2, k2, q3, k3, q4, k4⟩ : Pt) (⟨p1, j1, p2, j2, p3, j3, p4, j4⟩ : Pt))) else none
  | _ => none
def c24 : ICode :=
  (.seq (.reg [qq 4 (.box 30 8 (.t 0)), qq 5 (.box 30 8 (.t 1)), qq 6 (.box 30 8 (.t 2)), qq 7 (.box 30 8 (.t 3)), qq 8 (.alloc 30 8 [(.bool false), e0, (.bool false), e0, (.bool false), e0, (.bool false), e0]), qq 9 (.alloc 30 8 [(.bool false), e0, (.bool false), e0, (.bool false), e0, (.bool false), e0]), qq 10 (.mv (.c (.bool false)))]) (.seq (.seq (.reg [qq 13 (.load true 8 (.t 4)), qq 14 (.load true 8 (.t 5)), qq 15 (.call 63 [(.t 13), (.t 14)]), qq 16 (.bin .eql (.t 15) (ci 0)), qq 17 (.mv (.t 16)), ⟨(some 18), (some (17, false)), (.load true 8 (.t 6))⟩, ⟨(some 19), (some (17, false)), (.load true 8 (.t 7))⟩, ⟨(some 20), (some (17, false)), (.call 63 [(.t 18), (.t 19)])⟩, ⟨(some 21), (some (17, false)), (.bin .eql (.t 20) (ci 0))⟩, qq 22 (.pick (.t 17) (.c (.bool true)) (.t 21)), qq 23 (.mv (.t 22)), ⟨(some 24), (some (23, false)), (.load true 8 (.t 4))⟩, ⟨(some 25), (some (23, false)), (.load true 8 (.t 5))⟩, ⟨(some 26), (some (23, false)), (.load true 8 (.t 6))⟩, ⟨(some 27), (some (23, false)), (.call 20 [(.t 24), (.t 25), (.t 26)])⟩, ⟨(some 28), (some (23, false)), (.un .not (.t 27))⟩, qq 29 (.pick (.t 23) (.c (.bool true)) (.t 28)), qq 30 (.mv (.t 29)), ⟨(some 31), (some (30, false)), (.load true 8 (.t 4))⟩, ⟨(some 32), (some (30, false)), (.load true 8 (.t 5))⟩, ⟨(some 33), (some (30, false)), (.load true 8 (.t 7))⟩, ⟨(some 34), (some (30, false)), (.call 20 [(.t 31), (.t 32), (.t 33)])⟩, ⟨(some 35), (some (30, false)), (.un .not (.t 34))⟩, qq 36 (.pick (.t 30) (.c (.bool true)) (.t 35))]) (.cond (.t 36) (.seq (.reg [qq 37 (.build [(.bool false), e0, (.bool false), e0, (.bool false), e0, (.bool false), e0] []), qq 38 (.build [(.bool false), e0, (.bool false), e0, (.bool false), e0, (.bool false), e0] []), qn (.store 8 (.t 8) (.t 37)), qn (.store 8 (.t 9) (.t 38)), qq 10 (.mv (.c (.bool false)))]) .ret) .skip)) (.seq (.seq (.reg [qq 39 (.load true 8 (.t 4)), qq 40 (.load true 8 (.t 5)), qq 41 (.call 63 [(.t 39), (.t 40)]), qq 42 (.bin .gtr (.t 41) (ci 0))]) (.cond (.t 42) (.reg [qq 43 (.load true 8 (.t 5)), qq 44 (.load true 8 (.t 4)), qn (.store 8 (.t 4) (.t 43)), qn (.store 8 (.t 5) (.t 44))]) .skip)) (.seq (.seq (.reg [qq 45 (.load true 8 (.t 6)), qq 46 (.load true 8 (.t 7)), qq 47 (.call 63 [(.t 45), (.t 46)]), qq 48 (.bin .gtr (.t 47) (ci 0))]) (.cond (.t 48) (.reg [qq 49 (.load true 8 (.t 7)), qq 50 (.load true 8 (.t 6)), qn (.store 8 (.t 6) (.t 49)), qn (.store 8 (.t 7) (.t 50))]) .skip)) (.seq (.dreg [qu 51 (.load true 8 (.t 4)), qu 52 (.load true 8 (.t 5)), qu 11 (.alloc 30 8 [(.bool false), e0, (.bool false), e0, (.bool false), e0, (.bool false), e0]), qu 12 (.alloc 30 8 [(.bool false), e0, (.bool false), e0, (.bool false), e0, (.bool false), e0]), ⟨none, none, [1001], (.store 8 (.t 11) (.t 51))⟩, qm (.store 8 (.t 12) (.t 52))]) (.seq (.seq (.reg [qq 53 (.load true 8 (.t 6)), qq 54 (.load true 8 (.t 11)), qq 55 (.call 63 [(.t 53), (.t 54)]), qq 56 (.bin .gtr (.t 55) (ci 0))]) (.cond (.t 56) (.reg [qq 57 (.load true 8 (.t 6)), qn (.store 8 (.t 11) (.t 57))]) .skip)) (.seq (.seq (.reg [qq 58 (.load true 8 (.t 7)), qq 59 (.load true 8 (.t 12)), qq 60 (.call 63 [(.t 58), (.t 59)]), qq 61 (.bin .lss (.t 60) (ci 0))]) (.cond (.t 61) (.reg [qq 62 (.load true 8 (.t 7)), qn (.store 8 (.t 12) (.t 62))]) .skip)) (.seq (.seq (.reg [qq 63 (.load true 8 (.t 11)), qq 64 (.load true 8 (.t 12)), qq 65 (.call 63 [(.t 63), (.t 64)]), qq 66 (.bin .geq (.t 65) (ci 0))]) (.cond (.t 66) (.seq (.reg [qq 67 (.build [(.bool false), e0, (.bool false), e0, (.bool false), e0, (.bool false), e0] []), qq 68 (.build [(.bool false), e0, (.bool false), e0, (.bool false), e0, (.bool false), e0] []), qn (.store 8 (.t 8) (.t 67)), qn (.store 8 (.t 9) (.t 68)), qq 10 (.mv (.c (.bool false)))]) .ret) .skip)) (.seq (.dreg [qu 69 (.load true 8 (.t 11)), qu 70 (.load true 8 (.t 12)), ⟨none, none, [1001], (.store 8 (.t 8) (.t 69))⟩, qm (.store 8 (.t 9) (.t 70)), qu 10 (.mv (.c (.bool true)))]) .ret)))))))))
theorem tr24 : trFun Tryz.prog 24 = some ⟨71, [.cell 8 true 8, .cell 9 true 8, .t 10], c24⟩ := by kernel_rfl
set_option maxHeartbeats 8000000 in
theorem ok_r6Share : SpecOK Tryz.prog 24 (flat spR6Share) := by
  refine flat_run (env_cons ok_r4Cmp (env_cons ok_r6Straight (env_nil _))) mixed tr24 ?_
  intro args v h N hG
  unfold spR6Share at hG
  split at hG
  case h_2 => cases hG
  rename_i s1 l1 s2 l2 s3 l3 s4 l4 t1 m1 t2 m2 t3 m3 t4 m4 q1 k1 q2 k2 q3 k3 q4 k4 p1 j1 p2 j2 p3 j3 p4 j4
  split at hG
  case isFalse => cases hG
  rename_i hl
  obtain ⟨ha, hb, hc, hd⟩ := hl
  have rab := r4Cmp_pt ha hb
  have rcd := r4Cmp_pt hc hd
  have c1 := straight_pt ha hb hc
  have c2 := straight_pt ha hb hd
  have x11 := r4Cmp_pt hc ha
  have x12 := r4Cmp_pt hc hb
  have x21 := r4Cmp_pt hd ha
  have x22 := r4Cmp_pt hd hb
  have y1 := r4Cmp_pt ha hc
  have y2 := r4Cmp_pt ha hd
  have y3 := r4Cmp_pt hb hc
  have y4 := r4Cmp_pt hb hd
  have y5 := r4Cmp_pt hb ha
  have y6 := r4Cmp_pt hd hc
  have y7 := r4Cmp_pt ha ha
  have y8 := r4Cmp_pt hb hb
  have y9 := r4Cmp_pt hc hc
  have y10 := r4Cmp_pt hd hd
  unfold Pt.share Pt.lo Pt.hi at hG
  unfold Pt.cells at *
  by_cases z1 : Pt.cmp (⟨s1, l1, s2, l2, s3, l3, s4, l4⟩ : Pt) (⟨t1, m1, t2, m2, t3, m3, t4, m4⟩ : Pt) = 0
  case pos =>
    simp only [z1, or_true, true_or, false_or, or_false, not_true_eq_false, not_false_eq_true, if_true, if_false, ovE] at hG
    cases hG
    refine ⟨rfl, by simp, ?_⟩
    simp only [c24, G0, Nat.reduceAdd]
    simp only [↓R0, R1, simprocAttr, -Int.reduceAbs, rab, rcd, c1, c2, x11, x12, x21, x22, y1, y2, y3, y4, y5, y6, y7, y8, y9, y10, z1, gt_iff_lt, ge_iff_le, Bool.not_true, Bool.not_false, decide_true, decide_false, pZ, Fin, isEnd, resL, res1, iE, rE]
    exact ⟨_, rfl, rfl, fun k hk => by simp only [ne_nb hk, if_false]⟩
  by_cases z2 : Pt.cmp (⟨q1, k1, q2, k2, q3, k3, q4, k4⟩ : Pt) (⟨p1, j1, p2, j2, p3, j3, p4, j4⟩ : Pt) = 0
  case pos =>
    simp only [z1, z2, or_true, true_or, false_or, or_false, not_true_eq_false, not_false_eq_true, if_true, if_false, ovE] at hG
    cases hG
    refine ⟨rfl, by simp, ?_⟩
    simp only [c24, G0, Nat.reduceAdd]
    simp only [↓R0, R1, simprocAttr, -Int.reduceAbs, rab, rcd, c1, c2, x11, x12, x21, x22, y1, y2, y3, y4, y5, y6, y7, y8, y9, y10, z1, z2, gt_iff_lt, ge_iff_le, Bool.not_true, Bool.not_false, decide_true, decide_false, pZ, Fin, isEnd, resL, res1, iE, rE]
    exact ⟨_, rfl, rfl, fun k hk => by simp only [ne_nb hk, if_false]⟩
  by_cases z3 : Pt.on (⟨s1, l1, s2, l2, s3, l3, s4, l4⟩ : Pt) (⟨t1, m1, t2, m2, t3, m3, t4, m4⟩ : Pt) (⟨q1, k1, q2, k2, q3, k3, q4, k4⟩ : Pt)
  case neg =>
    simp only [z1, z2, z3, or_true, true_or, false_or, or_false, not_true_eq_false, not_false_eq_true, if_true, if_false, ovE] at hG
    cases hG
    refine ⟨rfl, by simp, ?_⟩
    simp only [c24, G0, Nat.reduceAdd]
    simp only [↓R0, R1, simprocAttr, -Int.reduceAbs, rab, rcd, c1, c2, x11, x12, x21, x22, y1, y2, y3, y4, y5, y6, y7, y8, y9, y10, z1, z2, z3, gt_iff_lt, ge_iff_le, Bool.not_true, Bool.not_false, decide_true, decide_false, pZ, Fin, isEnd, resL, res1, iE, rE]
    exact ⟨_, rfl, rfl, fun k hk => by simp only [ne_nb hk, if_false]⟩
  by_cases z4 : Pt.on (⟨s1, l1, s2, l2, s3, l3, s4, l4⟩ : Pt) (⟨t1, m1, t2, m2, t3, m3, t4, m4⟩ : Pt) (⟨p1, j1, p2, j2, p3, j3, p4, j4⟩ : Pt)
  case neg =>
    simp only [z1, z2, z3, z4, or_true, true_or, false_or, or_false, not_true_eq_false, not_false_eq_true, if_true, if_false, ovE] at hG
    cases hG
    refine ⟨rfl, by simp, ?_⟩
    simp only [c24, G0, Nat.reduceAdd]
    simp only [↓R0, R1, simprocAttr, -Int.reduceAbs, rab, rcd, c1, c2, x11, x12, x21, x22, y1, y2, y3, y4, y5, y6, y7, y8, y9, y10, z1, z2, z3, z4, gt_iff_lt, ge_iff_le, Bool.not_true, Bool.not_false, decide_true, decide_false, pZ, Fin, isEnd, resL, res1, iE, rE]
    exact ⟨_, rfl, rfl, fun k hk => by simp only [ne_nb hk, if_false]⟩
  by_cases w1 : 0 < Pt.cmp (⟨s1, l1, s2, l2, s3, l3, s4, l4⟩ : Pt) (⟨t1, m1, t2, m2, t3, m3, t4, m4⟩ : Pt)
  case pos =>
    by_cases w2 : 0 < Pt.cmp (⟨q1, k1, q2, k2, q3, k3, q4, k4⟩ : Pt) (⟨p1, j1, p2, j2, p3, j3, p4, j4⟩ : Pt)
    case pos =>
      by_cases w3 : 0 < Pt.cmp (⟨p1, j1, p2, j2, p3, j3, p4, j4⟩ : Pt) (⟨t1, m1, t2, m2, t3, m3, t4, m4⟩ : Pt)
      case pos =>
        by_cases w4 : Pt.cmp (⟨q1, k1, q2, k2, q3, k3, q4, k4⟩ : Pt) (⟨s1, l1, s2, l2, s3, l3, s4, l4⟩ : Pt) < 0
        case pos =>
          by_cases w5 : 0 ≤ Pt.cmp (⟨p1, j1, p2, j2, p3, j3, p4, j4⟩ : Pt) (⟨q1, k1, q2, k2, q3, k3, q4, k4⟩ : Pt)
          case pos =>
            simp only [z1, z2, z3, z4, w1, w2, w3, w4, w5, or_true, true_or, false_or, or_false, not_true_eq_false, not_false_eq_true, if_true, if_false, ovE] at hG
            cases hG
            refine ⟨rfl, by simp, ?_⟩
            simp only [c24, G0, Nat.reduceAdd]
            simp only [↓R0, R1, simprocAttr, -Int.reduceAbs, rab, rcd, c1, c2, x11, x12, x21, x22, y1, y2, y3, y4, y5, y6, y7, y8, y9, y10, z1, z2, z3, z4, w1, w2, w3, w4, w5, gt_iff_lt, ge_iff_le, Bool.not_true, Bool.not_false, decide_true, decide_false, pZ, Fin, isEnd, resL, res1, iE, rE]
            exact ⟨_, rfl, rfl, fun k hk => by simp only [ne_nb hk, if_false]⟩
          simp only [z1, z2, z3, z4, w1, w2, w3, w4, w5, or_true, true_or, false_or, or_false, not_true_eq_false, not_false_eq_true, if_true, if_false, ovE] at hG
          cases hG
          refine ⟨rfl, by simp, ?_⟩
          simp only [c24, G0, Nat.reduceAdd]
          simp only [↓R0, R1, simprocAttr, -Int.reduceAbs, rab, rcd, c1, c2, x11, x12, x21, x22, y1, y2, y3, y4, y5, y6, y7, y8, y9, y10, z1, z2, z3, z4, w1, w2, w3, w4, w5, gt_iff_lt, ge_iff_le, Bool.not_true, Bool.not_false, decide_true, decide_false, Fin, isEnd, resL, res1, iE, rE]
          exact ⟨_, rfl, rfl, fun k hk => by simp only [ne_nb hk, if_false]⟩
        by_cases w5 : 0 ≤ Pt.cmp (⟨p1, j1, p2, j2, p3, j3, p4, j4⟩ : Pt) (⟨s1, l1, s2, l2, s3, l3, s4, l4⟩ : Pt)
        case pos =>
          simp only [z1, z2, z3, z4, w1, w2, w3, w4, w5, or_true, true_or, false_or, or_false, not_true_eq_false, not_false_eq_true, if_true, if_false, ovE] at hG
          cases hG
          refine ⟨rfl, by simp, ?_⟩
          simp only [c24, G0, Nat.reduceAdd]
          simp only [↓R0, R1, simprocAttr, -Int.reduceAbs, rab, rcd, c1, c2, x11, x12, x21, x22, y1, y2, y3, y4, y5, y6, y7, y8, y9, y10, z1, z2, z3, z4, w1, w2, w3, w4, w5, gt_iff_lt, ge_iff_le, Bool.not_true, Bool.not_false, decide_true, decide_false, pZ, Fin, isEnd, resL, res1, iE, rE]
          exact ⟨_, rfl, rfl, fun k hk => by simp only [ne_nb hk, if_false]⟩
        simp only [z1, z2, z3, z4, w1, w2, w3, w4, w5, or_true, true_or, false_or, or_false, not_true_eq_false, not_false_eq_true, if_true, if_false, ovE] at hG
        cases hG
        refine ⟨rfl, by simp, ?_⟩
        simp only [c24, G0, Nat.reduceAdd]
        simp only [↓R0, R1, simprocAttr, -Int.reduceAbs, rab, rcd, c1, c2, x11, x12, x21, x22, y1, y2, y3, y4, y5, y6, y7, y8, y9, y10, z1, z2, z3, z4, w1, w2, w3, w4, w5, gt_iff_lt, ge_iff_le, Bool.not_true, Bool.not_false, decide_true, decide_false, Fin, isEnd, resL, res1, iE, rE]
        exact ⟨_, rfl, rfl, fun k hk => by simp only [ne_nb hk, if_false]⟩
      by_cases w4 : Pt.cmp (⟨q1, k1, q2, k2, q3, k3, q4, k4⟩ : Pt) (⟨s1, l1, s2, l2, s3, l3, s4, l4⟩ : Pt) < 0
      case pos =>
        by_cases w5 : 0 ≤ Pt.cmp (⟨t1, m1, t2, m2, t3, m3, t4, m4⟩ : Pt) (⟨q1, k1, q2, k2, q3, k3, q4, k4⟩ : Pt)
        case pos =>
          simp only [z1, z2, z3, z4, w1, w2, w3, w4, w5, or_true, true_or, false_or, or_false, not_true_eq_false, not_false_eq_true, if_true, if_false, ovE] at hG
          cases hG
          refine ⟨rfl, by simp, ?_⟩
          simp only [c24, G0, Nat.reduceAdd]
          simp only [↓R0, R1, simprocAttr, -Int.reduceAbs, rab, rcd, c1, c2, x11, x12, x21, x22, y1, y2, y3, y4, y5, y6, y7, y8, y9, y10, z1, z2, z3, z4, w1, w2, w3, w4, w5, gt_iff_lt, ge_iff_le, Bool.not_true, Bool.not_false, decide_true, decide_false, pZ, Fin, isEnd, resL, res1, iE, rE]
          exact ⟨_, rfl, rfl, fun k hk => by simp only [ne_nb hk, if_false]⟩
        simp only [z1, z2, z3, z4, w1, w2, w3, w4, w5, or_true, true_or, false_or, or_false, not_true_eq_false, not_false_eq_true, if_true, if_false, ovE] at hG
        cases hG
        refine ⟨rfl, by simp, ?_⟩
        simp only [c24, G0, Nat.reduceAdd]
        simp only [↓R0, R1, simprocAttr, -Int.reduceAbs, rab, rcd, c1, c2, x11, x12, x21, x22, y1, y2, y3, y4, y5, y6, y7, y8, y9, y10, z1, z2, z3, z4, w1, w2, w3, w4, w5, gt_iff_lt, ge_iff_le, Bool.not_true, Bool.not_false, decide_true, decide_false, Fin, isEnd, resL, res1, iE, rE]
        exact ⟨_, rfl, rfl, fun k hk => by simp only [ne_nb hk, if_false]⟩
      by_cases w5 : 0 ≤ Pt.cmp (⟨t1, m1, t2, m2, t3, m3, t4, m4⟩ : Pt) (⟨s1, l1, s2, l2, s3, l3, s4, l4⟩ : Pt)
      case pos =>
        simp only [z1, z2, z3, z4, w1, w2, w3, w4, w5, or_true, true_or, false_or, or_false, not_true_eq_false, not_false_eq_true, if_true, if_false, ovE] at hG
        cases hG
        refine ⟨rfl, by simp, ?_⟩
        simp only [c24, G0, Nat.reduceAdd]
        simp only [↓R0, R1, simprocAttr, -Int.reduceAbs, rab, rcd, c1, c2, x11, x12, x21, x22, y1, y2, y3, y4, y5, y6, y7, y8, y9, y10, z1, z2, z3, z4, w1, w2, w3, w4, w5, gt_iff_lt, ge_iff_le, Bool.not_true, Bool.not_false, decide_true, decide_false, pZ, Fin, isEnd, resL, res1, iE, rE]
        exact ⟨_, rfl, rfl, fun k hk => by simp only [ne_nb hk, if_false]⟩
      simp only [z1, z2, z3, z4, w1, w2, w3, w4, w5, or_true, true_or, false_or, or_false, not_true_eq_false, not_false_eq_true, if_true, if_false, ovE] at hG
      cases hG
      refine ⟨rfl, by simp, ?_⟩
      simp only [c24, G0, Nat.reduceAdd]
      simp only [↓R0, R1, simprocAttr, -Int.reduceAbs, rab, rcd, c1, c2, x11, x12, x21, x22, y1, y2, y3, y4, y5, y6, y7, y8, y9, y10, z1, z2, z3, z4, w1, w2, w3, w4, w5, gt_iff_lt, ge_iff_le, Bool.not_true, Bool.not_false, decide_true, decide_false, Fin, isEnd, resL, res1, iE, rE]
      exact ⟨_, rfl, rfl, fun k hk => by simp only [ne_nb hk, if_false]⟩
    by_cases w3 : 0 < Pt.cmp (⟨q1, k1, q2, k2, q3, k3, q4, k4⟩ : Pt) (⟨t1, m1, t2, m2, t3, m3, t4, m4⟩ : Pt)
    case pos =>
      by_cases w4 : Pt.cmp (⟨p1, j1, p2, j2, p3, j3, p4, j4⟩ : Pt) (⟨s1, l1, s2, l2, s3, l3, s4, l4⟩ : Pt) < 0
      case pos =>
        by_cases w5 : 0 ≤ Pt.cmp (⟨q1, k1, q2, k2, q3, k3, q4, k4⟩ : Pt) (⟨p1, j1, p2, j2, p3, j3, p4, j4⟩ : Pt)
        case pos =>
          simp only [z1, z2, z3, z4, w1, w2, w3, w4, w5, or_true, true_or, false_or, or_false, not_true_eq_false, not_false_eq_true, if_true, if_false, ovE] at hG
          cases hG
          refine ⟨rfl, by simp, ?_⟩
          simp only [c24, G0, Nat.reduceAdd]
          simp only [↓R0, R1, simprocAttr, -Int.reduceAbs, rab, rcd, c1, c2, x11, x12, x21, x22, y1, y2, y3, y4, y5, y6, y7, y8, y9, y10, z1, z2, z3, z4, w1, w2, w3, w4, w5, gt_iff_lt, ge_iff_le, Bool.not_true, Bool.not_false, decide_true, decide_false, pZ, Fin, isEnd, resL, res1, iE, rE]
          exact ⟨_, rfl, rfl, fun k hk => by simp only [ne_nb hk, if_false]⟩
        simp only [z1, z2, z3, z4, w1, w2, w3, w4, w5, or_true, true_or, false_or, or_false, not_true_eq_false, not_false_eq_true, if_true, if_false, ovE] at hG
        cases hG
        refine ⟨rfl, by simp, ?_⟩
        simp only [c24, G0, Nat.reduceAdd]
        simp only [↓R0, R1, simprocAttr, -Int.reduceAbs, rab, rcd, c1, c2, x11, x12, x21, x22, y1, y2, y3, y4, y5, y6, y7, y8, y9, y10, z1, z2, z3, z4, w1, w2, w3, w4, w5, gt_iff_lt, ge_iff_le, Bool.not_true, Bool.not_false, decide_true, decide_false, Fin, isEnd, resL, res1, iE, rE]
        exact ⟨_, rfl, rfl, fun k hk => by simp only [ne_nb hk, if_false]⟩
      by_cases w5 : 0 ≤ Pt.cmp (⟨q1, k1, q2, k2, q3, k3, q4, k4⟩ : Pt) (⟨s1, l1, s2, l2, s3, l3, s4, l4⟩ : Pt)
      case pos =>
        simp only [z1, z2, z3, z4, w1, w2, w3, w4, w5, or_true, true_or, false_or, or_false, not_true_eq_false, not_false_eq_true, if_true, if_false, ovE] at hG
        cases hG
        refine ⟨rfl, by simp, ?_⟩
        simp only [c24, G0, Nat.reduceAdd]
        simp only [↓R0, R1, simprocAttr, -Int.reduceAbs, rab, rcd, c1, c2, x11, x12, x21, x22, y1, y2, y3, y4, y5, y6, y7, y8, y9, y10, z1, z2, z3, z4, w1, w2, w3, w4, w5, gt_iff_lt, ge_iff_le, Bool.not_true, Bool.not_false, decide_true, decide_false, pZ, Fin, isEnd, resL, res1, iE, rE]
        exact ⟨_, rfl, rfl, fun k hk => by simp only [ne_nb hk, if_false]⟩
      simp only [z1, z2, z3, z4, w1, w2, w3, w4, w5, or_true, true_or, false_or, or_false, not_true_eq_false, not_false_eq_true, if_true, if_false, ovE] at hG
      cases hG
      refine ⟨rfl, by simp, ?_⟩
      simp only [c24, G0, Nat.reduceAdd]
      simp only [↓R0, R1, simprocAttr, -Int.reduceAbs, rab, rcd, c1, c2, x11, x12, x21, x22, y1, y2, y3, y4, y5, y6, y7, y8, y9, y10, z1, z2, z3, z4, w1, w2, w3, w4, w5, gt_iff_lt, ge_iff_le, Bool.not_true, Bool.not_false, decide_true, decide_false, Fin, isEnd, resL, res1, iE, rE]
      exact ⟨_, rfl, rfl, fun k hk => by simp only [ne_nb hk, if_false]⟩
    by_cases w4 : Pt.cmp (⟨p1, j1, p2, j2, p3, j3, p4, j4⟩ : Pt) (⟨s1, l1, s2, l2, s3, l3, s4, l4⟩ : Pt) < 0
    case pos =>
      by_cases w5 : 0 ≤ Pt.cmp (⟨t1, m1, t2, m2, t3, m3, t4, m4⟩ : Pt) (⟨p1, j1, p2, j2, p3, j3, p4, j4⟩ : Pt)
      case pos =>
        simp only [z1, z2, z3, z4, w1, w2, w3, w4, w5, or_true, true_or, false_or, or_false, not_true_eq_false, not_false_eq_true, if_true, if_false, ovE] at hG
        cases hG
        refine ⟨rfl, by simp, ?_⟩
        simp only [c24, G0, Nat.reduceAdd]
        simp only [↓R0, R1, simprocAttr, -Int.reduceAbs, rab, rcd, c1, c2, x11, x12, x21, x22, y1, y2, y3, y4, y5, y6, y7, y8, y9, y10, z1, z2, z3, z4, w1, w2, w3, w4, w5, gt_iff_lt, ge_iff_le, Bool.not_true, Bool.not_false, decide_true, decide_false, pZ, Fin, isEnd, resL, res1, iE, rE]
        exact ⟨_, rfl, rfl, fun k hk => by simp only [ne_nb hk, if_false]⟩
      simp only [z1, z2, z3, z4, w1, w2, w3, w4, w5, or_true, true_or, false_or, or_false, not_true_eq_false, not_false_eq_true, if_true, if_false, ovE] at hG
      cases hG
      refine ⟨rfl, by simp, ?_⟩
      simp only [c24, G0, Nat.reduceAdd]
      simp only [↓R0, R1, simprocAttr, -Int.reduceAbs, rab, rcd, c1, c2, x11, x12, x21, x22, y1, y2, y3, y4, y5, y6, y7, y8, y9, y10, z1, z2, z3, z4, w1, w2, w3, w4, w5, gt_iff_lt, ge_iff_le, Bool.not_true, Bool.not_false, decide_true, decide_false, Fin, isEnd, resL, res1, iE, rE]
      exact ⟨_, rfl, rfl, fun k hk => by simp only [ne_nb hk, if_false]⟩
    by_cases w5 : 0 ≤ Pt.cmp (⟨t1, m1, t2, m2, t3, m3, t4, m4⟩ : Pt) (⟨s1, l1, s2, l2, s3, l3, s4, l4⟩ : Pt)
    case pos =>
      simp only [z1, z2, z3, z4, w1, w2, w3, w4, w5, or_true, true_or, false_or, or_false, not_true_eq_false, not_false_eq_true, if_true, if_false, ovE] at hG
      cases hG
      refine ⟨rfl, by simp, ?_⟩
      simp only [c24, G0, Nat.reduceAdd]
      simp only [↓R0, R1, simprocAttr, -Int.reduceAbs, rab, rcd, c1, c2, x11, x12, x21, x22, y1, y2, y3, y4, y5, y6, y7, y8, y9, y10, z1, z2, z3, z4, w1, w2, w3, w4, w5, gt_iff_lt, ge_iff_le, Bool.not_true, Bool.not_false, decide_true, decide_false, pZ, Fin, isEnd, resL, res1, iE, rE]
      exact ⟨_, rfl, rfl, fun k hk => by simp only [ne_nb hk, if_false]⟩
    simp only [z1, z2, z3, z4, w1, w2, w3, w4, w5, or_true, true_or, false_or, or_false, not_true_eq_false, not_false_eq_true, if_true, if_false, ovE] at hG
    cases hG
    refine ⟨rfl, by simp, ?_⟩
    simp only [c24, G0, Nat.reduceAdd]
    simp only [↓R0, R1, simprocAttr, -Int.reduceAbs, rab, rcd, c1, c2, x11, x12, x21, x22, y1, y2, y3, y4, y5, y6, y7, y8, y9, y10, z1, z2, z3, z4, w1, w2, w3, w4, w5, gt_iff_lt, ge_iff_le, Bool.not_true, Bool.not_false, decide_true, decide_false, Fin, isEnd, resL, res1, iE, rE]
    exact ⟨_, rfl, rfl, fun k hk => by simp only [ne_nb hk, if_false]⟩
  by_cases w2 : 0 < Pt.cmp (⟨q1, k1, q2, k2, q3, k3, q4, k4⟩ : Pt) (⟨p1, j1, p2, j2, p3, j3, p4, j4⟩ : Pt)
  case pos =>
    by_cases w3 : 0 < Pt.cmp (⟨p1, j1, p2, j2, p3, j3, p4, j4⟩ : Pt) (⟨s1, l1, s2, l2, s3, l3, s4, l4⟩ : Pt)
    case pos =>
      by_cases w4 : Pt.cmp (⟨q1, k1, q2, k2, q3, k3, q4, k4⟩ : Pt) (⟨t1, m1, t2, m2, t3, m3, t4, m4⟩ : Pt) < 0
      case pos =>
        by_cases w5 : 0 ≤ Pt.cmp (⟨p1, j1, p2, j2, p3, j3, p4, j4⟩ : Pt) (⟨q1, k1, q2, k2, q3, k3, q4, k4⟩ : Pt)
        case pos =>
          simp only [z1, z2, z3, z4, w1, w2, w3, w4, w5, or_true, true_or, false_or, or_false, not_true_eq_false, not_false_eq_true, if_true, if_false, ovE] at hG
          cases hG
          refine ⟨rfl, by simp, ?_⟩
          simp only [c24, G0, Nat.reduceAdd]
          simp only [↓R0, R1, simprocAttr, -Int.reduceAbs, rab, rcd, c1, c2, x11, x12, x21, x22, y1, y2, y3, y4, y5, y6, y7, y8, y9, y10, z1, z2, z3, z4, w1, w2, w3, w4, w5, gt_iff_lt, ge_iff_le, Bool.not_true, Bool.not_false, decide_true, decide_false, pZ, Fin, isEnd, resL, res1, iE, rE]
          exact ⟨_, rfl, rfl, fun k hk => by simp only [ne_nb hk, if_false]⟩
        simp only [z1, z2, z3, z4, w1, w2, w3, w4, w5, or_true, true_or, false_or, or_false, not_true_eq_false, not_false_eq_true, if_true, if_false, ovE] at hG
        cases hG
        refine ⟨rfl, by simp, ?_⟩
        simp only [c24, G0, Nat.reduceAdd]
        simp only [↓R0, R1, simprocAttr, -Int.reduceAbs, rab, rcd, c1, c2, x11, x12, x21, x22, y1, y2, y3, y4, y5, y6, y7, y8, y9, y10, z1, z2, z3, z4, w1, w2, w3, w4, w5, gt_iff_lt, ge_iff_le, Bool.not_true, Bool.not_false, decide_true, decide_false, Fin, isEnd, resL, res1, iE, rE]
        exact ⟨_, rfl, rfl, fun k hk => by simp only [ne_nb hk, if_false]⟩
      by_cases w5 : 0 ≤ Pt.cmp (⟨p1, j1, p2, j2, p3, j3, p4, j4⟩ : Pt) (⟨t1, m1, t2, m2, t3, m3, t4, m4⟩ : Pt)
      case pos =>
        simp only [z1, z2, z3, z4, w1, w2, w3, w4, w5, or_true, true_or, false_or, or_false, not_true_eq_false, not_false_eq_true, if_true, if_false, ovE] at hG
        cases hG
        refine ⟨rfl, by simp, ?_⟩
        simp only [c24, G0, Nat.reduceAdd]
        simp only [↓R0, R1, simprocAttr, -Int.reduceAbs, rab, rcd, c1, c2, x11, x12, x21, x22, y1, y2, y3, y4, y5, y6, y7, y8, y9, y10, z1, z2, z3, z4, w1, w2, w3, w4, w5, gt_iff_lt, ge_iff_le, Bool.not_true, Bool.not_false, decide_true, decide_false, pZ, Fin, isEnd, resL, res1, iE, rE]
        exact ⟨_, rfl, rfl, fun k hk => by simp only [ne_nb hk, if_false]⟩
      simp only [z1, z2, z3, z4, w1, w2, w3, w4, w5, or_true, true_or, false_or, or_false, not_true_eq_false, not_false_eq_true, if_true, if_false, ovE] at hG
      cases hG
      refine ⟨rfl, by simp, ?_⟩
      simp only [c24, G0, Nat.reduceAdd]
      simp only [↓R0, R1, simprocAttr, -Int.reduceAbs, rab, rcd, c1, c2, x11, x12, x21, x22, y1, y2, y3, y4, y5, y6, y7, y8, y9, y10, z1, z2, z3, z4, w1, w2, w3, w4, w5, gt_iff_lt, ge_iff_le, Bool.not_true, Bool.not_false, decide_true, decide_false, Fin, isEnd, resL, res1, iE, rE]
      exact ⟨_, rfl, rfl, fun k hk => by simp only [ne_nb hk, if_false]⟩
    by_cases w4 : Pt.cmp (⟨q1, k1, q2, k2, q3, k3, q4, k4⟩ : Pt) (⟨t1, m1, t2, m2, t3, m3, t4, m4⟩ : Pt) < 0
    case pos =>
      by_cases w5 : 0 ≤ Pt.cmp (⟨s1, l1, s2, l2, s3, l3, s4, l4⟩ : Pt) (⟨q1, k1, q2, k2, q3, k3, q4, k4⟩ : Pt)
      case pos =>
        simp only [z1, z2, z3, z4, w1, w2, w3, w4, w5, or_true, true_or, false_or, or_false, not_true_eq_false, not_false_eq_true, if_true, if_false, ovE] at hG
        cases hG
        refine ⟨rfl, by simp, ?_⟩
        simp only [c24, G0, Nat.reduceAdd]
        simp only [↓R0, R1, simprocAttr, -Int.reduceAbs, rab, rcd, c1, c2, x11, x12, x21, x22, y1, y2, y3, y4, y5, y6, y7, y8, y9, y10, z1, z2, z3, z4, w1, w2, w3, w4, w5, gt_iff_lt, ge_iff_le, Bool.not_true, Bool.not_false, decide_true, decide_false, pZ, Fin, isEnd, resL, res1, iE, rE]
        exact ⟨_, rfl, rfl, fun k hk => by simp only [ne_nb hk, if_false]⟩
      simp only [z1, z2, z3, z4, w1, w2, w3, w4, w5, or_true, true_or, false_or, or_false, not_true_eq_false, not_false_eq_true, if_true, if_false, ovE] at hG
      cases hG
      refine ⟨rfl, by simp, ?_⟩
      simp only [c24, G0, Nat.reduceAdd]
      simp only [↓R0, R1, simprocAttr, -Int.reduceAbs, rab, rcd, c1, c2, x11, x12, x21, x22, y1, y2, y3, y4, y5, y6, y7, y8, y9, y10, z1, z2, z3, z4, w1, w2, w3, w4, w5, gt_iff_lt, ge_iff_le, Bool.not_true, Bool.not_false, decide_true, decide_false, Fin, isEnd, resL, res1, iE, rE]
      exact ⟨_, rfl, rfl, fun k hk => by simp only [ne_nb hk, if_false]⟩
    by_cases w5 : 0 ≤ Pt.cmp (⟨s1, l1, s2, l2, s3, l3, s4, l4⟩ : Pt) (⟨t1, m1, t2, m2, t3, m3, t4, m4⟩ : Pt)
    case pos =>
      simp only [z1, z2, z3, z4, w1, w2, w3, w4, w5, or_true, true_or, false_or, or_false, not_true_eq_false, not_false_eq_true, if_true, if_false, ovE] at hG
      cases hG
      refine ⟨rfl, by simp, ?_⟩
      simp only [c24, G0, Nat.reduceAdd]
      simp only [↓R0, R1, simprocAttr, -Int.reduceAbs, rab, rcd, c1, c2, x11, x12, x21, x22, y1, y2, y3, y4, y5, y6, y7, y8, y9, y10, z1, z2, z3, z4, w1, w2, w3, w4, w5, gt_iff_lt, ge_iff_le, Bool.not_true, Bool.not_false, decide_true, decide_false, pZ, Fin, isEnd, resL, res1, iE, rE]
      exact ⟨_, rfl, rfl, fun k hk => by simp only [ne_nb hk, if_false]⟩
    simp only [z1, z2, z3, z4, w1, w2, w3, w4, w5, or_true, true_or, false_or, or_false, not_true_eq_false, not_false_eq_true, if_true, if_false, ovE] at hG
    cases hG
    refine ⟨rfl, by simp, ?_⟩
    simp only [c24, G0, Nat.reduceAdd]
    simp only [↓R0, R1, simprocAttr, -Int.reduceAbs, rab, rcd, c1, c2, x11, x12, x21, x22, y1, y2, y3, y4, y5, y6, y7, y8, y9, y10, z1, z2, z3, z4, w1, w2, w3, w4, w5, gt_iff_lt, ge_iff_le, Bool.not_true, Bool.not_false, decide_true, decide_false, Fin, isEnd, resL, res1, iE, rE]
    exact ⟨_, rfl, rfl, fun k hk => by simp only [ne_nb hk, if_false]⟩
  by_cases w3 : 0 < Pt.cmp (⟨q1, k1, q2, k2, q3, k3, q4, k4⟩ : Pt) (⟨s1, l1, s2, l2, s3, l3, s4, l4⟩ : Pt)
  case pos =>
    by_cases w4 : Pt.cmp (⟨p1, j1, p2, j2, p3, j3, p4, j4⟩ : Pt) (⟨t1, m1, t2, m2, t3, m3, t4, m4⟩ : Pt) < 0
    case pos =>
      by_cases w5 : 0 ≤ Pt.cmp (⟨q1, k1, q2, k2, q3, k3, q4, k4⟩ : Pt) (⟨p1, j1, p2, j2, p3, j3, p4, j4⟩ : Pt)
      case pos =>
        simp only [z1, z2, z3, z4, w1, w2, w3, w4, w5, or_true, true_or, false_or, or_false, not_true_eq_false, not_false_eq_true, if_true, if_false, ovE] at hG
        cases hG
        refine ⟨rfl, by simp, ?_⟩
        simp only [c24, G0, Nat.reduceAdd]
        simp only [↓R0, R1, simprocAttr, -Int.reduceAbs, rab, rcd, c1, c2, x11, x12, x21, x22, y1, y2, y3, y4, y5, y6, y7, y8, y9, y10, z1, z2, z3, z4, w1, w2, w3, w4, w5, gt_iff_lt, ge_iff_le, Bool.not_true, Bool.not_false, decide_true, decide_false, pZ, Fin, isEnd, resL, res1, iE, rE]
        exact ⟨_, rfl, rfl, fun k hk => by simp only [ne_nb hk, if_false]⟩
      simp only [z1, z2, z3, z4, w1, w2, w3, w4, w5, or_true, true_or, false_or, or_false, not_true_eq_false, not_false_eq_true, if_true, if_false, ovE] at hG
      cases hG
      refine ⟨rfl, by simp, ?_⟩
      simp only [c24, G0, Nat.reduceAdd]
      simp only [↓R0, R1, simprocAttr, -Int.reduceAbs, rab, rcd, c1, c2, x11, x12, x21, x22, y1, y2, y3, y4, y5, y6, y7, y8, y9, y10, z1, z2, z3, z4, w1, w2, w3, w4, w5, gt_iff_lt, ge_iff_le, Bool.not_true, Bool.not_false, decide_true, decide_false, Fin, isEnd, resL, res1, iE, rE]
      exact ⟨_, rfl, rfl, fun k hk => by simp only [ne_nb hk, if_false]⟩
    by_cases w5 : 0 ≤ Pt.cmp (⟨q1, k1, q2, k2, q3, k3, q4, k4⟩ : Pt) (⟨t1, m1, t2, m2, t3, m3, t4, m4⟩ : Pt)
    case pos =>
      simp only [z1, z2, z3, z4, w1, w2, w3, w4, w5, or_true, true_or, false_or, or_false, not_true_eq_false, not_false_eq_true, if_true, if_false, ovE] at hG
      cases hG
      refine ⟨rfl, by simp, ?_⟩
      simp only [c24, G0, Nat.reduceAdd]
      simp only [↓R0, R1, simprocAttr, -Int.reduceAbs, rab, rcd, c1, c2, x11, x12, x21, x22, y1, y2, y3, y4, y5, y6, y7, y8, y9, y10, z1, z2, z3, z4, w1, w2, w3, w4, w5, gt_iff_lt, ge_iff_le, Bool.not_true, Bool.not_false, decide_true, decide_false, pZ, Fin, isEnd, resL, res1, iE, rE]
      exact ⟨_, rfl, rfl, fun k hk => by simp only [ne_nb hk, if_false]⟩
    simp only [z1, z2, z3, z4, w1, w2, w3, w4, w5, or_true, true_or, false_or, or_false, not_true_eq_false, not_false_eq_true, if_true, if_false, ovE] at hG
    cases hG
    refine ⟨rfl, by simp, ?_⟩
    simp only [c24, G0, Nat.reduceAdd]
    simp only [↓R0, R1, simprocAttr, -Int.reduceAbs, rab, rcd, c1, c2, x11, x12, x21, x22, y1, y2, y3, y4, y5, y6, y7, y8, y9, y10, z1, z2, z3, z4, w1, w2, w3, w4, w5, gt_iff_lt, ge_iff_le, Bool.not_true, Bool.not_false, decide_true, decide_false, Fin, isEnd, resL, res1, iE, rE]
    exact ⟨_, rfl, rfl, fun k hk => by simp only [ne_nb hk, if_false]⟩
  by_cases w4 : Pt.cmp (⟨p1, j1, p2, j2, p3, j3, p4, j4⟩ : Pt) (⟨t1, m1, t2, m2, t3, m3, t4, m4⟩ : Pt) < 0
  case pos =>
    by_cases w5 : 0 ≤ Pt.cmp (⟨s1, l1, s2, l2, s3, l3, s4, l4⟩ : Pt) (⟨p1, j1, p2, j2, p3, j3, p4, j4⟩ : Pt)
    case pos =>
      simp only [z1, z2, z3, z4, w1, w2, w3, w4, w5, or_true, true_or, false_or, or_false, not_true_eq_false, not_false_eq_true, if_true, if_false, ovE] at hG
      cases hG
      refine ⟨rfl, by simp, ?_⟩
      simp only [c24, G0, Nat.reduceAdd]
      simp only [↓R0, R1, simprocAttr, -Int.reduceAbs, rab, rcd, c1, c2, x11, x12, x21, x22, y1, y2, y3, y4, y5, y6, y7, y8, y9, y10, z1, z2, z3, z4, w1, w2, w3, w4, w5, gt_iff_lt, ge_iff_le, Bool.not_true, Bool.not_false, decide_true, decide_false, pZ, Fin, isEnd, resL, res1, iE, rE]
      exact ⟨_, rfl, rfl, fun k hk => by simp only [ne_nb hk, if_false]⟩
    simp only [z1, z2, z3, z4, w1, w2, w3, w4, w5, or_true, true_or, false_or, or_false, not_true_eq_false, not_false_eq_true, if_true, if_false, ovE] at hG
    cases hG
    refine ⟨rfl, by simp, ?_⟩
    simp only [c24, G0, Nat.reduceAdd]
    simp only [↓R0, R1, simprocAttr, -Int.reduceAbs, rab, rcd, c1, c2, x11, x12, x21, x22, y1, y2, y3, y4, y5, y6, y7, y8, y9, y10, z1, z2, z3, z4, w1, w2, w3, w4, w5, gt_iff_lt, ge_iff_le, Bool.not_true, Bool.not_false, decide_true, decide_false, Fin, isEnd, resL, res1, iE, rE]
    exact ⟨_, rfl, rfl, fun k hk => by simp only [ne_nb hk, if_false]⟩
  by_cases w5 : 0 ≤ Pt.cmp (⟨s1, l1, s2, l2, s3, l3, s4, l4⟩ : Pt) (⟨t1, m1, t2, m2, t3, m3, t4, m4⟩ : Pt)
  case pos =>
    simp only [z1, z2, z3, z4, w1, w2, w3, w4, w5, or_true, true_or, false_or, or_false, not_true_eq_false, not_false_eq_true, if_true, if_false, ovE] at hG
    cases hG
    refine ⟨rfl, by simp, ?_⟩
    simp only [c24, G0, Nat.reduceAdd]
    simp only [↓R0, R1, simprocAttr, -Int.reduceAbs, rab, rcd, c1, c2, x11, x12, x21, x22, y1, y2, y3, y4, y5, y6, y7, y8, y9, y10, z1, z2, z3, z4, w1, w2, w3, w4, w5, gt_iff_lt, ge_iff_le, Bool.not_true, Bool.not_false, decide_true, decide_false, pZ, Fin, isEnd, resL, res1, iE, rE]
    exact ⟨_, rfl, rfl, fun k hk => by simp only [ne_nb hk, if_false]⟩
  simp only [z1, z2, z3, z4, w1, w2, w3, w4, w5, or_true, true_or, false_or, or_false, not_true_eq_false, not_false_eq_true, if_true, if_false, ovE] at hG
  cases hG
  refine ⟨rfl, by simp, ?_⟩
  simp only [c24, G0, Nat.reduceAdd]
  simp only [↓R0, R1, simprocAttr, -Int.reduceAbs, rab, rcd, c1, c2, x11, x12, x21, x22, y1, y2, y3, y4, y5, y6, y7, y8, y9, y10, z1, z2, z3, z4, w1, w2, w3, w4, w5, gt_iff_lt, ge_iff_le, Bool.not_true, Bool.not_false, decide_true, decide_false, Fin, isEnd, resL, res1, iE, rE]
  exact ⟨_, rfl, rfl, fun k hk => by simp only [ne_nb hk, if_false]⟩
end Go.Eng
end
section
set_option linter.unusedVariables false
set_option linter.unusedSimpArgs false
set_option linter.unusedSectionVars false
set_option maxRecDepth 20000
namespace Go.Eng
open Go Go.Proofs Go.IntWalk
def spXThree : List Value → Option Value
  | [.agg ⟨[.bool sa1, .string ⟨⟨la1⟩⟩, .bool sa2, .string ⟨⟨la2⟩⟩, .bool sa3, .string ⟨⟨la3⟩⟩, .bool sa4, .string ⟨⟨la4⟩⟩]⟩, .agg ⟨[.bool sb1, .string ⟨⟨lb1⟩⟩, .bool sb2, .string ⟨⟨lb2⟩⟩, .bool sb3, .string ⟨⟨lb3⟩⟩, .bool sb4, .string ⟨⟨lb4⟩⟩]⟩, .agg ⟨[.bool sc1, .string ⟨⟨lc1⟩⟩, .bool sc2, .string ⟨⟨lc2⟩⟩, .bool sc3, .string ⟨⟨lc3⟩⟩, .bool sc4, .string ⟨⟨lc4⟩⟩]⟩] =>
    if la1.length ≤ 2147483648 ∧ la2.length ≤ 2147483648 ∧ la3.length ≤ 2147483648 ∧ la4.length ≤ 2147483648 ∧ lb1.length ≤ 2147483648 ∧ lb2.length ≤ 2147483648 ∧ lb3.length ≤ 2147483648 ∧ lb4.length ≤ 2147483648 ∧ lc1.length ≤ 2147483648 ∧ lc2.length ≤ 2147483648 ∧ lc3.length ≤ 2147483648 ∧ lc4.length ≤ 2147483648 then
      (if sv sa1 la1 * (sv sb2 lb2 * sv sc3 lc3 - sv sb3 lb3 * sv sc2 lc2) + sv sa2 la2 * (sv sb3 lb3 * sv sc1 lc1 - sv sb1 lb1 * sv sc3 lc3) + sv sa3 la3 * (sv sb1 lb1 * sv sc2 lc2 - sv sb2 lb2 * sv sc1 lc1) = 0 then some (.tuple ⟨[.agg ⟨pZ⟩, .bool false]⟩) else some (.tuple ⟨[.agg ⟨pE (sv sa4 la4 * (sv sb2 lb2 * sv sc3 lc3 - sv sb3 lb3 * sv sc2 lc2) + sv sb4 lb4 * (sv sc2 lc2 * sv sa3 la3 - sv sc3 lc3 * sv sa2 la2) + sv sc4 lc4 * (sv sa2 la2 * sv sb3 lb3 - sv sa3 la3 * sv sb2 lb2)) (sv sa4 la4 * (sv sb3 lb3 * sv sc1 lc1 - sv sb1 lb1 * sv sc3 lc3) + sv sb4 lb4 * (sv sc3 lc3 * sv sa1 la1 - sv sc1 lc1 * sv sa3 la3) + sv sc4 lc4 * (sv sa3 la3 * sv sb1 lb1 - sv sa1 la1 * sv sb3 lb3)) (sv sa4 la4 * (sv sb1 lb1 * sv sc2 lc2 - sv sb2 lb2 * sv sc1 lc1) + sv sb4 lb4 * (sv sc1 lc1 * sv sa2 la2 - sv sc2 lc2 * sv sa1 la1) + sv sc4 lc4 * (sv sa1 la1 * sv sb2 lb2 - sv sa2 la2 * sv sb1 lb1)) (sv sa1 la1 * (sv sb2 lb2 * sv sc3 lc3 - sv sb3 lb3 * sv sc2 lc2) + sv sa2 la2 * (sv sb3 lb3 * sv sc1 lc1 - sv sb1 lb1 * sv sc3 lc3) + sv sa3 la3 * (sv sb1 lb1 * sv sc2 lc2 - sv sb2 lb2 * sv sc1 lc1))⟩, .bool true]⟩)) else none
  | _ => none
def c11 : ICode :=
  (.seq (.reg [qq 3 (.box 25 8 (.t 0)), qq 4 (.box 25 8 (.t 1)), qq 5 (.box 25 8 (.t 2)), qq 6 (.alloc 30 8 [(.bool false), e0, (.bool false), e0, (.bool false), e0, (.bool false), e0]), qq 7 (.mv (.c (.bool false)))]) (.seq (.reg [qq 14 (.load true 8 (.t 3)), qq 15 (.load true 8 (.t 4)), qq 16 (.load true 8 (.t 5)), qq 17 (.build [(.bool false), e0, (.bool false), e0, (.bool false), e0, (.bool false), e0, (.bool false), e0, (.bool false), e0, (.bool false), e0, (.bool false), e0, (.bool false), e0, (.bool false), e0, (.bool false), e0, (.bool false), e0] [(0, 8, (.t 14)), (8, 8, (.t 15)), (16, 8, (.t 16))]), qq 8 (.alloc 58 24 [(.bool false), e0, (.bool false), e0, (.bool false), e0, (.bool false), e0, (.bool false), e0, (.bool false), e0, (.bool false), e0, (.bool false), e0, (.bool false), e0, (.bool false), e0, (.bool false), e0, (.bool false), e0]), qn (.store 24 (.t 8) (.t 17))]) (.seq (.reg [qq 9 (.alloc 60 6 [(.bool false), e0, (.bool false), e0, (.bool false), e0])]) (.seq (.seq (.reg [qq 18 (.load true 24 (.t 8)), qq 19 (.mv (ci 0))]) (.block 0 (.loop (.seq (.reg [qq 20 (.bin .lss (.t 19) (ci 3))]) (.seq (.cond (.t 20) .skip (.exit 0)) (.seq (.block 1 (.seq (.reg [qq 21 (.mv (.t 19)), qq 22 (.idarr 3 true 8 (.t 18) (.t 19)), qq 11 (.alloc 25 8 [(.bool false), e0, (.bool false), e0, (.bool false), e0, (.bool false), e0]), qq 10 (.mv (.t 21)), qn (.store 8 (.t 11) (.t 22))]) (.seq (.dreg [qu 23 (.mv (.t 10)), qu 24 (.bin .add (.t 23) (ci 1)), qu 25 (.bin .rem (.t 24) (ci 3)), qu 26 (.ixarr 3 8 (.t 8) (.t 25)), qu 27 (.load true 8 (.t 26)), qu 28 (.call 33 [(.t 27)]), qu 29 (.mv (.t 10)), qu 30 (.bin .add (.t 29) (ci 2)), qu 31 (.bin .rem (.t 30) (ci 3)), qu 32 (.ixarr 3 8 (.t 8) (.t 31)), qv 33 [5] (.load true 8 (.t 32)), qu 34 (.call 33 [(.t 33)]), qu 35 (.call 32 [(.t 28), (.t 34)]), qu 12 (.alloc 60 6 [(.bool false), e0, (.bool false), e0, (.bool false), e0]), qm (.store 6 (.t 12) (.t 35))]) (.seq (.reg [qq 36 (.mv (ci 0))]) (.block 2 (.loop (.seq (.reg [qq 37 (.bin .lss (.t 36) (ci 3))]) (.seq (.cond (.t 37) .skip (.exit 2)) (.seq (.block 3 (.seq (.reg [qq 38 (.mv (.t 36)), qq 13 (.mv (.t 38))]) (.dreg [qu 39 (.mv (.t 13)), qu 40 (.mv (.t 13)), qu 41 (.ixarr 3 2 (.t 9) (.t 40)), qu 42 (.load true 2 (.t 41)), qu 43 (.faddr 6 (.t 11)), qu 44 (.load true 2 (.t 43)), qu 45 (.mv (.t 13)), qu 46 (.ixarr 3 2 (.t 12) (.t 45)), qu 47 (.load true 2 (.t 46)), qu 48 (.call 35 [(.t 44), (.t 47)]), qu 49 (.call 34 [(.t 42), (.t 48)]), qu 50 (.ixarr 3 2 (.t 9) (.t 39)), qm (.store 2 (.t 50) (.t 49))]))) (.reg [qq 51 (.bin .add (.t 36) (ci 1)), qq 36 (.mv (.t 51))])))))))))) (.reg [qq 52 (.bin .add (.t 19) (ci 1)), qq 19 (.mv (.t 52))]))))))) (.seq (.dreg [qu 53 (.load true 6 (.t 9)), qu 54 (.load true 8 (.t 3)), qu 55 (.call 33 [(.t 54)]), qv 56 [2] (.load true 8 (.t 4)), qu 57 (.call 33 [(.t 56)]), qv 58 [2, 4] (.load true 8 (.t 5)), qu 59 (.call 33 [(.t 58)]), qu 60 (.call 32 [(.t 57), (.t 59)]), qu 61 (.call 37 [(.t 55), (.t 60)]), qu 62 (.call 36 [(.t 53), (.t 61)]), qu 63 (.ext (.t 62) 0), qu 64 (.ext (.t 62) 1), qm (.store 8 (.t 6) (.t 63)), qu 7 (.mv (.t 64))]) .ret)))))
theorem tr11 : trFun Tryz.prog 11 = some ⟨65, [.cell 6 true 8, .t 7], c11⟩ := by kernel_rfl
set_option maxHeartbeats 8000000 in
theorem ok_xThree : SpecOK Tryz.prog 11 (flat spXThree) := by
  refine flat_run (env_cons ok_xNormal (env_cons ok_xCross (env_cons ok_xDot (env_cons ok_xMade (env_cons ok_iMul (env_cons ok_iAdd (env_nil _))))))) mixed tr11 ?_
  intro args v h N hG
  unfold spXThree at hG
  split at hG
  case h_2 => cases hG
  rename_i sa1 la1 sa2 la2 sa3 la3 sa4 la4 sb1 lb1 sb2 lb2 sb3 lb3 sb4 lb4 sc1 lc1 sc2 lc2 sc3 lc3 sc4 lc4
  split at hG
  case isFalse => cases hG
  rename_i hl
  obtain ⟨ha1, ha2, ha3, ha4, hb1, hb2, hb3, hb4, hc1, hc2, hc3, hc4⟩ := hl
  have na1 := len_sv (s := sa1) ha1
  have ra1 : la1.length ≤ 4294967296 := by omega
  have qa1 : la1.length ≤ 17179869184 := by omega
  have na2 := len_sv (s := sa2) ha2
  have ra2 : la2.length ≤ 4294967296 := by omega
  have qa2 : la2.length ≤ 17179869184 := by omega
  have na3 := len_sv (s := sa3) ha3
  have ra3 : la3.length ≤ 4294967296 := by omega
  have qa3 : la3.length ≤ 17179869184 := by omega
  have na4 := len_sv (s := sa4) ha4
  have ra4 : la4.length ≤ 34359738368 := by omega
  have nb1 := len_sv (s := sb1) hb1
  have rb1 : lb1.length ≤ 4294967296 := by omega
  have qb1 : lb1.length ≤ 17179869184 := by omega
  have nb2 := len_sv (s := sb2) hb2
  have rb2 : lb2.length ≤ 4294967296 := by omega
  have qb2 : lb2.length ≤ 17179869184 := by omega
  have nb3 := len_sv (s := sb3) hb3
  have rb3 : lb3.length ≤ 4294967296 := by omega
  have qb3 : lb3.length ≤ 17179869184 := by omega
  have nb4 := len_sv (s := sb4) hb4
  have rb4 : lb4.length ≤ 34359738368 := by omega
  have nc1 := len_sv (s := sc1) hc1
  have rc1 : lc1.length ≤ 4294967296 := by omega
  have qc1 : lc1.length ≤ 17179869184 := by omega
  have nc2 := len_sv (s := sc2) hc2
  have rc2 : lc2.length ≤ 4294967296 := by omega
  have qc2 : lc2.length ≤ 17179869184 := by omega
  have nc3 := len_sv (s := sc3) hc3
  have rc3 : lc3.length ≤ 4294967296 := by omega
  have qc3 : lc3.length ≤ 17179869184 := by omega
  have nc4 := len_sv (s := sc4) hc4
  have rc4 : lc4.length ≤ 34359738368 := by omega
  have zbc0 := lsub (k := 8589934592) (lmul (k := 4294967296) nb2 nc3 (by omega)) (lmul (k := 4294967296) nb3 nc2 (by omega)) (by omega)
  obtain ⟨Zbc0, ebc0⟩ : ∃ z, sv sb2 lb2 * sv sc3 lc3 - sv sb3 lb3 * sv sc2 lc2 = z := ⟨_, rfl⟩
  rw [ebc0] at hG zbc0
  have ybc0 := lle (k := 34359738368) zbc0 (by omega)
  have xbc0 := lmul (k := 12884901888) na4 zbc0 (by omega)
  have wbc0 := lle (k := 68719476736) xbc0 (by omega)
  have zbc1 := lsub (k := 8589934592) (lmul (k := 4294967296) nb3 nc1 (by omega)) (lmul (k := 4294967296) nb1 nc3 (by omega)) (by omega)
  obtain ⟨Zbc1, ebc1⟩ : ∃ z, sv sb3 lb3 * sv sc1 lc1 - sv sb1 lb1 * sv sc3 lc3 = z := ⟨_, rfl⟩
  rw [ebc1] at hG zbc1
  have ybc1 := lle (k := 34359738368) zbc1 (by omega)
  have xbc1 := lmul (k := 12884901888) na4 zbc1 (by omega)
  have wbc1 := lle (k := 68719476736) xbc1 (by omega)
  have zbc2 := lsub (k := 8589934592) (lmul (k := 4294967296) nb1 nc2 (by omega)) (lmul (k := 4294967296) nb2 nc1 (by omega)) (by omega)
  obtain ⟨Zbc2, ebc2⟩ : ∃ z, sv sb1 lb1 * sv sc2 lc2 - sv sb2 lb2 * sv sc1 lc1 = z := ⟨_, rfl⟩
  rw [ebc2] at hG zbc2
  have ybc2 := lle (k := 34359738368) zbc2 (by omega)
  have xbc2 := lmul (k := 12884901888) na4 zbc2 (by omega)
  have wbc2 := lle (k := 68719476736) xbc2 (by omega)
  have zca0 := lsub (k := 8589934592) (lmul (k := 4294967296) nc2 na3 (by omega)) (lmul (k := 4294967296) nc3 na2 (by omega)) (by omega)
  obtain ⟨Zca0, eca0⟩ : ∃ z, sv sc2 lc2 * sv sa3 la3 - sv sc3 lc3 * sv sa2 la2 = z := ⟨_, rfl⟩
  rw [eca0] at hG zca0
  have yca0 := lle (k := 34359738368) zca0 (by omega)
  have xca0 := lmul (k := 12884901888) nb4 zca0 (by omega)
  have wca0 := lle (k := 68719476736) xca0 (by omega)
  have zca1 := lsub (k := 8589934592) (lmul (k := 4294967296) nc3 na1 (by omega)) (lmul (k := 4294967296) nc1 na3 (by omega)) (by omega)
  obtain ⟨Zca1, eca1⟩ : ∃ z, sv sc3 lc3 * sv sa1 la1 - sv sc1 lc1 * sv sa3 la3 = z := ⟨_, rfl⟩
  rw [eca1] at hG zca1
  have yca1 := lle (k := 34359738368) zca1 (by omega)
  have xca1 := lmul (k := 12884901888) nb4 zca1 (by omega)
  have wca1 := lle (k := 68719476736) xca1 (by omega)
  have zca2 := lsub (k := 8589934592) (lmul (k := 4294967296) nc1 na2 (by omega)) (lmul (k := 4294967296) nc2 na1 (by omega)) (by omega)
  obtain ⟨Zca2, eca2⟩ : ∃ z, sv sc1 lc1 * sv sa2 la2 - sv sc2 lc2 * sv sa1 la1 = z := ⟨_, rfl⟩
  rw [eca2] at hG zca2
  have yca2 := lle (k := 34359738368) zca2 (by omega)
  have xca2 := lmul (k := 12884901888) nb4 zca2 (by omega)
  have wca2 := lle (k := 68719476736) xca2 (by omega)
  have zab0 := lsub (k := 8589934592) (lmul (k := 4294967296) na2 nb3 (by omega)) (lmul (k := 4294967296) na3 nb2 (by omega)) (by omega)
  obtain ⟨Zab0, eab0⟩ : ∃ z, sv sa2 la2 * sv sb3 lb3 - sv sa3 la3 * sv sb2 lb2 = z := ⟨_, rfl⟩
  rw [eab0] at hG zab0
  have yab0 := lle (k := 34359738368) zab0 (by omega)
  have xab0 := lmul (k := 12884901888) nc4 zab0 (by omega)
  have wab0 := lle (k := 68719476736) xab0 (by omega)
  have zab1 := lsub (k := 8589934592) (lmul (k := 4294967296) na3 nb1 (by omega)) (lmul (k := 4294967296) na1 nb3 (by omega)) (by omega)
  obtain ⟨Zab1, eab1⟩ : ∃ z, sv sa3 la3 * sv sb1 lb1 - sv sa1 la1 * sv sb3 lb3 = z := ⟨_, rfl⟩
  rw [eab1] at hG zab1
  have yab1 := lle (k := 34359738368) zab1 (by omega)
  have xab1 := lmul (k := 12884901888) nc4 zab1 (by omega)
  have wab1 := lle (k := 68719476736) xab1 (by omega)
  have zab2 := lsub (k := 8589934592) (lmul (k := 4294967296) na1 nb2 (by omega)) (lmul (k := 4294967296) na2 nb1 (by omega)) (by omega)
  obtain ⟨Zab2, eab2⟩ : ∃ z, sv sa1 la1 * sv sb2 lb2 - sv sa2 la2 * sv sb1 lb1 = z := ⟨_, rfl⟩
  rw [eab2] at hG zab2
  have yab2 := lle (k := 34359738368) zab2 (by omega)
  have xab2 := lmul (k := 12884901888) nc4 zab2 (by omega)
  have wab2 := lle (k := 68719476736) xab2 (by omega)
  have t0 := lle (k := 17179869184) zbc0 (by omega)
  have u0 := ladd (k := 12884901889) xbc0 xca0 (by omega)
  have ul0 := lle (k := 68719476736) u0 (by omega)
  have S0 := ladd (k := 34359738368) u0 xab0 (by omega)
  have t1 := lle (k := 17179869184) zbc1 (by omega)
  have u1 := ladd (k := 12884901889) xbc1 xca1 (by omega)
  have ul1 := lle (k := 68719476736) u1 (by omega)
  have S1 := ladd (k := 34359738368) u1 xab1 (by omega)
  have t2 := lle (k := 17179869184) zbc2 (by omega)
  have u2 := ladd (k := 12884901889) xbc2 xca2 (by omega)
  have ul2 := lle (k := 68719476736) u2 (by omega)
  have S2 := ladd (k := 34359738368) u2 xab2 (by omega)
  have W0 := ladd (k := 34359738368) (ladd (k := 17179869184) (lmul (k := 12884901888) na1 zbc0 (by omega)) (lmul (k := 12884901888) na2 zbc1 (by omega)) (by omega)) (lmul (k := 12884901888) na3 zbc2 (by omega)) (by omega)
  have z0 : sv false [] = 0 := rfl
  have zl0 : (bl (Int.natAbs 0)).length ≤ 34359738368 := by rw [show Int.natAbs 0 = 0 from rfl, bl_zero]; exact Nat.zero_le _
  have zs0 : sv false (bl (Int.natAbs 0)) = 0 := by rw [sv_bl]; rfl
  have i1 : IntKind.i64.wrap 1 = 1 := i64_in _ (by omega)
  have i2 : IntKind.i64.wrap 2 = 2 := i64_in _ (by omega)
  have i3 : IntKind.i64.wrap 3 = 3 := i64_in _ (by omega)
  have i4 : IntKind.i64.wrap 4 = 4 := i64_in _ (by omega)
  have m1 : Int.tmod 1 3 = 1 := rfl
  have m2 : Int.tmod 2 3 = 2 := rfl
  have m3 : Int.tmod 3 3 = 0 := rfl
  have m4 : Int.tmod 4 3 = 1 := rfl
  split at hG
  · rename_i hw
    cases hG
    refine ⟨rfl, by simp, ?_⟩
    simp only [c11, G0, Nat.reduceAdd]
    simp only [↓R0, R1, simprocAttr, -Int.reduceAbs]
    refine lp_step ?_
    simp only [↓R0, R1, simprocAttr, -Int.reduceAbs, ra1, qa1, ra2, qa2, ra3, qa3, ra4, rb1, qb1, rb2, qb2, rb3, qb3, rb4, rc1, qc1, rc2, qc2, rc3, qc3, rc4, ebc0, ybc0, wbc0, ebc1, ybc1, wbc1, ebc2, ybc2, wbc2, eca0, yca0, wca0, eca1, yca1, wca1, eca2, yca2, wca2, eab0, yab0, wab0, eab1, yab1, wab1, eab2, yab2, wab2, t0, ul0, S0, t1, ul1, S1, t2, ul2, S2, W0, z0, Int.zero_add, Nat.zero_le, i1, i2, i3, i4, m1, m2, m3, m4, spXNormal, spXCross, tE, spIMul, spIAdd, iE]
    refine lp_step ?_
    simp only [↓R0, R1, simprocAttr, -Int.reduceAbs, ra1, qa1, ra2, qa2, ra3, qa3, ra4, rb1, qb1, rb2, qb2, rb3, qb3, rb4, rc1, qc1, rc2, qc2, rc3, qc3, rc4, ebc0, ybc0, wbc0, ebc1, ybc1, wbc1, ebc2, ybc2, wbc2, eca0, yca0, wca0, eca1, yca1, wca1, eca2, yca2, wca2, eab0, yab0, wab0, eab1, yab1, wab1, eab2, yab2, wab2, t0, ul0, S0, t1, ul1, S1, t2, ul2, S2, W0, z0, Int.zero_add, Nat.zero_le, i1, i2, i3, i4, m1, m2, m3, m4, spXNormal, spXCross, tE, spIMul, spIAdd, iE]
    refine lp_step ?_
    simp only [↓R0, R1, simprocAttr, -Int.reduceAbs, ra1, qa1, ra2, qa2, ra3, qa3, ra4, rb1, qb1, rb2, qb2, rb3, qb3, rb4, rc1, qc1, rc2, qc2, rc3, qc3, rc4, ebc0, ybc0, wbc0, ebc1, ybc1, wbc1, ebc2, ybc2, wbc2, eca0, yca0, wca0, eca1, yca1, wca1, eca2, yca2, wca2, eab0, yab0, wab0, eab1, yab1, wab1, eab2, yab2, wab2, t0, ul0, S0, t1, ul1, S1, t2, ul2, S2, W0, z0, Int.zero_add, Nat.zero_le, i1, i2, i3, i4, m1, m2, m3, m4, spXNormal, spXCross, tE, spIMul, spIAdd, iE]
    refine lp_step ?_
    simp only [↓R0, R1, simprocAttr, -Int.reduceAbs, ra1, qa1, ra2, qa2, ra3, qa3, ra4, rb1, qb1, rb2, qb2, rb3, qb3, rb4, rc1, qc1, rc2, qc2, rc3, qc3, rc4, ebc0, ybc0, wbc0, ebc1, ybc1, wbc1, ebc2, ybc2, wbc2, eca0, yca0, wca0, eca1, yca1, wca1, eca2, yca2, wca2, eab0, yab0, wab0, eab1, yab1, wab1, eab2, yab2, wab2, t0, ul0, S0, t1, ul1, S1, t2, ul2, S2, W0, z0, Int.zero_add, Nat.zero_le, i1, i2, i3, i4, m1, m2, m3, m4, spXNormal, spXCross, tE, spIMul, spIAdd, iE]
    refine lp_step ?_
    simp only [↓R0, R1, simprocAttr, -Int.reduceAbs, ra1, qa1, ra2, qa2, ra3, qa3, ra4, rb1, qb1, rb2, qb2, rb3, qb3, rb4, rc1, qc1, rc2, qc2, rc3, qc3, rc4, ebc0, ybc0, wbc0, ebc1, ybc1, wbc1, ebc2, ybc2, wbc2, eca0, yca0, wca0, eca1, yca1, wca1, eca2, yca2, wca2, eab0, yab0, wab0, eab1, yab1, wab1, eab2, yab2, wab2, t0, ul0, S0, t1, ul1, S1, t2, ul2, S2, W0, z0, Int.zero_add, Nat.zero_le, i1, i2, i3, i4, m1, m2, m3, m4, spXNormal, spXCross, tE, spIMul, spIAdd, iE]
    refine lp_step ?_
    simp only [↓R0, R1, simprocAttr, -Int.reduceAbs, ra1, qa1, ra2, qa2, ra3, qa3, ra4, rb1, qb1, rb2, qb2, rb3, qb3, rb4, rc1, qc1, rc2, qc2, rc3, qc3, rc4, ebc0, ybc0, wbc0, ebc1, ybc1, wbc1, ebc2, ybc2, wbc2, eca0, yca0, wca0, eca1, yca1, wca1, eca2, yca2, wca2, eab0, yab0, wab0, eab1, yab1, wab1, eab2, yab2, wab2, t0, ul0, S0, t1, ul1, S1, t2, ul2, S2, W0, z0, Int.zero_add, Nat.zero_le, i1, i2, i3, i4, m1, m2, m3, m4, spXNormal, spXCross, tE, spIMul, spIAdd, iE]
    refine lp_step ?_
    simp only [↓R0, R1, simprocAttr, -Int.reduceAbs, ra1, qa1, ra2, qa2, ra3, qa3, ra4, rb1, qb1, rb2, qb2, rb3, qb3, rb4, rc1, qc1, rc2, qc2, rc3, qc3, rc4, ebc0, ybc0, wbc0, ebc1, ybc1, wbc1, ebc2, ybc2, wbc2, eca0, yca0, wca0, eca1, yca1, wca1, eca2, yca2, wca2, eab0, yab0, wab0, eab1, yab1, wab1, eab2, yab2, wab2, t0, ul0, S0, t1, ul1, S1, t2, ul2, S2, W0, z0, Int.zero_add, Nat.zero_le, i1, i2, i3, i4, m1, m2, m3, m4, spXNormal, spXCross, tE, spIMul, spIAdd, iE]
    refine lp_step ?_
    simp only [↓R0, R1, simprocAttr, -Int.reduceAbs, ra1, qa1, ra2, qa2, ra3, qa3, ra4, rb1, qb1, rb2, qb2, rb3, qb3, rb4, rc1, qc1, rc2, qc2, rc3, qc3, rc4, ebc0, ybc0, wbc0, ebc1, ybc1, wbc1, ebc2, ybc2, wbc2, eca0, yca0, wca0, eca1, yca1, wca1, eca2, yca2, wca2, eab0, yab0, wab0, eab1, yab1, wab1, eab2, yab2, wab2, t0, ul0, S0, t1, ul1, S1, t2, ul2, S2, W0, z0, Int.zero_add, Nat.zero_le, i1, i2, i3, i4, m1, m2, m3, m4, spXNormal, spXCross, tE, spIMul, spIAdd, iE]
    refine lp_step ?_
    simp only [↓R0, R1, simprocAttr, -Int.reduceAbs, ra1, qa1, ra2, qa2, ra3, qa3, ra4, rb1, qb1, rb2, qb2, rb3, qb3, rb4, rc1, qc1, rc2, qc2, rc3, qc3, rc4, ebc0, ybc0, wbc0, ebc1, ybc1, wbc1, ebc2, ybc2, wbc2, eca0, yca0, wca0, eca1, yca1, wca1, eca2, yca2, wca2, eab0, yab0, wab0, eab1, yab1, wab1, eab2, yab2, wab2, t0, ul0, S0, t1, ul1, S1, t2, ul2, S2, W0, z0, Int.zero_add, Nat.zero_le, i1, i2, i3, i4, m1, m2, m3, m4, spXNormal, spXCross, tE, spIMul, spIAdd, iE]
    refine lp_step ?_
    simp only [↓R0, R1, simprocAttr, -Int.reduceAbs, ra1, qa1, ra2, qa2, ra3, qa3, ra4, rb1, qb1, rb2, qb2, rb3, qb3, rb4, rc1, qc1, rc2, qc2, rc3, qc3, rc4, ebc0, ybc0, wbc0, ebc1, ybc1, wbc1, ebc2, ybc2, wbc2, eca0, yca0, wca0, eca1, yca1, wca1, eca2, yca2, wca2, eab0, yab0, wab0, eab1, yab1, wab1, eab2, yab2, wab2, t0, ul0, S0, t1, ul1, S1, t2, ul2, S2, W0, z0, Int.zero_add, Nat.zero_le, i1, i2, i3, i4, m1, m2, m3, m4, spXNormal, spXCross, tE, spIMul, spIAdd, iE]
    refine lp_step ?_
    simp only [↓R0, R1, simprocAttr, -Int.reduceAbs, ra1, qa1, ra2, qa2, ra3, qa3, ra4, rb1, qb1, rb2, qb2, rb3, qb3, rb4, rc1, qc1, rc2, qc2, rc3, qc3, rc4, ebc0, ybc0, wbc0, ebc1, ybc1, wbc1, ebc2, ybc2, wbc2, eca0, yca0, wca0, eca1, yca1, wca1, eca2, yca2, wca2, eab0, yab0, wab0, eab1, yab1, wab1, eab2, yab2, wab2, t0, ul0, S0, t1, ul1, S1, t2, ul2, S2, W0, z0, Int.zero_add, Nat.zero_le, i1, i2, i3, i4, m1, m2, m3, m4, spXNormal, spXCross, tE, spIMul, spIAdd, iE]
    refine lp_step ?_
    simp only [↓R0, R1, simprocAttr, -Int.reduceAbs, ra1, qa1, ra2, qa2, ra3, qa3, ra4, rb1, qb1, rb2, qb2, rb3, qb3, rb4, rc1, qc1, rc2, qc2, rc3, qc3, rc4, ebc0, ybc0, wbc0, ebc1, ybc1, wbc1, ebc2, ybc2, wbc2, eca0, yca0, wca0, eca1, yca1, wca1, eca2, yca2, wca2, eab0, yab0, wab0, eab1, yab1, wab1, eab2, yab2, wab2, t0, ul0, S0, t1, ul1, S1, t2, ul2, S2, W0, z0, Int.zero_add, Nat.zero_le, i1, i2, i3, i4, m1, m2, m3, m4, spXNormal, spXCross, tE, spIMul, spIAdd, iE]
    refine lp_step ?_
    simp only [↓R0, R1, simprocAttr, -Int.reduceAbs, ra1, qa1, ra2, qa2, ra3, qa3, ra4, rb1, qb1, rb2, qb2, rb3, qb3, rb4, rc1, qc1, rc2, qc2, rc3, qc3, rc4, ebc0, ybc0, wbc0, ebc1, ybc1, wbc1, ebc2, ybc2, wbc2, eca0, yca0, wca0, eca1, yca1, wca1, eca2, yca2, wca2, eab0, yab0, wab0, eab1, yab1, wab1, eab2, yab2, wab2, t0, ul0, S0, t1, ul1, S1, t2, ul2, S2, W0, z0, Int.zero_add, Nat.zero_le, i1, i2, i3, i4, m1, m2, m3, m4, spXNormal, spXCross, tE, spIMul, spIAdd, iE]
    refine lp_step ?_
    simp only [↓R0, R1, simprocAttr, -Int.reduceAbs, ra1, qa1, ra2, qa2, ra3, qa3, ra4, rb1, qb1, rb2, qb2, rb3, qb3, rb4, rc1, qc1, rc2, qc2, rc3, qc3, rc4, ebc0, ybc0, wbc0, ebc1, ybc1, wbc1, ebc2, ybc2, wbc2, eca0, yca0, wca0, eca1, yca1, wca1, eca2, yca2, wca2, eab0, yab0, wab0, eab1, yab1, wab1, eab2, yab2, wab2, t0, ul0, S0, t1, ul1, S1, t2, ul2, S2, W0, z0, Int.zero_add, Nat.zero_le, i1, i2, i3, i4, m1, m2, m3, m4, spXNormal, spXCross, tE, spIMul, spIAdd, iE]
    refine lp_step ?_
    simp only [↓R0, R1, simprocAttr, -Int.reduceAbs, ra1, qa1, ra2, qa2, ra3, qa3, ra4, rb1, qb1, rb2, qb2, rb3, qb3, rb4, rc1, qc1, rc2, qc2, rc3, qc3, rc4, ebc0, ybc0, wbc0, ebc1, ybc1, wbc1, ebc2, ybc2, wbc2, eca0, yca0, wca0, eca1, yca1, wca1, eca2, yca2, wca2, eab0, yab0, wab0, eab1, yab1, wab1, eab2, yab2, wab2, t0, ul0, S0, t1, ul1, S1, t2, ul2, S2, W0, z0, Int.zero_add, Nat.zero_le, i1, i2, i3, i4, m1, m2, m3, m4, spXNormal, spXCross, tE, spIMul, spIAdd, iE]
    refine lp_step ?_
    simp only [↓R0, R1, simprocAttr, -Int.reduceAbs, ra1, qa1, ra2, qa2, ra3, qa3, ra4, rb1, qb1, rb2, qb2, rb3, qb3, rb4, rc1, qc1, rc2, qc2, rc3, qc3, rc4, ebc0, ybc0, wbc0, ebc1, ybc1, wbc1, ebc2, ybc2, wbc2, eca0, yca0, wca0, eca1, yca1, wca1, eca2, yca2, wca2, eab0, yab0, wab0, eab1, yab1, wab1, eab2, yab2, wab2, t0, ul0, S0, t1, ul1, S1, t2, ul2, S2, W0, z0, Int.zero_add, Nat.zero_le, spXNormal, spXCross, tE, spXDot, spXMade, hw, zl0, zs0, Int.lt_irrefl, pZ, pE, Fin, isEnd, resL, res1, iE, rE]
    exact ⟨_, rfl, rfl, fun k hk => by simp only [ne_nb hk, if_false]⟩
  · rename_i hw
    cases hG
    refine ⟨rfl, by simp, ?_⟩
    simp only [c11, G0, Nat.reduceAdd]
    simp only [↓R0, R1, simprocAttr, -Int.reduceAbs]
    refine lp_step ?_
    simp only [↓R0, R1, simprocAttr, -Int.reduceAbs, ra1, qa1, ra2, qa2, ra3, qa3, ra4, rb1, qb1, rb2, qb2, rb3, qb3, rb4, rc1, qc1, rc2, qc2, rc3, qc3, rc4, ebc0, ybc0, wbc0, ebc1, ybc1, wbc1, ebc2, ybc2, wbc2, eca0, yca0, wca0, eca1, yca1, wca1, eca2, yca2, wca2, eab0, yab0, wab0, eab1, yab1, wab1, eab2, yab2, wab2, t0, ul0, S0, t1, ul1, S1, t2, ul2, S2, W0, z0, Int.zero_add, Nat.zero_le, i1, i2, i3, i4, m1, m2, m3, m4, spXNormal, spXCross, tE, spIMul, spIAdd, iE]
    refine lp_step ?_
    simp only [↓R0, R1, simprocAttr, -Int.reduceAbs, ra1, qa1, ra2, qa2, ra3, qa3, ra4, rb1, qb1, rb2, qb2, rb3, qb3, rb4, rc1, qc1, rc2, qc2, rc3, qc3, rc4, ebc0, ybc0, wbc0, ebc1, ybc1, wbc1, ebc2, ybc2, wbc2, eca0, yca0, wca0, eca1, yca1, wca1, eca2, yca2, wca2, eab0, yab0, wab0, eab1, yab1, wab1, eab2, yab2, wab2, t0, ul0, S0, t1, ul1, S1, t2, ul2, S2, W0, z0, Int.zero_add, Nat.zero_le, i1, i2, i3, i4, m1, m2, m3, m4, spXNormal, spXCross, tE, spIMul, spIAdd, iE]
    refine lp_step ?_
    simp only [↓R0, R1, simprocAttr, -Int.reduceAbs, ra1, qa1, ra2, qa2, ra3, qa3, ra4, rb1, qb1, rb2, qb2, rb3, qb3, rb4, rc1, qc1, rc2, qc2, rc3, qc3, rc4, ebc0, ybc0, wbc0, ebc1, ybc1, wbc1, ebc2, ybc2, wbc2, eca0, yca0, wca0, eca1, yca1, wca1, eca2, yca2, wca2, eab0, yab0, wab0, eab1, yab1, wab1, eab2, yab2, wab2, t0, ul0, S0, t1, ul1, S1, t2, ul2, S2, W0, z0, Int.zero_add, Nat.zero_le, i1, i2, i3, i4, m1, m2, m3, m4, spXNormal, spXCross, tE, spIMul, spIAdd, iE]
    refine lp_step ?_
    simp only [↓R0, R1, simprocAttr, -Int.reduceAbs, ra1, qa1, ra2, qa2, ra3, qa3, ra4, rb1, qb1, rb2, qb2, rb3, qb3, rb4, rc1, qc1, rc2, qc2, rc3, qc3, rc4, ebc0, ybc0, wbc0, ebc1, ybc1, wbc1, ebc2, ybc2, wbc2, eca0, yca0, wca0, eca1, yca1, wca1, eca2, yca2, wca2, eab0, yab0, wab0, eab1, yab1, wab1, eab2, yab2, wab2, t0, ul0, S0, t1, ul1, S1, t2, ul2, S2, W0, z0, Int.zero_add, Nat.zero_le, i1, i2, i3, i4, m1, m2, m3, m4, spXNormal, spXCross, tE, spIMul, spIAdd, iE]
    refine lp_step ?_
    simp only [↓R0, R1, simprocAttr, -Int.reduceAbs, ra1, qa1, ra2, qa2, ra3, qa3, ra4, rb1, qb1, rb2, qb2, rb3, qb3, rb4, rc1, qc1, rc2, qc2, rc3, qc3, rc4, ebc0, ybc0, wbc0, ebc1, ybc1, wbc1, ebc2, ybc2, wbc2, eca0, yca0, wca0, eca1, yca1, wca1, eca2, yca2, wca2, eab0, yab0, wab0, eab1, yab1, wab1, eab2, yab2, wab2, t0, ul0, S0, t1, ul1, S1, t2, ul2, S2, W0, z0, Int.zero_add, Nat.zero_le, i1, i2, i3, i4, m1, m2, m3, m4, spXNormal, spXCross, tE, spIMul, spIAdd, iE]
    refine lp_step ?_
    simp only [↓R0, R1, simprocAttr, -Int.reduceAbs, ra1, qa1, ra2, qa2, ra3, qa3, ra4, rb1, qb1, rb2, qb2, rb3, qb3, rb4, rc1, qc1, rc2, qc2, rc3, qc3, rc4, ebc0, ybc0, wbc0, ebc1, ybc1, wbc1, ebc2, ybc2, wbc2, eca0, yca0, wca0, eca1, yca1, wca1, eca2, yca2, wca2, eab0, yab0, wab0, eab1, yab1, wab1, eab2, yab2, wab2, t0, ul0, S0, t1, ul1, S1, t2, ul2, S2, W0, z0, Int.zero_add, Nat.zero_le, i1, i2, i3, i4, m1, m2, m3, m4, spXNormal, spXCross, tE, spIMul, spIAdd, iE]
    refine lp_step ?_
    simp only [↓R0, R1, simprocAttr, -Int.reduceAbs, ra1, qa1, ra2, qa2, ra3, qa3, ra4, rb1, qb1, rb2, qb2, rb3, qb3, rb4, rc1, qc1, rc2, qc2, rc3, qc3, rc4, ebc0, ybc0, wbc0, ebc1, ybc1, wbc1, ebc2, ybc2, wbc2, eca0, yca0, wca0, eca1, yca1, wca1, eca2, yca2, wca2, eab0, yab0, wab0, eab1, yab1, wab1, eab2, yab2, wab2, t0, ul0, S0, t1, ul1, S1, t2, ul2, S2, W0, z0, Int.zero_add, Nat.zero_le, i1, i2, i3, i4, m1, m2, m3, m4, spXNormal, spXCross, tE, spIMul, spIAdd, iE]
    refine lp_step ?_
    simp only [↓R0, R1, simprocAttr, -Int.reduceAbs, ra1, qa1, ra2, qa2, ra3, qa3, ra4, rb1, qb1, rb2, qb2, rb3, qb3, rb4, rc1, qc1, rc2, qc2, rc3, qc3, rc4, ebc0, ybc0, wbc0, ebc1, ybc1, wbc1, ebc2, ybc2, wbc2, eca0, yca0, wca0, eca1, yca1, wca1, eca2, yca2, wca2, eab0, yab0, wab0, eab1, yab1, wab1, eab2, yab2, wab2, t0, ul0, S0, t1, ul1, S1, t2, ul2, S2, W0, z0, Int.zero_add, Nat.zero_le, i1, i2, i3, i4, m1, m2, m3, m4, spXNormal, spXCross, tE, spIMul, spIAdd, iE]
    refine lp_step ?_
    simp only [↓R0, R1, simprocAttr, -Int.reduceAbs, ra1, qa1, ra2, qa2, ra3, qa3, ra4, rb1, qb1, rb2, qb2, rb3, qb3, rb4, rc1, qc1, rc2, qc2, rc3, qc3, rc4, ebc0, ybc0, wbc0, ebc1, ybc1, wbc1, ebc2, ybc2, wbc2, eca0, yca0, wca0, eca1, yca1, wca1, eca2, yca2, wca2, eab0, yab0, wab0, eab1, yab1, wab1, eab2, yab2, wab2, t0, ul0, S0, t1, ul1, S1, t2, ul2, S2, W0, z0, Int.zero_add, Nat.zero_le, i1, i2, i3, i4, m1, m2, m3, m4, spXNormal, spXCross, tE, spIMul, spIAdd, iE]
    refine lp_step ?_
    simp only [↓R0, R1, simprocAttr, -Int.reduceAbs, ra1, qa1, ra2, qa2, ra3, qa3, ra4, rb1, qb1, rb2, qb2, rb3, qb3, rb4, rc1, qc1, rc2, qc2, rc3, qc3, rc4, ebc0, ybc0, wbc0, ebc1, ybc1, wbc1, ebc2, ybc2, wbc2, eca0, yca0, wca0, eca1, yca1, wca1, eca2, yca2, wca2, eab0, yab0, wab0, eab1, yab1, wab1, eab2, yab2, wab2, t0, ul0, S0, t1, ul1, S1, t2, ul2, S2, W0, z0, Int.zero_add, Nat.zero_le, i1, i2, i3, i4, m1, m2, m3, m4, spXNormal, spXCross, tE, spIMul, spIAdd, iE]
    refine lp_step ?_
    simp only [↓R0, R1, simprocAttr, -Int.reduceAbs, ra1, qa1, ra2, qa2, ra3, qa3, ra4, rb1, qb1, rb2, qb2, rb3, qb3, rb4, rc1, qc1, rc2, qc2, rc3, qc3, rc4, ebc0, ybc0, wbc0, ebc1, ybc1, wbc1, ebc2, ybc2, wbc2, eca0, yca0, wca0, eca1, yca1, wca1, eca2, yca2, wca2, eab0, yab0, wab0, eab1, yab1, wab1, eab2, yab2, wab2, t0, ul0, S0, t1, ul1, S1, t2, ul2, S2, W0, z0, Int.zero_add, Nat.zero_le, i1, i2, i3, i4, m1, m2, m3, m4, spXNormal, spXCross, tE, spIMul, spIAdd, iE]
    refine lp_step ?_
    simp only [↓R0, R1, simprocAttr, -Int.reduceAbs, ra1, qa1, ra2, qa2, ra3, qa3, ra4, rb1, qb1, rb2, qb2, rb3, qb3, rb4, rc1, qc1, rc2, qc2, rc3, qc3, rc4, ebc0, ybc0, wbc0, ebc1, ybc1, wbc1, ebc2, ybc2, wbc2, eca0, yca0, wca0, eca1, yca1, wca1, eca2, yca2, wca2, eab0, yab0, wab0, eab1, yab1, wab1, eab2, yab2, wab2, t0, ul0, S0, t1, ul1, S1, t2, ul2, S2, W0, z0, Int.zero_add, Nat.zero_le, i1, i2, i3, i4, m1, m2, m3, m4, spXNormal, spXCross, tE, spIMul, spIAdd, iE]
    refine lp_step ?_
    simp only [↓R0, R1, simprocAttr, -Int.reduceAbs, ra1, qa1, ra2, qa2, ra3, qa3, ra4, rb1, qb1, rb2, qb2, rb3, qb3, rb4, rc1, qc1, rc2, qc2, rc3, qc3, rc4, ebc0, ybc0, wbc0, ebc1, ybc1, wbc1, ebc2, ybc2, wbc2, eca0, yca0, wca0, eca1, yca1, wca1, eca2, yca2, wca2, eab0, yab0, wab0, eab1, yab1, wab1, eab2, yab2, wab2, t0, ul0, S0, t1, ul1, S1, t2, ul2, S2, W0, z0, Int.zero_add, Nat.zero_le, i1, i2, i3, i4, m1, m2, m3, m4, spXNormal, spXCross, tE, spIMul, spIAdd, iE]
    refine lp_step ?_
    simp only [↓R0, R1, simprocAttr, -Int.reduceAbs, ra1, qa1, ra2, qa2, ra3, qa3, ra4, rb1, qb1, rb2, qb2, rb3, qb3, rb4, rc1, qc1, rc2, qc2, rc3, qc3, rc4, ebc0, ybc0, wbc0, ebc1, ybc1, wbc1, ebc2, ybc2, wbc2, eca0, yca0, wca0, eca1, yca1, wca1, eca2, yca2, wca2, eab0, yab0, wab0, eab1, yab1, wab1, eab2, yab2, wab2, t0, ul0, S0, t1, ul1, S1, t2, ul2, S2, W0, z0, Int.zero_add, Nat.zero_le, i1, i2, i3, i4, m1, m2, m3, m4, spXNormal, spXCross, tE, spIMul, spIAdd, iE]
    refine lp_step ?_
    simp only [↓R0, R1, simprocAttr, -Int.reduceAbs, ra1, qa1, ra2, qa2, ra3, qa3, ra4, rb1, qb1, rb2, qb2, rb3, qb3, rb4, rc1, qc1, rc2, qc2, rc3, qc3, rc4, ebc0, ybc0, wbc0, ebc1, ybc1, wbc1, ebc2, ybc2, wbc2, eca0, yca0, wca0, eca1, yca1, wca1, eca2, yca2, wca2, eab0, yab0, wab0, eab1, yab1, wab1, eab2, yab2, wab2, t0, ul0, S0, t1, ul1, S1, t2, ul2, S2, W0, z0, Int.zero_add, Nat.zero_le, i1, i2, i3, i4, m1, m2, m3, m4, spXNormal, spXCross, tE, spIMul, spIAdd, iE]
    refine lp_step ?_
    simp only [↓R0, R1, simprocAttr, -Int.reduceAbs, ra1, qa1, ra2, qa2, ra3, qa3, ra4, rb1, qb1, rb2, qb2, rb3, qb3, rb4, rc1, qc1, rc2, qc2, rc3, qc3, rc4, ebc0, ybc0, wbc0, ebc1, ybc1, wbc1, ebc2, ybc2, wbc2, eca0, yca0, wca0, eca1, yca1, wca1, eca2, yca2, wca2, eab0, yab0, wab0, eab1, yab1, wab1, eab2, yab2, wab2, t0, ul0, S0, t1, ul1, S1, t2, ul2, S2, W0, z0, Int.zero_add, Nat.zero_le, spXNormal, spXCross, tE, spXDot, spXMade, hw, zl0, zs0, Int.lt_irrefl, pZ, pE, Fin, isEnd, resL, res1, iE, rE]
    exact ⟨_, rfl, rfl, fun k hk => by simp only [ne_nb hk, if_false]⟩
end Go.Eng
end
section
set_option linter.unusedVariables false
set_option linter.unusedSimpArgs false
set_option linter.unusedSectionVars false
set_option maxRecDepth 20000
namespace Go.Eng
open Go Go.Proofs Go.IntWalk
def spXAbove : List Value → Option Value
  | [.agg ⟨[.bool s1, .string ⟨⟨l1⟩⟩, .bool s2, .string ⟨⟨l2⟩⟩, .bool s3, .string ⟨⟨l3⟩⟩, .bool s4, .string ⟨⟨l4⟩⟩]⟩, .agg ⟨[.bool t1, .string ⟨⟨m1⟩⟩, .bool t2, .string ⟨⟨m2⟩⟩, .bool t3, .string ⟨⟨m3⟩⟩, .bool t4, .string ⟨⟨m4⟩⟩]⟩] =>
    if l1.length ≤ 4294967296 ∧ l2.length ≤ 4294967296 ∧ l3.length ≤ 4294967296 ∧ l4.length ≤ 4294967296 ∧ m1.length ≤ 4294967296 ∧ m2.length ≤ 4294967296 ∧ m3.length ≤ 4294967296 ∧ m4.length ≤ 4294967296 then
      some (.agg ⟨iE (sv s1 l1 * sv t1 m1 + sv s2 l2 * sv t2 m2 + sv s3 l3 * sv t3 m3 - sv s4 l4 * sv t4 m4)⟩) else none
  | _ => none
def c52 : ICode :=
  (.seq (.reg [qq 2 (.box 25 8 (.t 0)), qq 3 (.box 30 8 (.t 1)), qq 4 (.alloc 23 2 [(.bool false), e0])]) (.seq (.dreg [qu 5 (.load true 8 (.t 2)), qu 6 (.call 33 [(.t 5)]), qu 7 (.faddr 0 (.t 3)), qv 8 [1] (.load true 2 (.t 7)), qu 9 (.faddr 2 (.t 3)), qv 10 [1] (.load true 2 (.t 9)), qu 11 (.faddr 4 (.t 3)), qv 12 [1] (.load true 2 (.t 11)), qu 13 (.build [(.bool false), e0, (.bool false), e0, (.bool false), e0] [(0, 2, (.t 8)), (2, 2, (.t 10)), (4, 2, (.t 12))]), qu 14 (.call 37 [(.t 6), (.t 13)]), qu 15 (.faddr 6 (.t 2)), qv 16 [1, 9] (.load true 2 (.t 15)), qu 17 (.faddr 6 (.t 3)), qv 18 [1, 9] (.load true 2 (.t 17)), qu 19 (.call 35 [(.t 16), (.t 18)]), qu 20 (.call 54 [(.t 14), (.t 19)]), qm (.store 2 (.t 4) (.t 20))]) .ret))
theorem tr52 : trFun Tryz.prog 52 = some ⟨21, [.cell 4 true 2], c52⟩ := by kernel_rfl
set_option maxHeartbeats 2000000 in
theorem ok_xAbove : SpecOK Tryz.prog 52 (flat spXAbove) := by
  refine flat_run (env_cons ok_xNormal (env_cons ok_xDot (env_cons ok_iMul (env_cons ok_iSub (env_nil _))))) mixed tr52 ?_
  intro args v h N hG
  unfold spXAbove at hG
  split at hG
  case h_2 => cases hG
  rename_i s1 l1 s2 l2 s3 l3 s4 l4 t1 m1 t2 m2 t3 m3 t4 m4
  split at hG
  case isFalse => cases hG
  rename_i hl
  obtain ⟨h1, h2, h3, h4, g1, g2, g3, g4⟩ := hl
  cases hG
  refine ⟨rfl, by simp, ?_⟩
  have a1 : l1.length ≤ 17179869184 := by omega
  have a2 : l2.length ≤ 17179869184 := by omega
  have a3 : l3.length ≤ 17179869184 := by omega
  have a4 : l4.length ≤ 34359738368 := by omega
  have b1 : m1.length ≤ 17179869184 := by omega
  have b2 : m2.length ≤ 17179869184 := by omega
  have b3 : m3.length ≤ 17179869184 := by omega
  have b4 : m4.length ≤ 34359738368 := by omega
  have p1 := lmul (k := 8589934592) (len_sv (s := s1) h1) (len_sv (s := t1) g1) (by omega)
  have p2 := lmul (k := 8589934592) (len_sv (s := s2) h2) (len_sv (s := t2) g2) (by omega)
  have p3 := lmul (k := 8589934592) (len_sv (s := s3) h3) (len_sv (s := t3) g3) (by omega)
  have p4 := lmul (k := 68719476736) (len_sv (s := s4) h4) (len_sv (s := t4) g4) (by omega)
  have q1 := ladd (k := 68719476736) (ladd (k := 8589934593) p1 p2 (by omega)) p3 (by omega)
  simp only [c52, G0, Nat.reduceAdd]
  simp only [↓R0, R1, simprocAttr, -Int.reduceAbs, spXNormal, spXDot, spIMul, spISub, a1, a2, a3, a4, b1, b2, b3, b4, p4, q1, Fin, isEnd, resL, res1, iE, rE]
  exact ⟨_, rfl, rfl, fun k hk => by simp only [ne_nb hk, if_false]⟩
def spXBetw : List Value → Heap → Option Value
  | [.agg ⟨[.bool s1, .string ⟨⟨l1⟩⟩]⟩, .agg ⟨[.bool s2, .string ⟨⟨l2⟩⟩]⟩, .pointer (some ⟨k, 0, none⟩), .pointer (some ⟨k', 0, none⟩)], h => match hget h k, hget h k' with
    | some ⟨_, _, _, [.bool t1, .string ⟨⟨m1⟩⟩]⟩, some ⟨_, _, _, [.bool t2, .string ⟨⟨m2⟩⟩]⟩ =>
      if l1.length ≤ 17179869184 ∧ l2.length ≤ 17179869184 ∧ m1.length ≤ 17179869184 ∧ m2.length ≤ 17179869184 then some (.agg ⟨iE (sv s1 l1 * sv t1 m1 - sv s2 l2 * sv t2 m2)⟩) else none
    | _, _ => none
  | _, _ => none
def c53 : ICode :=
  (.seq (.reg [qq 4 (.box 23 2 (.t 0)), qq 5 (.box 23 2 (.t 1)), qq 6 (.alloc 23 2 [(.bool false), e0])]) (.seq (.dreg [qu 7 (.load true 2 (.t 4)), qu 8 (.load true 2 (.t 2)), qu 9 (.call 35 [(.t 7), (.t 8)]), qv 10 [2] (.load true 2 (.t 5)), qv 11 [2] (.load true 2 (.t 3)), qu 12 (.call 35 [(.t 10), (.t 11)]), qu 13 (.call 54 [(.t 9), (.t 12)]), qm (.store 2 (.t 6) (.t 13))]) .ret))
theorem tr53 : trFun Tryz.prog 53 = some ⟨14, [.cell 6 true 2], c53⟩ := by kernel_rfl
theorem ok_xBetw : SpecOK Tryz.prog 53 (rdS spXBetw) := by
  refine rd_run (env_cons ok_iMul (env_cons ok_iSub (env_nil _))) mixed tr53 ?_ ?_
  · intro args h h' v hle e
    unfold spXBetw at e ⊢
    split at e
    · split at e
      · rename_i b1 b2
        simp only [hle _ _ b1, hle _ _ b2]; exact e
      · cases e
    · cases e
  intro args v h N hG hN
  unfold spXBetw at hG
  split at hG
  case h_2 => cases hG
  rename_i s1 l1 s2 l2 k k'
  split at hG
  case h_2 => cases hG
  rename_i e1 z1 x1 t1 m1 e2 z2 x2 t2 m2 hb1 hb2
  split at hG
  case isFalse => cases hG
  rename_i hl
  obtain ⟨h1, h2, h3, h4⟩ := hl
  cases hG
  refine ⟨rfl, by simp, ?_⟩
  have k1 := hN _ _ hb1
  have k2 := hN _ _ hb2
  have ne1 : ∀ j, (N + j = k) = False := fun j => eq_false (by omega)
  have ne2 : ∀ j, (N + j = k') = False := fun j => eq_false (by omega)
  have a1 : l1.length ≤ 34359738368 := by omega
  have a2 : l2.length ≤ 34359738368 := by omega
  have b1 : m1.length ≤ 34359738368 := by omega
  have b2 : m2.length ≤ 34359738368 := by omega
  have p1 := lmul (k := 68719476736) (len_sv (s := s1) h1) (len_sv (s := t1) h3) (by omega)
  have p2 := lmul (k := 68719476736) (len_sv (s := s2) h2) (len_sv (s := t2) h4) (by omega)
  simp only [c53, G0, Nat.reduceAdd]
  simp only [↓R0, R1, simprocAttr, -Int.reduceAbs, ne1, ne2, hb1, hb2, spIMul, spISub, a1, a2, b1, b2, p1, p2, Fin, isEnd, resL, res1, iE, rE]
  exact ⟨_, rfl, rfl, fun k hk => by simp only [ne_nb hk, if_false]⟩
def spXLine : List Value → Option Value
  | [.agg ⟨[.bool s1, .string ⟨⟨l1⟩⟩, .bool s2, .string ⟨⟨l2⟩⟩, .bool s3, .string ⟨⟨l3⟩⟩, .bool s4, .string ⟨⟨l4⟩⟩]⟩, .agg ⟨[.bool t1, .string ⟨⟨m1⟩⟩, .bool t2, .string ⟨⟨m2⟩⟩, .bool t3, .string ⟨⟨m3⟩⟩, .bool t4, .string ⟨⟨m4⟩⟩]⟩,
      .agg ⟨[.bool u1, .string ⟨⟨o1⟩⟩, .bool u2, .string ⟨⟨o2⟩⟩, .bool u3, .string ⟨⟨o3⟩⟩, .bool u4, .string ⟨⟨o4⟩⟩]⟩] =>
    if l1.length ≤ 2147483648 ∧ l2.length ≤ 2147483648 ∧ l3.length ≤ 2147483648 ∧ l4.length ≤ 2147483648 ∧ m1.length ≤ 2147483648 ∧ m2.length ≤ 2147483648 ∧ m3.length ≤ 2147483648 ∧ m4.length ≤ 2147483648 ∧
      o1.length ≤ 2147483648 ∧ o2.length ≤ 2147483648 ∧ o3.length ≤ 2147483648 ∧ o4.length ≤ 2147483648 then
      (if t1 = u1 ∧ m1 = o1 ∧ t2 = u2 ∧ m2 = o2 ∧ t3 = u3 ∧ m3 = o3 ∧ t4 = u4 ∧ m4 = o4 then some (.tuple ⟨[.agg ⟨pZ⟩, .bool false]⟩) else
      if sv t4 m4 * (sv s1 l1 * sv u1 o1 + sv s2 l2 * sv u2 o2 + sv s3 l3 * sv u3 o3 - sv s4 l4 * sv u4 o4) - sv u4 o4 * (sv s1 l1 * sv t1 m1 + sv s2 l2 * sv t2 m2 + sv s3 l3 * sv t3 m3 - sv s4 l4 * sv t4 m4) = 0 then some (.tuple ⟨[.agg ⟨pZ⟩, .bool false]⟩) else
      some (.tuple ⟨[.agg ⟨pE (sv t1 m1 * (sv s1 l1 * sv u1 o1 + sv s2 l2 * sv u2 o2 + sv s3 l3 * sv u3 o3 - sv s4 l4 * sv u4 o4) - sv u1 o1 * (sv s1 l1 * sv t1 m1 + sv s2 l2 * sv t2 m2 + sv s3 l3 * sv t3 m3 - sv s4 l4 * sv t4 m4))
        (sv t2 m2 * (sv s1 l1 * sv u1 o1 + sv s2 l2 * sv u2 o2 + sv s3 l3 * sv u3 o3 - sv s4 l4 * sv u4 o4) - sv u2 o2 * (sv s1 l1 * sv t1 m1 + sv s2 l2 * sv t2 m2 + sv s3 l3 * sv t3 m3 - sv s4 l4 * sv t4 m4))
        (sv t3 m3 * (sv s1 l1 * sv u1 o1 + sv s2 l2 * sv u2 o2 + sv s3 l3 * sv u3 o3 - sv s4 l4 * sv u4 o4) - sv u3 o3 * (sv s1 l1 * sv t1 m1 + sv s2 l2 * sv t2 m2 + sv s3 l3 * sv t3 m3 - sv s4 l4 * sv t4 m4))
        (sv t4 m4 * (sv s1 l1 * sv u1 o1 + sv s2 l2 * sv u2 o2 + sv s3 l3 * sv u3 o3 - sv s4 l4 * sv u4 o4) - sv u4 o4 * (sv s1 l1 * sv t1 m1 + sv s2 l2 * sv t2 m2 + sv s3 l3 * sv t3 m3 - sv s4 l4 * sv t4 m4))⟩, .bool true]⟩)) else none
  | _ => none
def c15 : ICode :=
  (.seq (.reg [qq 3 (.box 25 8 (.t 0)), qq 4 (.box 30 8 (.t 1)), qq 5 (.box 30 8 (.t 2)), qq 6 (.alloc 30 8 [(.bool false), e0, (.bool false), e0, (.bool false), e0, (.bool false), e0]), qq 7 (.mv (.c (.bool false)))]) (.seq (.seq (.reg [qq 11 (.load true 8 (.t 4)), qq 12 (.load true 8 (.t 5)), qq 13 (.eqa false [.b, .s, .b, .s, .b, .s, .b, .s] (.t 11) (.t 12))]) (.cond (.t 13) (.seq (.reg [qq 14 (.build [(.bool false), e0, (.bool false), e0, (.bool false), e0, (.bool false), e0] []), qn (.store 8 (.t 6) (.t 14)), qq 7 (.mv (.c (.bool false)))]) .ret) .skip)) (.seq (.dreg [qu 15 (.load true 8 (.t 3)), qu 16 (.load true 8 (.t 4)), qu 17 (.call 52 [(.t 15), (.t 16)]), qv 18 [2] (.load true 8 (.t 3)), qv 19 [2] (.load true 8 (.t 5)), qu 20 (.call 52 [(.t 18), (.t 19)]), qu 8 (.alloc 23 2 [(.bool false), e0]), qu 9 (.alloc 23 2 [(.bool false), e0]), qm (.store 2 (.t 8) (.t 17)), qm (.store 2 (.t 9) (.t 20))]) (.seq (.reg [qq 21 (.mkfn 53 [(.t 9), (.t 8)]), qq 10 (.mv (.t 21))]) (.seq (.dreg [qu 22 (.mv (.t 10)), qu 23 (.faddr 0 (.t 4)), qu 24 (.load true 2 (.t 23)), qu 25 (.faddr 0 (.t 5)), qu 26 (.load true 2 (.t 25)), qu 27 (.callv (.t 22) [(.t 24), (.t 26)]), qu 28 (.mv (.t 10)), qu 29 (.faddr 2 (.t 4)), qv 30 [5] (.load true 2 (.t 29)), qu 31 (.faddr 2 (.t 5)), qv 32 [5] (.load true 2 (.t 31)), qu 33 (.callv (.t 28) [(.t 30), (.t 32)]), qu 34 (.mv (.t 10)), qu 35 (.faddr 4 (.t 4)), qv 36 [5, 11] (.load true 2 (.t 35)), qu 37 (.faddr 4 (.t 5)), qv 38 [5, 11] (.load true 2 (.t 37)), qu 39 (.callv (.t 34) [(.t 36), (.t 38)]), qu 40 (.build [(.bool false), e0, (.bool false), e0, (.bool false), e0] [(0, 2, (.t 27)), (2, 2, (.t 33)), (4, 2, (.t 39))]), qu 41 (.mv (.t 10)), qu 42 (.faddr 6 (.t 4)), qv 43 [5, 11, 17] (.load true 2 (.t 42)), qu 44 (.faddr 6 (.t 5)), qv 45 [5, 11, 17] (.load true 2 (.t 44)), qu 46 (.callv (.t 41) [(.t 43), (.t 45)]), qu 47 (.call 36 [(.t 40), (.t 46)]), qu 48 (.ext (.t 47) 0), qu 49 (.ext (.t 47) 1), qm (.store 8 (.t 6) (.t 48)), qu 7 (.mv (.t 49))]) .ret)))))
theorem tr15 : trFun Tryz.prog 15 = some ⟨50, [.cell 6 true 8, .t 7], c15⟩ := by kernel_rfl
set_option maxHeartbeats 8000000 in
theorem ok_xLine : SpecOK Tryz.prog 15 (flat spXLine) := by
  refine flat_run (env_cons ok_xAbove (env_cons ok_xBetw (env_cons ok_xMade (env_nil _)))) mixed tr15 ?_
  intro args v h N hG
  unfold spXLine at hG
  split at hG
  case h_2 => cases hG
  rename_i s1 l1 s2 l2 s3 l3 s4 l4 t1 m1 t2 m2 t3 m3 t4 m4 u1 o1 u2 o2 u3 o3 u4 o4
  split at hG
  case isFalse => cases hG
  rename_i hl
  obtain ⟨h1, h2, h3, h4, g1, g2, g3, g4, j1, j2, j3, j4⟩ := hl
  split at hG
  · rename_i heq
    obtain ⟨rfl, rfl, rfl, rfl, rfl, rfl, rfl, rfl⟩ := heq
    cases hG
    refine ⟨rfl, by simp, ?_⟩
    simp only [c15, G0, Nat.reduceAdd]
    simp only [↓R0, R1, simprocAttr, -Int.reduceAbs, ceq, pZ, Fin, isEnd, resL, res1, iE, rE]
    exact ⟨_, rfl, rfl, fun k hk => by simp only [ne_nb hk, if_false]⟩
  rename_i hne
  have hc : (decide (t1 = u1) && (decide (m1 = o1) && (decide (t2 = u2) && (decide (m2 = o2) && (decide (t3 = u3) && (decide (m3 = o3) && (decide (t4 = u4) && decide (m4 = o4)))))))) = false := by
    cases hb : (decide (t1 = u1) && (decide (m1 = o1) && (decide (t2 = u2) && (decide (m2 = o2) && (decide (t3 = u3) && (decide (m3 = o3) && (decide (t4 = u4) && decide (m4 = o4)))))))) with
    | false => rfl
    | true => simp only [Bool.and_eq_true, decide_eq_true_eq] at hb; exact absurd hb hne
  have bS := lsub (k := 4294967299) (ladd (k := 4294967298) (ladd (k := 4294967297) (lmul (k := 4294967296) (len_sv (s := s1) h1) (len_sv (s := t1) g1) (by omega)) (lmul (k := 4294967296) (len_sv (s := s2) h2) (len_sv (s := t2) g2) (by omega)) (by omega)) (lmul (k := 4294967296) (len_sv (s := s3) h3) (len_sv (s := t3) g3) (by omega)) (by omega)) (lmul (k := 4294967296) (len_sv (s := s4) h4) (len_sv (s := t4) g4) (by omega)) (by omega)
  have bT := lsub (k := 4294967299) (ladd (k := 4294967298) (ladd (k := 4294967297) (lmul (k := 4294967296) (len_sv (s := s1) h1) (len_sv (s := u1) j1) (by omega)) (lmul (k := 4294967296) (len_sv (s := s2) h2) (len_sv (s := u2) j2) (by omega)) (by omega)) (lmul (k := 4294967296) (len_sv (s := s3) h3) (len_sv (s := u3) j3) (by omega)) (by omega)) (lmul (k := 4294967296) (len_sv (s := s4) h4) (len_sv (s := u4) j4) (by omega)) (by omega)
  obtain ⟨S, eS⟩ : ∃ z, sv s1 l1 * sv t1 m1 + sv s2 l2 * sv t2 m2 + sv s3 l3 * sv t3 m3 - sv s4 l4 * sv t4 m4 = z := ⟨_, rfl⟩
  obtain ⟨T, eT⟩ : ∃ z, sv s1 l1 * sv u1 o1 + sv s2 l2 * sv u2 o2 + sv s3 l3 * sv u3 o3 - sv s4 l4 * sv u4 o4 = z := ⟨_, rfl⟩
  rw [eS] at hG bS
  rw [eT] at hG bT
  have a1 : l1.length ≤ 4294967296 := by omega
  have a2 : l2.length ≤ 4294967296 := by omega
  have a3 : l3.length ≤ 4294967296 := by omega
  have a4 : l4.length ≤ 4294967296 := by omega
  have b1 : m1.length ≤ 4294967296 := by omega
  have b2 : m2.length ≤ 4294967296 := by omega
  have b3 : m3.length ≤ 4294967296 := by omega
  have b4 : m4.length ≤ 4294967296 := by omega
  have c1 : o1.length ≤ 4294967296 := by omega
  have c2 : o2.length ≤ 4294967296 := by omega
  have c3 : o3.length ≤ 4294967296 := by omega
  have c4 : o4.length ≤ 4294967296 := by omega
  have b1' : m1.length ≤ 17179869184 := by omega
  have b2' : m2.length ≤ 17179869184 := by omega
  have b3' : m3.length ≤ 17179869184 := by omega
  have b4' : m4.length ≤ 17179869184 := by omega
  have c1' : o1.length ≤ 17179869184 := by omega
  have c2' : o2.length ≤ 17179869184 := by omega
  have c3' : o3.length ≤ 17179869184 := by omega
  have c4' : o4.length ≤ 17179869184 := by omega
  have bS' := lle (k := 17179869184) bS (by omega)
  have bT' := lle (k := 17179869184) bT (by omega)
  have X1 := lsub (k := 34359738368) (lmul (k := 12884901888) (len_sv (s := t1) g1) bT (by omega)) (lmul (k := 12884901888) (len_sv (s := u1) j1) bS (by omega)) (by omega)
  have X2 := lsub (k := 34359738368) (lmul (k := 12884901888) (len_sv (s := t2) g2) bT (by omega)) (lmul (k := 12884901888) (len_sv (s := u2) j2) bS (by omega)) (by omega)
  have X3 := lsub (k := 34359738368) (lmul (k := 12884901888) (len_sv (s := t3) g3) bT (by omega)) (lmul (k := 12884901888) (len_sv (s := u3) j3) bS (by omega)) (by omega)
  have X4 := lsub (k := 34359738368) (lmul (k := 12884901888) (len_sv (s := t4) g4) bT (by omega)) (lmul (k := 12884901888) (len_sv (s := u4) j4) bS (by omega)) (by omega)
  have zl0 : (bl (Int.natAbs 0)).length ≤ 34359738368 := by rw [show Int.natAbs 0 = 0 from rfl, bl_zero]; exact Nat.zero_le _
  have zs0 : sv false (bl (Int.natAbs 0)) = 0 := by rw [sv_bl]; rfl
  split at hG
  · rename_i hw
    cases hG
    refine ⟨rfl, by simp, ?_⟩
    simp only [c15, G0, Nat.reduceAdd]
    simp only [↓R0, R1, simprocAttr, -Int.reduceAbs, ceq, hc, spXAbove, a1, a2, a3, a4, b1, b2, b3, b4, c1, c2, c3, c4, b1', b2', b3', b4', c1', c2', c3', c4', eS, eT, bS', bT', callF, rdS, spXBetw, X1, X2, X3, X4, spXMade, hw, zl0, zs0, Int.lt_irrefl, pZ, pE, Fin, isEnd, resL, res1, iE, rE]
    exact ⟨_, rfl, rfl, fun k hk => by simp only [ne_nb hk, if_false]⟩
  · rename_i hw
    cases hG
    refine ⟨rfl, by simp, ?_⟩
    simp only [c15, G0, Nat.reduceAdd]
    simp only [↓R0, R1, simprocAttr, -Int.reduceAbs, ceq, hc, spXAbove, a1, a2, a3, a4, b1, b2, b3, b4, c1, c2, c3, c4, b1', b2', b3', b4', c1', c2', c3', c4', eS, eT, bS', bT', callF, rdS, spXBetw, X1, X2, X3, X4, spXMade, hw, zl0, zs0, Int.lt_irrefl, pZ, pE, Fin, isEnd, resL, res1, iE, rE]
    exact ⟨_, rfl, rfl, fun k hk => by simp only [ne_nb hk, if_false]⟩
end Go.Eng
end
section
set_option linter.unusedVariables false
set_option linter.unusedSimpArgs false
set_option linter.unusedSectionVars false
set_option maxRecDepth 20000
namespace Go.Eng
open Go Go.Proofs Go.IntWalk
def spLFlat : List Value → Option Value
  | [.int .i64 a, .int .i64 b, .int .i64 c, .int .i64 d] => if (-9223372036854775808 ≤ a ∧ a ≤ 9223372036854775807) ∧ (-9223372036854775808 ≤ b ∧ b ≤ 9223372036854775807) ∧ (-9223372036854775808 ≤ c ∧ c ≤ 9223372036854775807) ∧ (-9223372036854775808 ≤ d ∧ d ≤ 9223372036854775807) then
      some (.agg ⟨iE a ++ iE b ++ iE c ++ iE d⟩) else none
  | _ => none
def c30 : ICode :=
  (.seq (.reg [qq 8 (.alloc 25 8 [(.bool false), e0, (.bool false), e0, (.bool false), e0, (.bool false), e0])]) (.seq (.reg [qq 9 (.mv (.t 0)), qq 10 (.call 26 [(.t 9)]), qq 11 (.mv (.t 1)), qq 12 (.call 26 [(.t 11)]), qq 13 (.mv (.t 2)), qq 14 (.call 26 [(.t 13)]), qq 15 (.mv (.t 3)), qq 16 (.call 26 [(.t 15)]), qq 17 (.build [(.bool false), e0, (.bool false), e0, (.bool false), e0, (.bool false), e0] [(0, 2, (.t 10)), (2, 2, (.t 12)), (4, 2, (.t 14)), (6, 2, (.t 16))]), qn (.store 8 (.t 8) (.t 17))]) .ret))
theorem tr30 : trFun Tryz.prog 30 = some ⟨18, [.cell 8 true 8], c30⟩ := by kernel_rfl
theorem ok_lFlat : SpecOK Tryz.prog 30 (flat spLFlat) := by
  refine flat_run (env_cons ok_iFrom (env_nil _)) mixed tr30 ?_
  intro args v h N hG
  unfold spLFlat at hG
  split at hG
  case h_2 => cases hG
  rename_i a b c d
  split at hG
  case isFalse => cases hG
  rename_i hl
  obtain ⟨⟨h1, h2⟩, ⟨h3, h4⟩, ⟨h5, h6⟩, ⟨h7, h8⟩⟩ := hl
  cases hG
  refine ⟨rfl, by simp, ?_⟩
  simp only [c30, G0, Nat.reduceAdd]
  simp only [↓R0, R1, simprocAttr, -Int.reduceAbs, spIFrom, h1, h2, h3, h4, h5, h6, h7, h8, Fin, isEnd, resL, res1, iE, rE]
  exact ⟨_, rfl, rfl, fun k hk => by simp only [ne_nb hk, if_false]⟩
def spLAt : List Value → Option Value
  | [.int .i64 a, .int .i64 b, .int .i64 c] => if (-9223372036854775808 ≤ a ∧ a ≤ 9223372036854775807) ∧ (-9223372036854775808 ≤ b ∧ b ≤ 9223372036854775807) ∧ (-9223372036854775808 ≤ c ∧ c ≤ 9223372036854775807) then
      some (.agg ⟨iE a ++ iE b ++ iE c ++ iE 1⟩) else none
  | _ => none
def c31 : ICode :=
  (.seq (.reg [qq 6 (.alloc 30 8 [(.bool false), e0, (.bool false), e0, (.bool false), e0, (.bool false), e0])]) (.seq (.reg [qq 7 (.mv (.t 0)), qq 8 (.call 26 [(.t 7)]), qq 9 (.mv (.t 1)), qq 10 (.call 26 [(.t 9)]), qq 11 (.mv (.t 2)), qq 12 (.call 26 [(.t 11)]), qq 13 (.call 26 [(ci 1)]), qq 14 (.build [(.bool false), e0, (.bool false), e0, (.bool false), e0, (.bool false), e0] [(0, 2, (.t 8)), (2, 2, (.t 10)), (4, 2, (.t 12)), (6, 2, (.t 13))]), qn (.store 8 (.t 6) (.t 14))]) .ret))
theorem tr31 : trFun Tryz.prog 31 = some ⟨15, [.cell 6 true 8], c31⟩ := by kernel_rfl
theorem ok_lAt : SpecOK Tryz.prog 31 (flat spLAt) := by
  refine flat_run (env_cons ok_iFrom (env_nil _)) mixed tr31 ?_
  intro args v h N hG
  unfold spLAt at hG
  split at hG
  case h_2 => cases hG
  rename_i a b c
  split at hG
  case isFalse => cases hG
  rename_i hl
  obtain ⟨⟨h1, h2⟩, ⟨h3, h4⟩, ⟨h5, h6⟩⟩ := hl
  cases hG
  refine ⟨rfl, by simp, ?_⟩
  simp only [c31, G0, Nat.reduceAdd]
  simp only [↓R0, R1, simprocAttr, -Int.reduceAbs, spIFrom, h1, h2, h3, h4, h5, h6, Fin, isEnd, resL, res1, iE, rE]
  exact ⟨_, rfl, rfl, fun k hk => by simp only [ne_nb hk, if_false]⟩
theorem bl_small {n : Nat} (h0 : n ≠ 0) (h : n < 256) : bl n = [UInt8.ofNat n] := by
  rw [bl_pos h0, Nat.div_eq_of_lt h, bl_zero, Nat.mod_eq_of_lt h]
theorem iE_0 : iE 0 = [.bool false, .string ⟨⟨[]⟩⟩] := by unfold iE; rw [show Int.natAbs 0 = 0 from rfl, bl_zero]; rfl
theorem iE_1 : iE 1 = [.bool false, .string ⟨⟨[1]⟩⟩] := by unfold iE; rw [show Int.natAbs 1 = 1 from rfl, bl_small (by decide) (by decide)]; rfl
theorem iE_2 : iE 2 = [.bool false, .string ⟨⟨[2]⟩⟩] := by unfold iE; rw [show Int.natAbs 2 = 2 from rfl, bl_small (by decide) (by decide)]; rfl
theorem iE_3 : iE 3 = [.bool false, .string ⟨⟨[3]⟩⟩] := by unfold iE; rw [show Int.natAbs 3 = 3 from rfl, bl_small (by decide) (by decide)]; rfl
theorem iE_4 : iE 4 = [.bool false, .string ⟨⟨[4]⟩⟩] := by unfold iE; rw [show Int.natAbs 4 = 4 from rfl, bl_small (by decide) (by decide)]; rfl
def cE4 (a b c d : List UInt8) : List Value := [.bool false, .string ⟨⟨a⟩⟩, .bool false, .string ⟨⟨b⟩⟩, .bool false, .string ⟨⟨c⟩⟩, .bool false, .string ⟨⟨d⟩⟩]
theorem fx1 : spLFlat [.int .i64 1, .int .i64 0, .int .i64 0, .int .i64 2] = some (.agg ⟨cE4 [1] [] [] [2]⟩) := by
  unfold spLFlat; simp only; rw [if_pos (by decide), iE_1, iE_0, iE_2]; rfl
theorem fx2 : spLFlat [.int .i64 0, .int .i64 1, .int .i64 0, .int .i64 3] = some (.agg ⟨cE4 [] [1] [] [3]⟩) := by
  unfold spLFlat; simp only; rw [if_pos (by decide), iE_1, iE_0, iE_3]; rfl
theorem fx3 : spLFlat [.int .i64 0, .int .i64 0, .int .i64 1, .int .i64 4] = some (.agg ⟨cE4 [] [] [1] [4]⟩) := by
  unfold spLFlat; simp only; rw [if_pos (by decide), iE_1, iE_0, iE_4]; rfl
theorem fx4 : spLFlat [.int .i64 0, .int .i64 0, .int .i64 1, .int .i64 1] = some (.agg ⟨cE4 [] [] [1] [1]⟩) := by
  unfold spLFlat; simp only; rw [if_pos (by decide), iE_1, iE_0]; rfl
theorem fx5 : spLAt [.int .i64 0, .int .i64 0, .int .i64 0] = some (.agg ⟨cE4 [] [] [] [1]⟩) := by
  unfold spLAt; simp only; rw [if_pos (by decide), iE_1, iE_0]; rfl
theorem fx6 : spLAt [.int .i64 1, .int .i64 1, .int .i64 2] = some (.agg ⟨cE4 [1] [1] [2] [1]⟩) := by
  unfold spLAt; simp only; rw [if_pos (by decide), iE_1, iE_2]; rfl
theorem fx7 : spLAt [.int .i64 2, .int .i64 3, .int .i64 4] = some (.agg ⟨cE4 [2] [3] [4] [1]⟩) := by
  unfold spLAt; simp only; rw [if_pos (by decide), iE_1, iE_2, iE_3, iE_4]; rfl
theorem fx8 : spIFrom [.int .i64 1] = some (.agg ⟨[.bool false, .string ⟨⟨[1]⟩⟩]⟩) := by
  unfold spIFrom; simp only; rw [if_pos (by decide), iE_1]
theorem fx9 : spIFrom [.int .i64 2] = some (.agg ⟨[.bool false, .string ⟨⟨[2]⟩⟩]⟩) := by
  unfold spIFrom; simp only; rw [if_pos (by decide), iE_2]
theorem pE_2341 : pE 2 3 4 1 = cE4 [2] [3] [4] [1] := by
  unfold pE
  rw [show pQ 2 3 4 1 2 = 2 by decide, show pQ 2 3 4 1 3 = 3 by decide, show pQ 2 3 4 1 4 = 4 by decide, show pQ 2 3 4 1 (pW 1) = 1 by decide, iE_1, iE_2, iE_3, iE_4]; rfl
theorem pE_1122 : pE 1 1 2 2 = cE4 [1] [1] [2] [2] := by
  unfold pE
  rw [show pQ 1 1 2 2 1 = 1 by decide, show pQ 1 1 2 2 2 = 2 by decide, show pQ 1 1 2 2 (pW 2) = 2 by decide, iE_1, iE_2]; rfl
theorem fxA : spXThree [.agg ⟨cE4 [1] [] [] [2]⟩, .agg ⟨cE4 [] [1] [] [3]⟩, .agg ⟨cE4 [] [] [1] [4]⟩] = some (.tuple ⟨[.agg ⟨cE4 [2] [3] [4] [1]⟩, .bool true]⟩) := by
  unfold spXThree cE4
  simp only
  rw [if_pos (by decide), if_neg (by decide)]
  have h : ∀ X Y Z W : Int, X = 2 → Y = 3 → Z = 4 → W = 1 → some (Value.tuple ⟨[.agg ⟨pE X Y Z W⟩, .bool true]⟩) = some (.tuple ⟨[.agg ⟨cE4 [2] [3] [4] [1]⟩, .bool true]⟩) := by
    intro X Y Z W h1 h2 h3 h4
    rw [h1, h2, h3, h4, pE_2341]
  exact h _ _ _ _ (by decide) (by decide) (by decide) (by decide)
theorem fxB : spXLine [.agg ⟨cE4 [] [] [1] [1]⟩, .agg ⟨cE4 [] [] [] [1]⟩, .agg ⟨cE4 [1] [1] [2] [1]⟩] = some (.tuple ⟨[.agg ⟨cE4 [1] [1] [2] [2]⟩, .bool true]⟩) := by
  unfold spXLine cE4
  simp only
  rw [if_pos (by decide), if_neg (by decide), if_neg (by decide)]
  have h : ∀ X Y Z W : Int, X = 1 → Y = 1 → Z = 2 → W = 2 → some (Value.tuple ⟨[.agg ⟨pE X Y Z W⟩, .bool true]⟩) = some (.tuple ⟨[.agg ⟨cE4 [1] [1] [2] [2]⟩, .bool true]⟩) := by
    intro X Y Z W h1 h2 h3 h4
    rw [h1, h2, h3, h4, pE_1122]
  exact h _ _ _ _ (by decide) (by decide) (by decide) (by decide)
def spLFixed : List Value → Option Value
  | [] => some (.bool true)
  | _ => none
def c9 : ICode :=
  (.seq (.reg [qq 0 (.mv (.c (.bool false)))]) (.seq (.reg [qq 6 (.call 30 [(ci 1), (ci 0), (ci 0), (ci 2)]), qq 7 (.call 30 [(ci 0), (ci 1), (ci 0), (ci 3)]), qq 8 (.call 30 [(ci 0), (ci 0), (ci 1), (ci 4)]), qq 9 (.call 11 [(.t 6), (.t 7), (.t 8)]), qq 5 (.mv (.t 9)), qq 10 (.ext (.t 5) 0), qq 11 (.ext (.t 5) 1), qq 1 (.alloc 30 8 [(.bool false), e0, (.bool false), e0, (.bool false), e0, (.bool false), e0]), qn (.store 8 (.t 1) (.t 10)), qq 2 (.mv (.t 11))]) (.seq (.reg [qq 13 (.call 30 [(ci 0), (ci 0), (ci 1), (ci 1)]), qq 14 (.call 31 [(ci 0), (ci 0), (ci 0)]), qq 15 (.call 31 [(ci 1), (ci 1), (ci 2)]), qq 16 (.call 15 [(.t 13), (.t 14), (.t 15)]), qq 12 (.mv (.t 16)), qq 17 (.ext (.t 12) 0), qq 18 (.ext (.t 12) 1), qq 3 (.alloc 30 8 [(.bool false), e0, (.bool false), e0, (.bool false), e0, (.bool false), e0]), qn (.store 8 (.t 3) (.t 17)), qq 4 (.mv (.t 18))]) (.seq (.dreg [qu 19 (.mv (.t 2)), qu 20 (.mv (.t 19)), ⟨(some 21), (some (20, true)), [], (.mv (.t 4))⟩, qu 22 (.pick (.t 20) (.t 21) (.c (.bool false))), qu 23 (.mv (.t 22)), ⟨(some 24), (some (23, true)), [], (.load true 8 (.t 1))⟩, ⟨(some 25), (some (23, true)), [], (.call 31 [(ci 2), (ci 3), (ci 4)])⟩, ⟨(some 26), (some (23, true)), [], (.eqa false [.b, .s, .b, .s, .b, .s, .b, .s] (.t 24) (.t 25))⟩, qu 27 (.pick (.t 23) (.t 26) (.c (.bool false))), qu 28 (.mv (.t 27)), ⟨(some 29), (some (28, true)), [], (.load true 8 (.t 3))⟩, ⟨(some 30), (some (28, true)), [], (.call 26 [(ci 1)])⟩, ⟨(some 31), (some (28, true)), [], (.call 26 [(ci 1)])⟩, ⟨(some 32), (some (28, true)), [], (.call 26 [(ci 2)])⟩, ⟨(some 33), (some (28, true)), [], (.call 26 [(ci 2)])⟩, ⟨(some 34), (some (28, true)), [], (.build [(.bool false), e0, (.bool false), e0, (.bool false), e0, (.bool false), e0] [(0, 2, (.t 30)), (2, 2, (.t 31)), (4, 2, (.t 32)), (6, 2, (.t 33))])⟩, ⟨(some 35), (some (28, true)), [], (.eqa false [.b, .s, .b, .s, .b, .s, .b, .s] (.t 29) (.t 34))⟩, qu 36 (.pick (.t 28) (.t 35) (.c (.bool false))), qu 0 (.mv (.t 36))]) .ret))))
theorem tr9 : trFun Tryz.prog 9 = some ⟨37, [.t 0], c9⟩ := by kernel_rfl
set_option maxHeartbeats 4000000 in
theorem ok_lFixed : SpecOK Tryz.prog 9 (flat spLFixed) := by
  refine flat_run (env_cons ok_lFlat (env_cons ok_lAt (env_cons ok_iFrom (env_cons ok_xThree (env_cons ok_xLine (env_nil _)))))) mixed tr9 ?_
  intro args v h N hG
  unfold spLFixed at hG
  split at hG
  case h_2 => cases hG
  cases hG
  refine ⟨rfl, by simp, ?_⟩
  have fA := fxA
  have fB := fxB
  have g1 := fx1
  have g2 := fx2
  have g3 := fx3
  have g4 := fx4
  have g5 := fx5
  have g6 := fx6
  have g7 := fx7
  unfold cE4 at fA fB g1 g2 g3 g4 g5 g6 g7
  simp only [c9, G0, Nat.reduceAdd]
  simp only [↓R0, R1, simprocAttr, -Int.reduceAbs, g1, g2, g3, g4, g5, g6, g7, fx8, fx9, fA, fB, ceq, Fin, isEnd, resL, res1, iE, rE]
  exact ⟨_, rfl, rfl, fun k hk => by simp only [ne_nb hk, if_false]⟩
end Go.Eng
end
section
set_option linter.unusedVariables false
set_option linter.unusedSimpArgs false
set_option linter.unusedSectionVars false
set_option maxRecDepth 20000
namespace Go.Eng
open Go Go.Proofs Go.IntWalk
theorem ints_cons {cells : List Value} {z : Bool × List UInt8} {zs : List (Bool × List UInt8)} (h : ints cells = some (z :: zs)) : ∃ r, cells = .bool z.1 :: .string ⟨⟨z.2⟩⟩ :: r ∧ ints r = some zs := by
  unfold ints at h
  split at h
  · cases h
  · rename_i s l r
    rw [Option.map_eq_some_iff] at h
    obtain ⟨ys, h1, h2⟩ := h
    cases h2
    exact ⟨r, rfl, h1⟩
  · cases h
theorem ints_drop : ∀ (j : Nat) {cells : List Value} {zs : List (Bool × List UInt8)}, ints cells = some zs → j ≤ zs.length → ints (cells.drop (2 * j)) = some (zs.drop j)
  | 0, cells, zs, h, _ => h
  | j + 1, cells, zs, h, hj => by
    match zs, hj with
    | z :: zs, hj =>
      obtain ⟨r, rfl, hr⟩ := ints_cons h
      have := ints_drop j hr (by simpa using hj)
      rw [show 2 * (j + 1) = 2 * j + 2 by omega]
      simpa using this
theorem ints_four {cells : List Value} {zs : List (Bool × List UInt8)} (h : ints cells = some zs) {i : Nat} (hi : 4 * i + 4 ≤ zs.length) :
    ∃ s1 l1 s2 l2 s3 l3 s4 l4, zs.drop (4 * i) = (s1, l1) :: (s2, l2) :: (s3, l3) :: (s4, l4) :: zs.drop (4 * i + 4) ∧ i * 8 + 8 ≤ cells.length ∧
      (cells.drop (i * 8)).take 8 = [.bool s1, .string ⟨⟨l1⟩⟩, .bool s2, .string ⟨⟨l2⟩⟩, .bool s3, .string ⟨⟨l3⟩⟩, .bool s4, .string ⟨⟨l4⟩⟩] := by
  have hd := ints_drop (4 * i) h (by omega)
  have e : 2 * (4 * i) = i * 8 := by omega
  rw [e] at hd
  obtain ⟨⟨s1, l1⟩, h1⟩ : ∃ z, zs[4 * i]? = some z := ⟨_, List.getElem?_eq_getElem (by omega)⟩
  obtain ⟨⟨s2, l2⟩, h2⟩ : ∃ z, zs[4 * i + 1]? = some z := ⟨_, List.getElem?_eq_getElem (by omega)⟩
  obtain ⟨⟨s3, l3⟩, h3⟩ : ∃ z, zs[4 * i + 2]? = some z := ⟨_, List.getElem?_eq_getElem (by omega)⟩
  obtain ⟨⟨s4, l4⟩, h4⟩ : ∃ z, zs[4 * i + 3]? = some z := ⟨_, List.getElem?_eq_getElem (by omega)⟩
  have dr : ∀ (k : Nat) z, zs[k]? = some z → zs.drop k = z :: zs.drop (k + 1) := fun k z hk => by
    have := List.getElem?_eq_some_iff.1 hk
    obtain ⟨h5, h6⟩ := this
    rw [List.drop_eq_getElem_cons h5, h6]
  have hz : zs.drop (4 * i) = (s1, l1) :: (s2, l2) :: (s3, l3) :: (s4, l4) :: zs.drop (4 * i + 4) := by
    rw [dr _ _ h1, dr _ _ h2, dr _ _ h3, dr _ _ h4]
  rw [hz] at hd
  obtain ⟨r1, c1, d1⟩ := ints_cons hd
  obtain ⟨r2, c2, d2⟩ := ints_cons d1
  obtain ⟨r3, c3, d3⟩ := ints_cons d2
  obtain ⟨r4, c4, d4⟩ := ints_cons d3
  subst c2 c3 c4
  refine ⟨s1, l1, s2, l2, s3, l3, s4, l4, hz, ?_, by rw [c1]; rfl⟩
  have := congrArg List.length c1
  simp at this
  omega
def spLGreat : List Value → Heap → Option Value
  | [.slice (some ⟨k, 0, none⟩) len _], h => match hget h k with
    | some blk => match ints blk.cells with
      | some zs => if 4 * len ≤ zs.length ∧ len ≤ 1000 then some (.int .i64 (if (zs.take (4 * len)).all (fun z => decide (z.2.length ≤ 6)) = true then 0 else 1)) else none
      | none => none
    | none => none
  | _, _ => none
def c13 : ICode :=
  (.seq (.reg [qq 2 (.mv (ci 0))]) (.seq (.seq (.reg [qq 5 (.mv (.t 0)), qq 6 (.lensl (.t 5)), qq 7 (.mv (ci 0))]) (.block 0 (.loop (.seq (.reg [qq 8 (.bin .lss (.t 7) (.t 6))]) (.seq (.cond (.t 8) .skip (.exit 0)) (.seq (.block 1 (.seq (.reg [qq 9 (.ixsl 8 (.t 5) (.t 7)), qq 10 (.load true 8 (.t 9)), qq 4 (.alloc 30 8 [(.bool false), e0, (.bool false), e0, (.bool false), e0, (.bool false), e0]), qn (.store 8 (.t 4) (.t 10))]) (.seq (.reg [qq 11 (.faddr 0 (.t 4)), qq 12 (.faddr 1 (.t 11)), qq 13 (.load false 1 (.t 12)), qq 14 (.lens (.t 13)), qq 15 (.bin .gtr (.t 14) (ci 6)), qq 16 (.mv (.t 15)), ⟨(some 17), (some (16, false)), (.faddr 2 (.t 4))⟩, ⟨(some 18), (some (16, false)), (.faddr 1 (.t 17))⟩, ⟨(some 19), (some (16, false)), (.load false 1 (.t 18))⟩, ⟨(some 20), (some (16, false)), (.lens (.t 19))⟩, ⟨(some 21), (some (16, false)), (.bin .gtr (.t 20) (ci 6))⟩, qq 22 (.pick (.t 16) (.c (.bool true)) (.t 21)), qq 23 (.mv (.t 22)), ⟨(some 24), (some (23, false)), (.faddr 4 (.t 4))⟩, ⟨(some 25), (some (23, false)), (.faddr 1 (.t 24))⟩, ⟨(some 26), (some (23, false)), (.load false 1 (.t 25))⟩, ⟨(some 27), (some (23, false)), (.lens (.t 26))⟩, ⟨(some 28), (some (23, false)), (.bin .gtr (.t 27) (ci 6))⟩, qq 29 (.pick (.t 23) (.c (.bool true)) (.t 28)), qq 30 (.mv (.t 29)), ⟨(some 31), (some (30, false)), (.faddr 6 (.t 4))⟩, ⟨(some 32), (some (30, false)), (.faddr 1 (.t 31))⟩, ⟨(some 33), (some (30, false)), (.load false 1 (.t 32))⟩, ⟨(some 34), (some (30, false)), (.lens (.t 33))⟩, ⟨(some 35), (some (30, false)), (.bin .gtr (.t 34) (ci 6))⟩, qq 36 (.pick (.t 30) (.c (.bool true)) (.t 35))]) (.cond (.t 36) (.seq (.reg [qq 2 (.mv (ci 1))]) .ret) .skip)))) (.reg [qq 37 (.bin .add (.t 7) (ci 1)), qq 7 (.mv (.t 37))]))))))) (.seq (.reg [qq 2 (.mv (ci 0))]) .ret)))
theorem tr13 : trFun Tryz.prog 13 = some ⟨38, [.t 2], c13⟩ := by kernel_rfl
set_option maxHeartbeats 1000000 in
theorem ok_lGreat : SpecOK Tryz.prog 13 (rdS spLGreat) := by
  refine rd_run (env_nil _) mixed tr13 ?_ ?_
  · intro args h h' v hle e
    unfold spLGreat at e ⊢
    split at e
    · rename_i k len c
      split at e
      · rename_i blk hb
        simp only [hle _ _ hb]; exact e
      · cases e
    · cases e
  intro args v h N hG hN
  unfold spLGreat at hG
  split at hG
  case h_2 => cases hG
  rename_i k len c
  split at hG
  case h_2 => cases hG
  rename_i blk hb
  split at hG
  case h_2 => cases hG
  rename_i zs hz
  split at hG
  case isFalse => cases hG
  rename_i hl
  obtain ⟨hl1, hl2⟩ := hl
  cases hG
  have hk := hN _ _ hb
  refine ⟨by rfl, by simp, ?_⟩
  have tr : ∀ l : List UInt8, ¬ l.length ≤ 6 → ((l.length : Int) > 6) = True := fun l h => eq_true (by omega)
  have fl : ∀ l : List UInt8, l.length ≤ 6 → ((l.length : Int) > 6) = False := fun l h => eq_false (by omega)
  simp only [c13, G0, Nat.reduceAdd]
  simp only [↓R0, R1, simprocAttr, -Int.reduceAbs]
  refine lp_parts (fun n tm hp nx => ∃ (i : Nat), n + i = len ∧ tmget tm 5 = .slice (some ⟨k, 0, none⟩) len c ∧ tmget tm 6 = .int .i64 len ∧ tmget tm 7 = .int .i64 i ∧
      (zs.take (4 * i)).all (fun z => decide (z.2.length ≤ 6)) = true ∧ (∀ q, q < N → hget hp q = hget h q) ∧ nx = N + i) ?_ len
    ⟨0, by omega, ?_, ?_, ?_, rfl, fun q _ => rfl, rfl⟩
  · intro n tm hp nx ⟨i, hn, t5, t6, t7, hall, hh, hnx⟩
    rw [hnx]
    clear hnx nx
    by_cases c1 : i < len
    · obtain ⟨s1, l1, s2, l2, s3, l3, s4, l4, e1, e2, e3⟩ := ints_four hz (i := i) (by omega)
      have hbb : hget hp k = some blk := by rw [hh k hk]; exact hb
      have ei : IntKind.i64.wrap ((i : Int) + 1) = ((i + 1 : Nat) : Int) := by rw [i64_in _ (by omega)]; omega
      have hne : ¬ (N + i = k) := by omega
      have hlen : ∀ m, i < m → 4 * m ≤ zs.length → zs.take (4 * m) = zs.take (4 * i) ++ ((s1, l1) :: (s2, l2) :: (s3, l3) :: (s4, l4) :: (zs.drop (4 * i + 4)).take (4 * m - (4 * i + 4))) := by
        intro m hm hm2
        have : zs.take (4 * m) = zs.take (4 * i) ++ (zs.drop (4 * i)).take (4 * m - 4 * i) := by
          rw [← List.take_add, show 4 * i + (4 * m - 4 * i) = 4 * m by omega]
        rw [this, e1]
        obtain ⟨d, hd⟩ : ∃ d, 4 * m - 4 * i = d + 4 := ⟨4 * m - 4 * i - 4, by omega⟩
        rw [hd, show 4 * m - (4 * i + 4) = d by omega]
        rfl
      have htot := hlen len c1 hl1
      by_cases c2 : l1.length ≤ 6 ∧ l2.length ≤ 6 ∧ l3.length ≤ 6 ∧ l4.length ≤ 6
      · obtain ⟨q1, q2, q3, q4⟩ := c2
        have d1 := fl l1 q1
        have d2 := fl l2 q2
        have d3 := fl l3 q3
        have d4 := fl l4 q4
        simp only [↓R0, R1, simprocAttr, -Int.reduceAbs, t5, t6, t7, c1, hne, hbb, e2, e3, d1, d2, d3, d4, ei]
        refine ⟨n - 1, by omega, i + 1, by omega, rfl, ?_, ?_, rfl⟩
        · have := hlen (i + 1) (by omega) (by omega)
          rw [this]
          simp [hall, q1, q2, q3, q4, show 4 * (i + 1) - (4 * i + 4) = 0 by omega]
        · intro q hq
          simp only [if_neg (show ¬ N + i = q by omega)]
          exact hh q hq
      · have hbad : ¬ ((zs.take (4 * len)).all (fun z => decide (z.2.length ≤ 6)) = true) := by
          intro e
          rw [htot] at e
          simp only [List.all_append, List.all_cons, Bool.and_eq_true, decide_eq_true_eq] at e
          exact c2 ⟨e.2.1, e.2.2.1, e.2.2.2.1, e.2.2.2.2.1⟩
        rw [if_neg hbad]
        by_cases q1 : l1.length ≤ 6
        · have d1 := fl l1 q1
          by_cases q2 : l2.length ≤ 6
          · have d2 := fl l2 q2
            by_cases q3 : l3.length ≤ 6
            · have d3 := fl l3 q3
              have d4 := tr l4 (fun q4 => c2 ⟨q1, q2, q3, q4⟩)
              simp only [↓R0, R1, simprocAttr, -Int.reduceAbs, t5, t6, t7, c1, hne, hbb, e2, e3, d1, d2, d3, d4, Fin, isEnd, resL, res1, iE, rE]
              first | exact ⟨_, rfl, rfl, hh⟩ | exact ⟨_, rfl, rfl, fun k hk => by simp only [ne_nb hk, if_false]; exact hh k hk⟩
            · have d3 := tr l3 q3
              simp only [↓R0, R1, simprocAttr, -Int.reduceAbs, t5, t6, t7, c1, hne, hbb, e2, e3, d1, d2, d3, Fin, isEnd, resL, res1, iE, rE]
              first | exact ⟨_, rfl, rfl, hh⟩ | exact ⟨_, rfl, rfl, fun k hk => by simp only [ne_nb hk, if_false]; exact hh k hk⟩
          · have d2 := tr l2 q2
            simp only [↓R0, R1, simprocAttr, -Int.reduceAbs, t5, t6, t7, c1, hne, hbb, e2, e3, d1, d2, Fin, isEnd, resL, res1, iE, rE]
            first | exact ⟨_, rfl, rfl, hh⟩ | exact ⟨_, rfl, rfl, fun k hk => by simp only [ne_nb hk, if_false]; exact hh k hk⟩
        · have d1 := tr l1 q1
          simp only [↓R0, R1, simprocAttr, -Int.reduceAbs, t5, t6, t7, c1, hne, hbb, e2, e3, d1, Fin, isEnd, resL, res1, iE, rE]
          first | exact ⟨_, rfl, rfl, hh⟩ | exact ⟨_, rfl, rfl, fun k hk => by simp only [ne_nb hk, if_false]; exact hh k hk⟩
    · have ei : i = len := by omega
      subst ei
      rw [if_pos hall]
      simp only [↓R0, R1, simprocAttr, -Int.reduceAbs, t5, t6, t7, c1, Fin, isEnd, resL, res1, iE, rE]
      first | exact ⟨_, rfl, rfl, hh⟩ | exact ⟨_, rfl, rfl, fun k hk => by simp only [ne_nb hk, if_false]; exact hh k hk⟩
  · (first | (simp only [↓R0, R1, simprocAttr, -Int.reduceAbs]; done) | (simp only [↓R0, R1, simprocAttr, -Int.reduceAbs]; rfl) | rfl)
  · (first | (simp only [↓R0, R1, simprocAttr, -Int.reduceAbs]; done) | (simp only [↓R0, R1, simprocAttr, -Int.reduceAbs]; rfl) | rfl)
  · (first | (simp only [↓R0, R1, simprocAttr, -Int.reduceAbs]; done) | (simp only [↓R0, R1, simprocAttr, -Int.reduceAbs]; rfl) | rfl)
end Go.Eng
end
section
set_option linter.unusedVariables false
set_option linter.unusedSimpArgs false
set_option linter.unusedSectionVars false
set_option maxRecDepth 20000
namespace Go.Eng
open Go Go.Proofs Go.IntWalk
end Go.Eng
end
section
set_option linter.unusedVariables false
set_option linter.unusedSimpArgs false
set_option linter.unusedSectionVars false
namespace Go.Eng
theorem pW_pW (w : Int) : pW (pW w) = pW w := pW_of (pW_ne w)
theorem pE_pW (x y z w : Int) : pE x y z (pW w) = pE x y z w := by
  unfold pE pQ pG; rw [pW_pW]
theorem pE_idem (x y z w : Int) : pE (pQ x y z w x) (pQ x y z w y) (pQ x y z w z) (pQ x y z w (pW w)) = pE x y z w := by
  rw [← pE_pW x y z w]
  have h1 := pQ_mul (pG_dvd_x x y z w)
  have h2 := pQ_mul (pG_dvd_y x y z w)
  have h3 := pQ_mul (pG_dvd_z x y z w)
  have h4 := pQ_mul (pG_dvd_w x y z w)
  have hp := pQ_pos x y z w
  have hw := pW_ne w
  have hg := pG_pos x y z w
  have hg' : (pG x y z w : Int) ≠ 0 := by omega
  generalize (pG x y z w : Int) = g at *
  generalize pQ x y z w x = X at *
  generalize pQ x y z w y = Y at *
  generalize pQ x y z w z = Z at *
  generalize pQ x y z w (pW w) = W at *
  generalize pW w = v at *
  have key : ∀ {A a : Int}, A * g = (if v < 0 then -a else a) → A * v = a * W := by
    intro A a h
    apply Int.eq_of_mul_eq_mul_right hg'
    by_cases c : v < 0
    · rw [if_pos c] at h h4; grind
    · rw [if_neg c] at h h4; grind
  exact pE_eq (by omega) hw (key h1) (key h2) (key h3)
namespace Pt
def of (a b c d : Int) : Pt := ⟨decide (a < 0), bl a.natAbs, decide (b < 0), bl b.natAbs, decide (c < 0), bl c.natAbs, decide (d < 0), bl d.natAbs⟩
theorem of_x (a b c d : Int) : (of a b c d).x = a := sv_can a
theorem of_y (a b c d : Int) : (of a b c d).y = b := sv_can b
theorem of_z (a b c d : Int) : (of a b c d).z = c := sv_can c
theorem of_w (a b c d : Int) : (of a b c d).w = d := sv_can d
def can (p : Pt) : Prop := 0 < p.w ∧ pE p.x p.y p.z p.w = p.cells
theorem can_of (x y z w : Int) : can (of (pQ x y z w x) (pQ x y z w y) (pQ x y z w z) (pQ x y z w (pW w))) := by
  unfold can
  rw [of_x, of_y, of_z, of_w]
  exact ⟨pQ_pos x y z w, by rw [pE_idem]; rfl⟩
theorem can_eq {p q : Pt} (hp : p.can) (hq : q.can) (h : cmp p q = 0) : p = q := by
  have h1 := hp.1
  have h2 := hq.1
  have e := cmp4_zero h
  have c : p.cells = q.cells := by
    rw [← hp.2, ← hq.2]
    exact pE_eq (by omega) (by omega) e.1 e.2.1 e.2.2
  obtain ⟨s1, l1, s2, l2, s3, l3, s4, l4⟩ := p
  obtain ⟨t1, m1, t2, m2, t3, m3, t4, m4⟩ := q
  unfold cells at c
  simp only [List.cons.injEq, Value.bool.injEq, Value.string.injEq, and_true] at c
  obtain ⟨c1, d1, c2, d2, c3, d3, c4, d4⟩ := c
  injection d1 with d1; injection d1 with d1
  injection d2 with d2; injection d2 with d2
  injection d3 with d3; injection d3 with d3
  injection d4 with d4; injection d4 with d4
  subst c1 c2 c3 c4 d1 d2 d3 d4
  rfl
end Pt
end Go.Eng
end
section
set_option linter.unusedVariables false
set_option linter.unusedSimpArgs false
set_option linter.unusedSectionVars false
set_option maxRecDepth 20000
namespace Go.Eng
open Go Go.Proofs Go.IntWalk
theorem r4Norm_pt {s1 l1 s2 l2 s3 l3 s4 l4} (h1 : List.length l1 ≤ 6) (h2 : List.length l2 ≤ 6) (h3 : List.length l3 ≤ 6) (h4 : List.length l4 ≤ 6) :
    ∃ p : Pt, spR4Norm [.agg ⟨[.bool s1, .string ⟨⟨l1⟩⟩, .bool s2, .string ⟨⟨l2⟩⟩, .bool s3, .string ⟨⟨l3⟩⟩, .bool s4, .string ⟨⟨l4⟩⟩]⟩] = some (.agg ⟨p.cells⟩) ∧ p.can ∧ p.ok := by
  refine ⟨_, ?_, Pt.can_of (sv s1 l1) (sv s2 l2) (sv s3 l3) (sv s4 l4), ?_⟩
  · unfold spR4Norm
    simp only
    rw [if_pos ⟨by omega, by omega, by omega, by omega⟩]; rfl
  · have t := fun {n : Nat} (h : n ≤ 6) => (Nat.le_trans h (by omega) : n ≤ 65536)
    exact ⟨⟨t (pQ_len (len_sv h1)), t (pQ_len (len_sv h2)), t (pQ_len (len_sv h3)), t (pQ_len (pW_len (len_sv h4) (by omega)))⟩, (Pt.can_of (sv s1 l1) (sv s2 l2) (sv s3 l3) (sv s4 l4)).1⟩
theorem xOver_pt {p q r t : Pt} (hp : p.ok) (hq : q.ok) (hr : r.ok) (ht : t.ok) : spXOver [.agg ⟨p.cells⟩, .agg ⟨q.cells⟩, .agg ⟨r.cells⟩, .agg ⟨t.cells⟩] = some (ovE (Pt.over p q r t)) := by
  unfold spXOver Pt.cells
  exact if_pos ⟨hp, hq, hr, ht⟩
theorem r6Share_pt {p q r t : Pt} (hp : p.ok) (hq : q.ok) (hr : r.ok) (ht : t.ok) : spR6Share [.agg ⟨p.cells⟩, .agg ⟨q.cells⟩, .agg ⟨r.cells⟩, .agg ⟨t.cells⟩] = some (ovE (Pt.share p q r t)) := by
  unfold spR6Share Pt.cells
  exact if_pos ⟨hp, hq, hr, ht⟩
def spLOver : List Value → Option Value
  | [.agg ⟨[.bool s1, .string ⟨⟨l1⟩⟩, .bool s2, .string ⟨⟨l2⟩⟩, .bool s3, .string ⟨⟨l3⟩⟩, .bool s4, .string ⟨⟨l4⟩⟩, .bool t1, .string ⟨⟨m1⟩⟩, .bool t2, .string ⟨⟨m2⟩⟩, .bool t3, .string ⟨⟨m3⟩⟩, .bool t4, .string ⟨⟨m4⟩⟩, .bool u1, .string ⟨⟨o1⟩⟩, .bool u2, .string ⟨⟨o2⟩⟩, .bool u3, .string ⟨⟨o3⟩⟩, .bool u4, .string ⟨⟨o4⟩⟩, .bool y1, .string ⟨⟨z1⟩⟩, .bool y2, .string ⟨⟨z2⟩⟩, .bool y3, .string ⟨⟨z3⟩⟩, .bool y4, .string ⟨⟨z4⟩⟩]⟩] => some (.bool true)
  | _ => none
def c6 : ICode :=
  (.seq (.reg [qq 1 (.box 38 32 (.t 0)), qq 2 (.mv (.c (.bool false)))]) (.seq (.seq (.reg [qq 13 (.slarr 4 8 (.t 1) none none), qq 14 (.call 13 [(.t 13)]), qq 15 (.bin .gtr (.t 14) (ci 0))]) (.cond (.t 15) (.seq (.reg [qq 16 (.call 9 []), qq 2 (.mv (.t 16))]) .ret) .skip)) (.seq (.dreg [qu 17 (.ixarr 4 8 (.t 1) (ci 0)), qu 18 (.load true 8 (.t 17)), qu 19 (.call 14 [(.t 18)]), qu 20 (.ixarr 4 8 (.t 1) (ci 1)), qv 21 [2] (.load true 8 (.t 20)), qu 22 (.call 14 [(.t 21)]), qu 23 (.ixarr 4 8 (.t 1) (ci 2)), qv 24 [2, 5] (.load true 8 (.t 23)), qu 25 (.call 14 [(.t 24)]), qu 26 (.ixarr 4 8 (.t 1) (ci 3)), qv 27 [2, 5, 8] (.load true 8 (.t 26)), qu 28 (.call 14 [(.t 27)]), qu 3 (.alloc 30 8 [(.bool false), e0, (.bool false), e0, (.bool false), e0, (.bool false), e0]), qu 4 (.alloc 30 8 [(.bool false), e0, (.bool false), e0, (.bool false), e0, (.bool false), e0]), qu 5 (.alloc 30 8 [(.bool false), e0, (.bool false), e0, (.bool false), e0, (.bool false), e0]), qu 6 (.alloc 30 8 [(.bool false), e0, (.bool false), e0, (.bool false), e0, (.bool false), e0]), qm (.store 8 (.t 3) (.t 19)), qm (.store 8 (.t 4) (.t 22)), qm (.store 8 (.t 5) (.t 25)), qm (.store 8 (.t 6) (.t 28))]) (.seq (.reg [qq 30 (.load true 8 (.t 3)), qq 31 (.load true 8 (.t 4)), qq 32 (.load true 8 (.t 5)), qq 33 (.load true 8 (.t 6)), qq 34 (.call 23 [(.t 30), (.t 31), (.t 32), (.t 33)]), qq 29 (.mv (.t 34)), qq 35 (.ext (.t 29) 0), qq 36 (.ext (.t 29) 1), qq 37 (.ext (.t 29) 2), qq 7 (.alloc 30 8 [(.bool false), e0, (.bool false), e0, (.bool false), e0, (.bool false), e0]), qq 8 (.alloc 30 8 [(.bool false), e0, (.bool false), e0, (.bool false), e0, (.bool false), e0]), qn (.store 8 (.t 7) (.t 35)), qn (.store 8 (.t 8) (.t 36)), qq 9 (.mv (.t 37))]) (.seq (.reg [qq 39 (.load true 8 (.t 3)), qq 40 (.load true 8 (.t 4)), qq 41 (.load true 8 (.t 5)), qq 42 (.load true 8 (.t 6)), qq 43 (.call 24 [(.t 39), (.t 40), (.t 41), (.t 42)]), qq 38 (.mv (.t 43)), qq 44 (.ext (.t 38) 0), qq 45 (.ext (.t 38) 1), qq 46 (.ext (.t 38) 2), qq 10 (.alloc 30 8 [(.bool false), e0, (.bool false), e0, (.bool false), e0, (.bool false), e0]), qq 11 (.alloc 30 8 [(.bool false), e0, (.bool false), e0, (.bool false), e0, (.bool false), e0]), qn (.store 8 (.t 10) (.t 44)), qn (.store 8 (.t 11) (.t 45)), qq 12 (.mv (.t 46))]) (.seq (.reg [qq 47 (.call 9 []), qq 48 (.mv (.t 47)), ⟨(some 49), (some (48, true)), (.load true 8 (.t 7))⟩, ⟨(some 50), (some (48, true)), (.load true 8 (.t 10))⟩, ⟨(some 51), (some (48, true)), (.eqa false [.b, .s, .b, .s, .b, .s, .b, .s] (.t 49) (.t 50))⟩, qq 52 (.pick (.t 48) (.t 51) (.c (.bool false))), qq 53 (.mv (.t 52)), ⟨(some 54), (some (53, true)), (.load true 8 (.t 8))⟩, ⟨(some 55), (some (53, true)), (.load true 8 (.t 11))⟩, ⟨(some 56), (some (53, true)), (.eqa false [.b, .s, .b, .s, .b, .s, .b, .s] (.t 54) (.t 55))⟩, qq 57 (.pick (.t 53) (.t 56) (.c (.bool false))), qq 58 (.mv (.t 57)), ⟨(some 59), (some (58, true)), (.mv (.t 9))⟩, ⟨(some 60), (some (58, true)), (.mv (.t 12))⟩, ⟨(some 61), (some (58, true)), (.eqb false (.t 59) (.t 60))⟩, qq 62 (.pick (.t 58) (.t 61) (.c (.bool false))), qq 2 (.mv (.t 62))]) .ret))))))
theorem tr6 : trFun Tryz.prog 6 = some ⟨63, [.t 2], c6⟩ := by kernel_rfl
set_option maxHeartbeats 8000000 in
theorem ok_lOver : SpecOK Tryz.prog 6 (flat spLOver) := by
  refine flat_run (env_cons ok_lGreat (env_cons ok_lFixed (env_cons ok_r4Norm (env_cons ok_xOver (env_cons ok_r6Share (env_nil _)))))) mixed tr6 ?_
  intro args v h N hG
  unfold spLOver at hG
  split at hG
  case h_2 => cases hG
  rename_i s1 l1 s2 l2 s3 l3 s4 l4 t1 m1 t2 m2 t3 m3 t4 m4 u1 o1 u2 o2 u3 o3 u4 o4 y1 z1 y2 z2 y3 z3 y4 z4
  cases hG
  refine ⟨rfl, by simp, ?_⟩
  simp only [c6, G0, Nat.reduceAdd]
  obtain ⟨Gq, eGq⟩ : ∃ g : Prop, g = ((List.all [(s1, l1), (s2, l2), (s3, l3), (s4, l4), (t1, m1), (t2, m2), (t3, m3), (t4, m4), (u1, o1), (u2, o2), (u3, o3), (u4, o4), (y1, z1), (y2, z2), (y3, z3), (y4, z4)] fun z => decide (z.2.length ≤ 6)) = true) := ⟨_, rfl⟩
  by_cases gq : Gq
  case neg =>
    have gq' : ¬ ((List.all [(s1, l1), (s2, l2), (s3, l3), (s4, l4), (t1, m1), (t2, m2), (t3, m3), (t4, m4), (u1, o1), (u2, o2), (u3, o3), (u4, o4), (y1, z1), (y2, z2), (y3, z3), (y4, z4)] fun z => decide (z.2.length ≤ 6)) = true) := eGq ▸ gq
    have gl : ∀ e h' b N', b = [.bool s1, .string ⟨⟨l1⟩⟩, .bool s2, .string ⟨⟨l2⟩⟩, .bool s3, .string ⟨⟨l3⟩⟩, .bool s4, .string ⟨⟨l4⟩⟩, .bool t1, .string ⟨⟨m1⟩⟩, .bool t2, .string ⟨⟨m2⟩⟩, .bool t3, .string ⟨⟨m3⟩⟩, .bool t4, .string ⟨⟨m4⟩⟩, .bool u1, .string ⟨⟨o1⟩⟩, .bool u2, .string ⟨⟨o2⟩⟩, .bool u3, .string ⟨⟨o3⟩⟩, .bool u4, .string ⟨⟨o4⟩⟩, .bool y1, .string ⟨⟨z1⟩⟩, .bool y2, .string ⟨⟨z2⟩⟩, .bool y3, .string ⟨⟨z3⟩⟩, .bool y4, .string ⟨⟨z4⟩⟩] → spLGreat [mkSl N' 0 8 4 0 4] ((N', some ⟨e, 32, true, b⟩) :: h') = some (.int .i64 1) := by
      intro e h' b N' eb
      subst eb
      have em : mkSl N' 0 8 4 0 4 = .slice (some ⟨N', 0, none⟩) 4 4 := by unfold mkSl; rw [if_neg (by decide)]
      rw [em]
      unfold spLGreat
      simp only [hget, if_true, ints, Option.map_some, Nat.reduceMul, List.length_cons, List.length_nil, List.take_succ_cons, List.take_zero]
      rw [if_pos (by decide)]
      simp only [gq', Bool.false_eq_true, if_false, if_true]
    have gl' := fun e h' N' => gl e h' _ N' rfl
    simp only [↓R0, R1, simprocAttr, -Int.reduceAbs, rdS, gl', spLFixed, Fin, isEnd, resL, res1, iE, rE]
    exact ⟨_, rfl, rfl, fun k hk => by simp only [ne_nb hk, if_false]⟩
  have gq' : (List.all [(s1, l1), (s2, l2), (s3, l3), (s4, l4), (t1, m1), (t2, m2), (t3, m3), (t4, m4), (u1, o1), (u2, o2), (u3, o3), (u4, o4), (y1, z1), (y2, z2), (y3, z3), (y4, z4)] fun z => decide (z.2.length ≤ 6)) = true := eGq ▸ gq
  have gl' : ∀ e h' N', spLGreat [mkSl N' 0 8 4 0 4] ((N', some ⟨e, 32, true, [.bool s1, .string ⟨⟨l1⟩⟩, .bool s2, .string ⟨⟨l2⟩⟩, .bool s3, .string ⟨⟨l3⟩⟩, .bool s4, .string ⟨⟨l4⟩⟩, .bool t1, .string ⟨⟨m1⟩⟩, .bool t2, .string ⟨⟨m2⟩⟩, .bool t3, .string ⟨⟨m3⟩⟩, .bool t4, .string ⟨⟨m4⟩⟩, .bool u1, .string ⟨⟨o1⟩⟩, .bool u2, .string ⟨⟨o2⟩⟩, .bool u3, .string ⟨⟨o3⟩⟩, .bool u4, .string ⟨⟨o4⟩⟩, .bool y1, .string ⟨⟨z1⟩⟩, .bool y2, .string ⟨⟨z2⟩⟩, .bool y3, .string ⟨⟨z3⟩⟩, .bool y4, .string ⟨⟨z4⟩⟩]⟩) :: h') = some (.int .i64 0) := by
    have gl : ∀ e h' b N', b = [.bool s1, .string ⟨⟨l1⟩⟩, .bool s2, .string ⟨⟨l2⟩⟩, .bool s3, .string ⟨⟨l3⟩⟩, .bool s4, .string ⟨⟨l4⟩⟩, .bool t1, .string ⟨⟨m1⟩⟩, .bool t2, .string ⟨⟨m2⟩⟩, .bool t3, .string ⟨⟨m3⟩⟩, .bool t4, .string ⟨⟨m4⟩⟩, .bool u1, .string ⟨⟨o1⟩⟩, .bool u2, .string ⟨⟨o2⟩⟩, .bool u3, .string ⟨⟨o3⟩⟩, .bool u4, .string ⟨⟨o4⟩⟩, .bool y1, .string ⟨⟨z1⟩⟩, .bool y2, .string ⟨⟨z2⟩⟩, .bool y3, .string ⟨⟨z3⟩⟩, .bool y4, .string ⟨⟨z4⟩⟩] → spLGreat [mkSl N' 0 8 4 0 4] ((N', some ⟨e, 32, true, b⟩) :: h') = some (.int .i64 0) := by
      intro e h' b N' eb
      subst eb
      have em : mkSl N' 0 8 4 0 4 = .slice (some ⟨N', 0, none⟩) 4 4 := by unfold mkSl; rw [if_neg (by decide)]
      rw [em]
      unfold spLGreat
      simp only [hget, if_true, ints, Option.map_some, Nat.reduceMul, List.length_cons, List.length_nil, List.take_succ_cons, List.take_zero]
      rw [if_pos (by decide)]
      simp only [gq', Bool.false_eq_true, if_false, if_true]
    have gl' := fun e h' N' => gl e h' _ N' rfl
    exact gl'
  simp only [List.all_cons, List.all_nil, Bool.and_true, Bool.and_eq_true, decide_eq_true_eq] at gq'
  obtain ⟨ha1, ha2, ha3, ha4, hb1, hb2, hb3, hb4, hc1, hc2, hc3, hc4, hd1, hd2, hd3, hd4⟩ := gq'
  obtain ⟨a, na, ca, ka⟩ := r4Norm_pt (s1 := s1) (s2 := s2) (s3 := s3) (s4 := s4) ha1 ha2 ha3 ha4
  obtain ⟨b, nb, cb, kb⟩ := r4Norm_pt (s1 := t1) (s2 := t2) (s3 := t3) (s4 := t4) hb1 hb2 hb3 hb4
  obtain ⟨c, nc, cc, kc⟩ := r4Norm_pt (s1 := u1) (s2 := u2) (s3 := u3) (s4 := u4) hc1 hc2 hc3 hc4
  obtain ⟨d, nd, cd, kd⟩ := r4Norm_pt (s1 := y1) (s2 := y2) (s3 := y3) (s4 := y4) hd1 hd2 hd3 hd4
  have e := Pt.over_share (a := a) (b := b) (c := c) (d := d) (fun p q hp hq h => by
    have m : ∀ r : Pt, r = a ∨ r = b ∨ r = c ∨ r = d → r.can := by
      rintro r (rfl | rfl | rfl | rfl) <;> assumption
    exact Pt.can_eq (m p hp) (m q hq) h)
  have fa := xOver_pt ka kb kc kd
  have fb := r6Share_pt ka kb kc kd
  rw [← e] at fb
  generalize Pt.over a b c d = O at *
  clear e ca cb cc cd ka kb kc kd
  obtain ⟨aa1, aa2, aa3, aa4, aa5, aa6, aa7, aa8⟩ := a
  obtain ⟨bb1, bb2, bb3, bb4, bb5, bb6, bb7, bb8⟩ := b
  obtain ⟨cc1, cc2, cc3, cc4, cc5, cc6, cc7, cc8⟩ := c
  obtain ⟨dd1, dd2, dd3, dd4, dd5, dd6, dd7, dd8⟩ := d
  unfold Pt.cells at *
  rcases O with _ | ⟨⟨e1, e2, e3, e4, e5, e6, e7, e8⟩, ⟨f1, f2, f3, f4, f5, f6, f7, f8⟩⟩
  · simp only [ovE] at fa fb
    simp only [↓R0, R1, simprocAttr, -Int.reduceAbs, rdS, gl', na, nb, nc, nd, fa, fb, spLFixed, ceq, pZ, Fin, isEnd, resL, res1, iE, rE]
    exact ⟨_, rfl, rfl, fun k hk => by simp only [ne_nb hk, if_false]⟩
  · simp only [ovE, Pt.cells] at fa fb
    simp only [↓R0, R1, simprocAttr, -Int.reduceAbs, rdS, gl', na, nb, nc, nd, fa, fb, spLFixed, ceq, Fin, isEnd, resL, res1, iE, rE]
    exact ⟨_, rfl, rfl, fun k hk => by simp only [ne_nb hk, if_false]⟩
end Go.Eng
end
section
set_option linter.unusedVariables false
set_option linter.unusedSimpArgs false
set_option linter.unusedSectionVars false
namespace Go.Eng
def kmatch : List Kd → List Value → Prop
  | [], [] => True
  | .b :: ks, .bool _ :: r => kmatch ks r
  | .i :: ks, .int _ _ :: r => kmatch ks r
  | .s :: ks, .string _ :: r => kmatch ks r
  | _, _ => False
theorem kmatch_append : ∀ {ks ks' : List Kd} {cs cs' : List Value}, kmatch ks cs → kmatch ks' cs' → kmatch (ks ++ ks') (cs ++ cs')
  | [], _, [], _, _, h => h
  | [], _, _ :: _, _, h, _ => h.elim
  | .b :: ks, ks', cs, cs', h, h' => by
    match cs, h with
    | .bool _ :: r, h => exact kmatch_append (ks := ks) h h'
  | .i :: ks, ks', cs, cs', h, h' => by
    match cs, h with
    | .int _ _ :: r, h => exact kmatch_append (ks := ks) h h'
  | .s :: ks, ks', cs, cs', h, h' => by
    match cs, h with
    | .string _ :: r, h => exact kmatch_append (ks := ks) h h'
section
variable {H : Type} {enc : TypeId × Value → H} {P : Program}
theorem cellsOf_sz {t : TypeId} {n : Nat} (h : szOf P t = some n) : P.cellsOf t = n := by
  unfold Program.cellsOf; unfold szOf at h; rw [h]; rfl
def Plain (P : Program) (enc : TypeId × Value → H) (fuel : Nat) (t : TypeId) (ks : List Kd) : Prop :=
  ∀ (w : World) (base : Nat) (spare : Nat → Bool) (held : Bool) (cs : List Value) (x : DataW H × List MemPlace), DataW.trod enc P w base spare held fuel t cs = some x →
    kmatch ks cs ∧ x.2 = [] ∧ ∀ w' base' spare' held', DataW.trod enc P w' base' spare' held' fuel t cs = some x
theorem plain_fields {fuel : Nat} {ty : TypeId → Option (List Kd)} (hty : ∀ t ks n, ty t = some ks → szOf P t = some n → ks.length = n → Plain P enc fuel t ks) :
    ∀ (fs : List Field) (off : Nat) (ks : List Kd), flatFs ty P fs off = some ks → ∀ (w : World) (base : Nat) (spare : Nat → Bool) (held : Bool) (cs : List Value) (xs : List (DataW H × List MemPlace)),
      (fs.mapM fun f => DataW.trod enc P w base spare held fuel f.type ((cs.drop f.offset).take (P.cellsOf f.type))) = some xs → cs.length = off + ks.length →
      kmatch ks (cs.drop off) ∧ xs.flatMap (·.2) = [] ∧ ∀ w' base' spare' held', (fs.mapM fun f => DataW.trod enc P w' base' spare' held' fuel f.type ((cs.drop f.offset).take (P.cellsOf f.type))) = some xs
  | [], off, ks, h, w, base, spare, held, cs, xs, hm, hl => by
    simp only [flatFs, Option.some.injEq] at h
    subst h
    simp only [List.mapM_nil, Option.pure_def, Option.some.injEq] at hm
    subst hm
    simp only [List.length_nil, Nat.add_zero] at hl
    rw [List.drop_eq_nil_of_le (by omega)]
    exact ⟨trivial, rfl, fun _ _ _ _ => rfl⟩
  | f :: r, off, ks, h, w, base, spare, held, cs, xs, hm, hl => by
    simp only [flatFs] at h
    split at h
    case isFalse => cases h
    rename_i hc
    obtain ⟨_, hoff⟩ := hc
    split at h
    case h_2 => cases h
    rename_i ks0 n hk hn
    split at h
    case isFalse => cases h
    rename_i hlen
    rw [Option.map_eq_some_iff] at h
    obtain ⟨ks1, h1, rfl⟩ := h
    have hsz := cellsOf_sz hn
    simp only [List.mapM_cons, Option.bind_eq_bind, Option.bind_eq_some_iff, Option.pure_def, Option.some.injEq] at hm
    obtain ⟨y, hy, ys, hys, rfl⟩ := hm
    have hp := hty f.type ks0 n hk hn hlen w base spare held _ y hy
    obtain ⟨p1, p2, p3⟩ := hp
    simp only [List.length_append] at hl
    obtain ⟨q1, q2, q3⟩ := plain_fields hty r (off + n) ks1 h1 w base spare held cs ys hys (by omega)
    rw [hoff, hsz] at p1
    refine ⟨?_, ?_, ?_⟩
    · have e : cs.drop off = (cs.drop off).take n ++ cs.drop (off + n) := by
        rw [← List.drop_drop, List.take_append_drop]
      rw [e]
      exact kmatch_append p1 q1
    · simp only [List.flatMap_cons, p2, q2, List.nil_append]
    · intro w' base' spare' held'
      simp only [List.mapM_cons, Option.bind_eq_bind, Option.bind_eq_some_iff, Option.pure_def, Option.some.injEq]
      exact ⟨y, p3 w' base' spare' held', ys, q3 w' base' spare' held', rfl⟩
theorem plain_elems {fuel : Nat} {e : TypeId} {ks : List Kd} {n : Nat} (hn : szOf P e = some n) (hl : ks.length = n) (he : Plain P enc fuel e ks) :
    ∀ (m i0 : Nat) (w : World) (base : Nat) (spare : Nat → Bool) (held : Bool) (cs : List Value) (xs : List (DataW H × List MemPlace)),
      ((List.range' i0 m).mapM fun i => DataW.trod enc P w base spare held fuel e ((cs.drop (i * P.cellsOf e)).take (P.cellsOf e))) = some xs → cs.length = (i0 + m) * n →
      kmatch (List.replicate m ks).flatten (cs.drop (i0 * n)) ∧ xs.flatMap (·.2) = [] ∧ ∀ w' base' spare' held', ((List.range' i0 m).mapM fun i => DataW.trod enc P w' base' spare' held' fuel e ((cs.drop (i * P.cellsOf e)).take (P.cellsOf e))) = some xs
  | 0, i0, w, base, spare, held, cs, xs, hm, hlen => by
    simp only [List.range'_zero, List.mapM_nil, Option.pure_def, Option.some.injEq] at hm
    subst hm
    simp only [Nat.add_zero] at hlen
    rw [List.drop_eq_nil_of_le (by omega)]
    exact ⟨trivial, rfl, fun _ _ _ _ => by simp⟩
  | m + 1, i0, w, base, spare, held, cs, xs, hm, hlen => by
    have hsz := cellsOf_sz hn
    simp only [List.range'_succ, List.mapM_cons, Option.bind_eq_bind, Option.bind_eq_some_iff, Option.pure_def, Option.some.injEq] at hm
    obtain ⟨y, hy, ys, hys, rfl⟩ := hm
    obtain ⟨p1, p2, p3⟩ := he w base spare held _ y hy
    obtain ⟨q1, q2, q3⟩ := plain_elems hn hl he m (i0 + 1) w base spare held cs ys hys (by rw [hlen]; congr 1; omega)
    rw [hsz] at p1
    refine ⟨?_, ?_, ?_⟩
    · rw [List.replicate_succ, List.flatten_cons]
      have e : cs.drop (i0 * n) = (cs.drop (i0 * n)).take n ++ cs.drop ((i0 + 1) * n) := by
        rw [Nat.succ_mul, ← List.drop_drop, List.take_append_drop]
      rw [e]
      exact kmatch_append p1 q1
    · simp only [List.flatMap_cons, p2, q2, List.nil_append]
    · intro w' base' spare' held'
      simp only [List.range'_succ, List.mapM_cons, Option.bind_eq_bind, Option.bind_eq_some_iff, Option.pure_def, Option.some.injEq]
      exact ⟨y, p3 w' base' spare' held', ys, q3 w' base' spare' held', rfl⟩
theorem plain_ty : ∀ (fuel d : Nat) (t : TypeId) (ks : List Kd) (n : Nat), flatTy P d t = some ks → szOf P t = some n → ks.length = n → Plain P enc fuel t ks
  | 0, d, t, ks, n, h, hn, hl => by intro w base spare held cs x hx; simp [DataW.trod] at hx
  | fuel + 1, 0, t, ks, n, h, hn, hl => by simp [flatTy] at h
  | fuel + 1, d + 1, t, ks, n, h, hn, hl => by
    intro w base spare held cs x hx
    unfold flatTy at h
    unfold DataW.trod at hx ⊢
    split at h
    · rename_i hu
      cases h
      rw [hu] at hx ⊢
      match cs, hx with
      | [.bool b], hx => simp only [Option.some.injEq] at hx; subst hx; exact ⟨trivial, rfl, fun _ _ _ _ => rfl⟩
    · rename_i k hu
      cases h
      rw [hu] at hx ⊢
      match cs, hx with
      | [.int k' m], hx =>
        simp only at hx
        split at hx
        · rename_i hc
          simp only [Option.some.injEq] at hx; subst hx
          exact ⟨trivial, rfl, fun _ _ _ _ => by simp only; rw [if_pos hc]⟩
        · cases hx
    · rename_i hu
      cases h
      rw [hu] at hx ⊢
      match cs, hx with
      | [.string s], hx =>
        simp only at hx
        split at hx
        · rename_i hc
          simp only [Option.some.injEq] at hx; subst hx
          exact ⟨trivial, rfl, fun _ _ _ _ => by simp only; rw [if_pos hc]⟩
        · cases hx
    · rename_i fs hu
      split at h
      · cases h
      rw [hu] at hx ⊢
      simp only at hx ⊢
      split at hx
      case isFalse => cases hx
      rename_i hlen
      rw [Option.map_eq_some_iff] at hx
      obtain ⟨xs, hxs, rfl⟩ := hx
      rw [cellsOf_sz hn, ← hl] at hlen
      obtain ⟨p1, p2, p3⟩ := plain_fields (fuel := fuel) (fun t ks n h1 h2 h3 => plain_ty fuel d t ks n h1 h2 h3) fs.toList 0 ks h w base spare held cs xs hxs (by omega)
      refine ⟨by simpa using p1, p2, fun w' base' spare' held' => ?_⟩
      rw [if_pos (by rw [cellsOf_sz hn, ← hl, hlen]), p3]; rfl
    · rename_i len e hu
      split at h
      case h_2 => cases h
      rename_i ks0 m hk hm
      split at h
      case isFalse => cases h
      rename_i hlm
      simp only [Option.some.injEq] at h
      subst h
      rw [hu] at hx ⊢
      simp only at hx ⊢
      split at hx
      case isFalse => cases hx
      rename_i hlen
      rw [Option.map_eq_some_iff] at hx
      obtain ⟨xs, hxs, rfl⟩ := hx
      rw [cellsOf_sz hn, ← hl] at hlen
      rw [List.range_eq_range'] at hxs
      have hfl : ((List.replicate len ks0).flatten).length = len * m := by rw [List.length_flatten]; simp [hlm]
      obtain ⟨p1, p2, p3⟩ := plain_elems hm hlm (plain_ty fuel d e ks0 m hk hm hlm) len 0 w base spare held cs xs hxs (by rw [hlen, hfl, Nat.zero_add])
      refine ⟨by simpa using p1, p2, fun w' base' spare' held' => ?_⟩
      rw [if_pos (by rw [cellsOf_sz hn, ← hl, hlen]), List.range_eq_range', p3]; rfl
    · cases h
theorem trod_plain {w : World} {t : TypeId} {v : Value} {d : DataW H} {ps : List MemPlace} {ks : List Kd} {n : Nat} {base : Nat} {spare : Nat → Bool} {held : Bool}
    (hf : flatTy P 20 t = some ks) (hs : szOf P t = some n) (hl : ks.length = n) (h : DataW.Trod enc P w base spare held t v d ps) :
    kmatch ks v.cells.toList ∧ ps = [] ∧ ∀ w' base' spare' held', DataW.Trod enc P w' base' spare' held' t v d ps := by
  obtain ⟨fuel, h⟩ := h
  obtain ⟨p1, p2, p3⟩ := plain_ty fuel 20 t ks n hf hs hl w base spare held _ _ h
  exact ⟨p1, p2, fun w' base' spare' held' => ⟨fuel, p3 w' base' spare' held'⟩⟩
end
theorem agg_of {v : Value} {cs : List Value} (h : v.cells.toList = cs) (h2 : 2 ≤ cs.length) : v = .agg ⟨cs⟩ := by
  rw [vcells_eq] at h
  cases v <;> simp [vcells] at h <;> subst h <;> first | rfl | simp at h2
theorem flat_calls {P : Program} {f : Nat} {G : List Value → Option Value} (hS : SpecOK P f (flat G)) {args : List Value} {v : Value} (hG : G args = some v) (ha : ∀ β, VRs β args args) (hv : isBase v = true) (w : World) :
    Calls P f ⟨args⟩ w fun e w' => e = .returned v ∧ w.keptBut w' (fun _ => False) := by
  have h := hS.ok args [] 0 (v, [], 0) (by simp [flat, hG]) (fun _ => none) w args (ha _)
    ⟨fun k b e => by simp [hget] at e, fun k k' L L' e => by simp [hget] at e, fun k L e => by cases e⟩ (fun _ _ _ => rfl) ⟨0, fun k e => absurd rfl e⟩
  refine h.mono ?_
  rintro e w' ⟨β', v', he, hvr, hrel, hfr, _⟩
  refine ⟨?_, hfr.os, hfr.out, fun i hi => ?_⟩
  · rw [he, hvr.base_left hv]
  · rw [hfr.keep i hi (fun k L hk => by simp [hget] at hk)]
    cases w.heap[i]? with
    | none => rfl
    | some o =>
      cases o with
      | cells c t fr => exact ⟨rfl, rfl, rfl, fun _ _ => rfl⟩
      | map es cl => exact .inr ⟨rfl, rfl⟩
      | _ => rfl
end Go.Eng
end
