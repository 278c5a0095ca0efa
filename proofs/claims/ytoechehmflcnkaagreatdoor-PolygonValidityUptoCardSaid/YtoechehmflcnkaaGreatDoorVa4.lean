/-
  A part of the proof: the machine, the contracts of the functions and the plain laws, merged from smaller texts.
-/
import Derived.Test.YtoechehmflcnkaaGreatDoorVa3
section
set_option linter.unusedVariables false
set_option linter.unusedSimpArgs false
set_option linter.unusedSectionVars false
set_option maxRecDepth 20000
namespace Go.Eng
open Go Go.Proofs Go.IntWalk
def spR4Make : List Value → Option Value
  | [.agg ⟨[.bool s1, .string ⟨⟨n1⟩⟩, .string ⟨⟨d1⟩⟩, .bool s2, .string ⟨⟨n2⟩⟩, .string ⟨⟨d2⟩⟩, .bool s3, .string ⟨⟨n3⟩⟩, .string ⟨⟨d3⟩⟩]⟩] =>
    if n1.length ≤ 2147483648 ∧ d1.length ≤ 2147483648 ∧ n2.length ≤ 2147483648 ∧ d2.length ≤ 2147483648 ∧ n3.length ≤ 2147483648 ∧ d3.length ≤ 2147483648 then some (.agg ⟨mkE (rv s1 n1 d1) (rv s2 n2 d2) (rv s3 n3 d3)⟩) else none
  | _ => none
def c68 : ICode :=
  (.seq (.reg [qq 1 (.box 51 9 (.t 0)), qq 2 (.alloc 41 8 [(.bool false), e0, (.bool false), e0, (.bool false), e0, (.bool false), e0])]) (.seq (.reg [qq 11 (.ixarr 3 3 (.t 1) (ci 0)), qq 12 (.load true 3 (.t 11)), qq 13 (.call 106 [(.t 12)]), qq 10 (.mv (.t 13)), qq 14 (.ext (.t 10) 0), qq 15 (.ext (.t 10) 1), qq 3 (.alloc 23 2 [(.bool false), e0]), qq 4 (.alloc 23 2 [(.bool false), e0]), qn (.store 2 (.t 3) (.t 14)), qn (.store 2 (.t 4) (.t 15))]) (.seq (.reg [qq 17 (.ixarr 3 3 (.t 1) (ci 1)), qq 18 (.load true 3 (.t 17)), qq 19 (.call 106 [(.t 18)]), qq 16 (.mv (.t 19)), qq 20 (.ext (.t 16) 0), qq 21 (.ext (.t 16) 1), qq 5 (.alloc 23 2 [(.bool false), e0]), qq 6 (.alloc 23 2 [(.bool false), e0]), qn (.store 2 (.t 5) (.t 20)), qn (.store 2 (.t 6) (.t 21))]) (.seq (.reg [qq 23 (.ixarr 3 3 (.t 1) (ci 2)), qq 24 (.load true 3 (.t 23)), qq 25 (.call 106 [(.t 24)]), qq 22 (.mv (.t 25)), qq 26 (.ext (.t 22) 0), qq 27 (.ext (.t 22) 1), qq 7 (.alloc 23 2 [(.bool false), e0]), qq 8 (.alloc 23 2 [(.bool false), e0]), qn (.store 2 (.t 7) (.t 26)), qn (.store 2 (.t 8) (.t 27))]) (.seq (.reg [qq 28 (.load true 2 (.t 4)), qq 29 (.load true 2 (.t 6)), qq 30 (.call 83 [(.t 28), (.t 29)]), qq 9 (.alloc 23 2 [(.bool false), e0]), qn (.store 2 (.t 9) (.t 30))]) (.seq (.dreg [qu 31 (.load true 2 (.t 3)), qu 32 (.load true 2 (.t 6)), qu 33 (.load true 2 (.t 8)), qu 34 (.call 83 [(.t 32), (.t 33)]), qu 35 (.call 83 [(.t 31), (.t 34)]), qv 36 [3, 4] (.load true 2 (.t 5)), qv 37 [3, 4] (.load true 2 (.t 4)), qv 38 [3, 4] (.load true 2 (.t 8)), qu 39 (.call 83 [(.t 37), (.t 38)]), qu 40 (.call 83 [(.t 36), (.t 39)]), qv 41 [3, 4, 8, 9] (.load true 2 (.t 7)), qv 42 [3, 4, 8, 9] (.load true 2 (.t 9)), qu 43 (.call 83 [(.t 41), (.t 42)]), qv 44 [3, 4, 8, 9, 12] (.load true 2 (.t 9)), qv 45 [3, 4, 8, 9, 12] (.load true 2 (.t 8)), qu 46 (.call 83 [(.t 44), (.t 45)]), qu 47 (.build [(.bool false), e0, (.bool false), e0, (.bool false), e0, (.bool false), e0] [(0, 2, (.t 35)), (2, 2, (.t 40)), (4, 2, (.t 43)), (6, 2, (.t 46))]), qu 48 (.call 39 [(.t 47)]), qm (.store 8 (.t 2) (.t 48))]) .ret))))))
theorem tr68 : trFun Tryz.prog 68 = some ⟨49, [.cell 2 true 8], c68⟩ := by kernel_rfl
set_option maxHeartbeats 4000000 in
theorem ok_r4Make : SpecOK Tryz.prog 68 (flat spR4Make) := by
  refine flat_run (env_cons ok_r3Parts (env_cons ok_r2Mul (env_cons ok_r4Norm (env_nil _)))) mixed tr68 ?_
  intro args v h N hG
  unfold spR4Make at hG
  split at hG
  case h_2 => cases hG
  rename_i s1 n1 d1 s2 n2 d2 s3 n3 d3
  split at hG
  case isFalse => cases hG
  rename_i hl
  obtain ⟨hn1, hd1, hn2, hd2, hn3, hd3⟩ := hl
  cases hG
  refine ⟨rfl, by simp, ?_⟩
  have b1 := RB.raw (s := s1) hn1 hd1
  have mn1 : n1.length ≤ 34359738368 := by omega
  have md1 : d1.length ≤ 34359738368 := by omega
  have b2 := RB.raw (s := s2) hn2 hd2
  have mn2 : n2.length ≤ 34359738368 := by omega
  have md2 : d2.length ≤ 34359738368 := by omega
  have b3 := RB.raw (s := s3) hn3 hd3
  have mn3 : n3.length ≤ 34359738368 := by omega
  have md3 : d3.length ≤ 34359738368 := by omega
  obtain ⟨q1, e1⟩ : ∃ q, rv s1 n1 d1 = q := ⟨_, rfl⟩
  rw [e1] at b1
  rw [e1]
  have zn1 := b1.1
  have zd1 : (bl (q1.den : Int).natAbs).length ≤ 2147483649 := b1.2
  have sd1 : sv false (bl q1.den) = (q1.den : Int) := by rw [sv_false, nl_bl]
  have nd1 : ((q1.den : Int) < 0) = False := eq_false (by omega)
  obtain ⟨D1, eD1⟩ : ∃ z : Int, (q1.den : Int) = z := ⟨_, rfl⟩
  obtain ⟨q2, e2⟩ : ∃ q, rv s2 n2 d2 = q := ⟨_, rfl⟩
  rw [e2] at b2
  rw [e2]
  have zn2 := b2.1
  have zd2 : (bl (q2.den : Int).natAbs).length ≤ 2147483649 := b2.2
  have sd2 : sv false (bl q2.den) = (q2.den : Int) := by rw [sv_false, nl_bl]
  have nd2 : ((q2.den : Int) < 0) = False := eq_false (by omega)
  obtain ⟨D2, eD2⟩ : ∃ z : Int, (q2.den : Int) = z := ⟨_, rfl⟩
  obtain ⟨q3, e3⟩ : ∃ q, rv s3 n3 d3 = q := ⟨_, rfl⟩
  rw [e3] at b3
  rw [e3]
  have zn3 := b3.1
  have zd3 : (bl (q3.den : Int).natAbs).length ≤ 2147483649 := b3.2
  have sd3 : sv false (bl q3.den) = (q3.den : Int) := by rw [sv_false, nl_bl]
  have nd3 : ((q3.den : Int) < 0) = False := eq_false (by omega)
  obtain ⟨D3, eD3⟩ : ∃ z : Int, (q3.den : Int) = z := ⟨_, rfl⟩
  have y12 := Lmul (a := (q1.den : Int)) (b := (q2.den : Int)) zd1 zd2
  have s12 : (bl (q1.den : Int).natAbs).length + (bl (q2.den : Int).natAbs).length ≤ 274877906944 := by omega
  have y23 := Lmul (a := (q2.den : Int)) (b := (q3.den : Int)) zd2 zd3
  have s23 : (bl (q2.den : Int).natAbs).length + (bl (q3.den : Int).natAbs).length ≤ 274877906944 := by omega
  have y13 := Lmul (a := (q1.den : Int)) (b := (q3.den : Int)) zd1 zd3
  have s13 : (bl (q1.den : Int).natAbs).length + (bl (q3.den : Int).natAbs).length ≤ 274877906944 := by omega
  have x0 := Lmul zn1 y23
  have t0 : (bl q1.num.natAbs).length + (bl ((q2.den : Int) * (q3.den : Int)).natAbs).length ≤ 274877906944 := by omega
  have u0 : (bl (q1.num * ((q2.den : Int) * (q3.den : Int))).natAbs).length ≤ 34359738368 := by omega
  have x1 := Lmul zn2 y13
  have t1 : (bl q2.num.natAbs).length + (bl ((q1.den : Int) * (q3.den : Int)).natAbs).length ≤ 274877906944 := by omega
  have u1 : (bl (q2.num * ((q1.den : Int) * (q3.den : Int))).natAbs).length ≤ 34359738368 := by omega
  have x2 := Lmul zn3 y12
  have t2 : (bl q3.num.natAbs).length + (bl ((q1.den : Int) * (q2.den : Int)).natAbs).length ≤ 274877906944 := by omega
  have u2 : (bl (q3.num * ((q1.den : Int) * (q2.den : Int))).natAbs).length ≤ 34359738368 := by omega
  have x3 := Lmul y12 zd3
  have t3 : (bl ((q1.den : Int) * (q2.den : Int)).natAbs).length + (bl (q3.den : Int).natAbs).length ≤ 274877906944 := by omega
  have u3 : (bl ((q1.den : Int) * (q2.den : Int) * (q3.den : Int)).natAbs).length ≤ 34359738368 := by omega
  simp only [c68, G0, Nat.reduceAdd]
  simp only [↓R0, R1, simprocAttr, -Int.reduceAbs, spR3Parts, spI2Mul, spR4Norm, mkE, pE, mn1, md1, mn2, md2, mn3, md3, e1, e2, e3, s12, s23, s13, t0, u0, t1, u1, t2, u2, t3, u3, Fin, isEnd, resL, res1, iE, rE]
  exact ⟨_, rfl, rfl, fun k hk => by simp only [ne_nb hk, if_false]⟩
end Go.Eng
end
section
set_option linter.unusedVariables false
set_option linter.unusedSimpArgs false
set_option linter.unusedSectionVars false
set_option maxRecDepth 20000
namespace Go.Eng
open Go Go.Proofs Go.IntWalk
end Go.Eng
end
section
set_option linter.unusedVariables false
set_option linter.unusedSimpArgs false
set_option linter.unusedSectionVars false
set_option maxRecDepth 20000
namespace Go.Eng
open Go Go.Proofs Go.IntWalk
def spR4Coords : List Value → Option Value
  | [.agg ⟨[.bool s1, .string ⟨⟨l1⟩⟩, .bool s2, .string ⟨⟨l2⟩⟩, .bool s3, .string ⟨⟨l3⟩⟩, .bool s4, .string ⟨⟨l4⟩⟩]⟩] =>
    if l1.length ≤ 34359738368 ∧ l2.length ≤ 34359738368 ∧ l3.length ≤ 34359738368 ∧ l4.length ≤ 34359738368 then
      some (.agg ⟨r3E (Rat.divInt (sv s1 l1) (pW (sv s4 l4))) (Rat.divInt (sv s2 l2) (pW (sv s4 l4))) (Rat.divInt (sv s3 l3) (pW (sv s4 l4)))⟩) else none
  | _ => none
def c65 : ICode :=
  (.seq (.reg [qq 1 (.box 41 8 (.t 0)), qq 2 (.alloc 51 9 [(.bool false), e0, e0, (.bool false), e0, e0, (.bool false), e0, e0])]) (.seq (.reg [qq 10 (.load true 8 (.t 1)), qq 11 (.call 39 [(.t 10)]), qq 3 (.alloc 41 8 [(.bool false), e0, (.bool false), e0, (.bool false), e0, (.bool false), e0]), qn (.store 8 (.t 3) (.t 11))]) (.seq (.reg [qq 13 (.faddr 0 (.t 3)), qq 14 (.load true 2 (.t 13)), qq 15 (.faddr 6 (.t 3)), qq 16 (.load true 2 (.t 15)), qq 17 (.call 70 [(.t 14), (.t 16)]), qq 12 (.mv (.t 17)), qq 18 (.ext (.t 12) 0), qq 19 (.ext (.t 12) 1), qq 4 (.alloc 49 3 [(.bool false), e0, e0]), qn (.store 3 (.t 4) (.t 18)), qq 5 (.mv (.t 19))]) (.seq (.reg [qq 21 (.faddr 2 (.t 3)), qq 22 (.load true 2 (.t 21)), qq 23 (.faddr 6 (.t 3)), qq 24 (.load true 2 (.t 23)), qq 25 (.call 70 [(.t 22), (.t 24)]), qq 20 (.mv (.t 25)), qq 26 (.ext (.t 20) 0), qq 27 (.ext (.t 20) 1), qq 6 (.alloc 49 3 [(.bool false), e0, e0]), qn (.store 3 (.t 6) (.t 26)), qq 7 (.mv (.t 27))]) (.seq (.reg [qq 29 (.faddr 4 (.t 3)), qq 30 (.load true 2 (.t 29)), qq 31 (.faddr 6 (.t 3)), qq 32 (.load true 2 (.t 31)), qq 33 (.call 70 [(.t 30), (.t 32)]), qq 28 (.mv (.t 33)), qq 34 (.ext (.t 28) 0), qq 35 (.ext (.t 28) 1), qq 8 (.alloc 49 3 [(.bool false), e0, e0]), qn (.store 3 (.t 8) (.t 34)), qq 9 (.mv (.t 35))]) (.seq (.reg [qq 36 (.load true 3 (.t 4)), qq 37 (.load true 3 (.t 6)), qq 38 (.load true 3 (.t 8)), qq 39 (.build [(.bool false), e0, e0, (.bool false), e0, e0, (.bool false), e0, e0] [(0, 3, (.t 36)), (3, 3, (.t 37)), (6, 3, (.t 38))]), qn (.store 9 (.t 2) (.t 39))]) .ret))))))
theorem tr65 : trFun Tryz.prog 65 = some ⟨40, [.cell 2 true 9], c65⟩ := by kernel_rfl
theorem ok_r4Coords : SpecOK Tryz.prog 65 (flat spR4Coords) := by
  refine flat_run (env_cons ok_r4Norm (env_cons ok_r3Make (env_nil _))) mixed tr65 ?_
  intro args v h N hG
  unfold spR4Coords at hG
  split at hG
  case h_2 => cases hG
  rename_i s1 l1 s2 l2 s3 l3 s4 l4
  split at hG
  case isFalse => cases hG
  rename_i hl
  obtain ⟨h1, h2, h3, h4⟩ := hl
  cases hG
  refine ⟨rfl, by simp, ?_⟩
  have n1 := lle (k := 68719476736) (len_sv (s := s1) h1) (by omega)
  have n2 := lle (k := 68719476736) (len_sv (s := s2) h2) (by omega)
  have n3 := lle (k := 68719476736) (len_sv (s := s3) h3) (by omega)
  have n4 := pW_len (lle (k := 68719476736) (len_sv (s := s4) h4) (by omega)) (by omega)
  generalize ex : sv s1 l1 = x at *
  generalize ey : sv s2 l2 = y at *
  generalize ez : sv s3 l3 = z at *
  generalize ew : sv s4 l4 = w at *
  have q1 := pQ_len (x := x) (y := y) (z := z) (w := w) n1
  have q2 := pQ_len (x := x) (y := y) (z := z) (w := w) n2
  have q3 := pQ_len (x := x) (y := y) (z := z) (w := w) n3
  have q4 := pQ_len (x := x) (y := y) (z := z) (w := w) n4
  have d1 := pQ_div (pG_dvd_x x y z w)
  have d2 := pQ_div (pG_dvd_y x y z w)
  have d3 := pQ_div (pG_dvd_z x y z w)
  have ne : ¬ ((pQ x y z w (pW w)).natAbs = 0) := by have := pQ_pos x y z w; omega
  simp only [c65, G0, Nat.reduceAdd]
  simp only [↓R0, R1, simprocAttr, -Int.reduceAbs, spR4Norm, h1, h2, h3, h4, ex, ey, ez, ew, pE, iE]
  simp only [↓R0, R1, simprocAttr, -Int.reduceAbs, spR3Make, q1, q2, q3, q4, nl_bl, ne, d1, d2, d3, r3E, Fin, isEnd, resL, res1, iE, rE]
  exact ⟨_, rfl, rfl, fun k hk => by simp only [ne_nb hk, if_false]⟩
end Go.Eng
end
section
set_option linter.unusedVariables false
set_option linter.unusedSimpArgs false
set_option linter.unusedSectionVars false
namespace Go.Eng
theorem sign_pos_mul {k x : Int} (h : 0 < k) : (x * k).sign = x.sign := by
  rw [Int.sign_mul, Int.sign_eq_one_of_pos h, Int.mul_one]
end Go.Eng
end
section
set_option linter.unusedVariables false
set_option linter.unusedSimpArgs false
set_option linter.unusedSectionVars false
set_option maxRecDepth 20000
namespace Go.Eng
open Go Go.Proofs Go.IntWalk
theorem rv_zero : rv false [] [] = 0 := by unfold rv; rw [show sv false [] = 0 from rfl]; exact Rat.zero_divInt _
def spR5Minor : List Value → Option Value
  | [.agg ⟨[.bool s1, .string ⟨⟨n1⟩⟩, .string ⟨⟨d1⟩⟩, .bool s2, .string ⟨⟨n2⟩⟩, .string ⟨⟨d2⟩⟩, .bool s3, .string ⟨⟨n3⟩⟩, .string ⟨⟨d3⟩⟩]⟩, .agg ⟨[.bool s4, .string ⟨⟨n4⟩⟩, .string ⟨⟨d4⟩⟩, .bool s5, .string ⟨⟨n5⟩⟩, .string ⟨⟨d5⟩⟩, .bool s6, .string ⟨⟨n6⟩⟩, .string ⟨⟨d6⟩⟩]⟩, .int .i64 i, .int .i64 k] =>
    if n1.length ≤ 1073741824 ∧ d1.length ≤ 1073741824 ∧ n2.length ≤ 1073741824 ∧ d2.length ≤ 1073741824 ∧ n3.length ≤ 1073741824 ∧ d3.length ≤ 1073741824 ∧ n4.length ≤ 1073741824 ∧ d4.length ≤ 1073741824 ∧ n5.length ≤ 1073741824 ∧ d5.length ≤ 1073741824 ∧ n6.length ≤ 1073741824 ∧ d6.length ≤ 1073741824 then (if i = 1 ∧ k = 2 then some (.agg ⟨rE (rv s2 n2 d2 * rv s6 n6 d6 - rv s3 n3 d3 * rv s5 n5 d5)⟩) else if i = 2 ∧ k = 0 then some (.agg ⟨rE (rv s3 n3 d3 * rv s4 n4 d4 - rv s1 n1 d1 * rv s6 n6 d6)⟩) else if i = 0 ∧ k = 1 then some (.agg ⟨rE (rv s1 n1 d1 * rv s5 n5 d5 - rv s2 n2 d2 * rv s4 n4 d4)⟩) else none) else none
  | _ => none
def c102 : ICode :=
  (.seq (.reg [qq 4 (.box 51 9 (.t 0)), qq 5 (.box 51 9 (.t 1)), qq 8 (.alloc 49 3 [(.bool false), e0, e0])]) (.seq (.dreg [qu 9 (.mv (.t 2)), qu 10 (.ixarr 3 3 (.t 4) (.t 9)), qu 11 (.load true 3 (.t 10)), qu 12 (.mv (.t 3)), qu 13 (.ixarr 3 3 (.t 5) (.t 12)), qu 14 (.load true 3 (.t 13)), qu 15 (.call 66 [(.t 11), (.t 14)]), qu 16 (.mv (.t 3)), qu 17 (.ixarr 3 3 (.t 4) (.t 16)), qv 18 [6] (.load true 3 (.t 17)), qu 19 (.mv (.t 2)), qu 20 (.ixarr 3 3 (.t 5) (.t 19)), qv 21 [6] (.load true 3 (.t 20)), qu 22 (.call 66 [(.t 18), (.t 21)]), qu 23 (.call 67 [(.t 15), (.t 22)]), qm (.store 3 (.t 8) (.t 23))]) .ret))
theorem tr102 : trFun Tryz.prog 102 = some ⟨24, [.cell 8 true 3], c102⟩ := by kernel_rfl
set_option maxHeartbeats 4000000 in
theorem ok_r5Minor : SpecOK Tryz.prog 102 (flat spR5Minor) := by
  refine flat_run (env_cons ok_r3Mul (env_cons ok_r3Sub (env_nil _))) mixed tr102 ?_
  intro args v h N hG
  unfold spR5Minor at hG
  split at hG
  case h_2 => cases hG
  rename_i s1 n1 d1 s2 n2 d2 s3 n3 d3 s4 n4 d4 s5 n5 d5 s6 n6 d6 i k
  split at hG
  case isFalse => cases hG
  rename_i hl
  obtain ⟨hn1, hd1, hn2, hd2, hn3, hd3, hn4, hd4, hn5, hd5, hn6, hd6⟩ := hl
  have b1 := RB.raw (s := s1) hn1 hd1
  have mn1 : n1.length ≤ 8589934592 := by omega
  have md1 : d1.length ≤ 8589934592 := by omega
  have b2 := RB.raw (s := s2) hn2 hd2
  have mn2 : n2.length ≤ 8589934592 := by omega
  have md2 : d2.length ≤ 8589934592 := by omega
  have b3 := RB.raw (s := s3) hn3 hd3
  have mn3 : n3.length ≤ 8589934592 := by omega
  have md3 : d3.length ≤ 8589934592 := by omega
  have b4 := RB.raw (s := s4) hn4 hd4
  have mn4 : n4.length ≤ 8589934592 := by omega
  have md4 : d4.length ≤ 8589934592 := by omega
  have b5 := RB.raw (s := s5) hn5 hd5
  have mn5 : n5.length ≤ 8589934592 := by omega
  have md5 : d5.length ≤ 8589934592 := by omega
  have b6 := RB.raw (s := s6) hn6 hd6
  have mn6 : n6.length ≤ 8589934592 := by omega
  have md6 : d6.length ≤ 8589934592 := by omega
  by_cases h12 : i = 1 ∧ k = 2
  · rw [if_pos h12] at hG
    obtain ⟨rfl, rfl⟩ := h12
    cases hG
    refine ⟨rfl, by simp, ?_⟩
    have p0 := RB.mul (k := 2147483650) b2 b6 (by omega)
    have pn0 := p0.num (k := 8589934592) (by omega)
    have pd0 := p0.den (k := 8589934592) (by omega)
    have pe0 := p0.den' (k := 8589934592) (by omega)
    have p1 := RB.mul (k := 2147483650) b3 b5 (by omega)
    have pn1 := p1.num (k := 8589934592) (by omega)
    have pd1 := p1.den (k := 8589934592) (by omega)
    have pe1 := p1.den' (k := 8589934592) (by omega)
    simp only [c102, G0, Nat.reduceAdd]
    simp only [↓R0, R1, simprocAttr, -Int.reduceAbs, spR3Mul, spR3Sub, rv_can, mn1, md1, mn2, md2, mn3, md3, mn4, md4, mn5, md5, mn6, md6, pn0, pd0, pe0, pn1, pd1, pe1, Fin, isEnd, resL, res1, iE, rE]
    exact ⟨_, rfl, rfl, fun k hk => by simp only [ne_nb hk, if_false]⟩
  rw [if_neg h12] at hG
  by_cases h20 : i = 2 ∧ k = 0
  · rw [if_pos h20] at hG
    obtain ⟨rfl, rfl⟩ := h20
    cases hG
    refine ⟨rfl, by simp, ?_⟩
    have p0 := RB.mul (k := 2147483650) b3 b4 (by omega)
    have pn0 := p0.num (k := 8589934592) (by omega)
    have pd0 := p0.den (k := 8589934592) (by omega)
    have pe0 := p0.den' (k := 8589934592) (by omega)
    have p1 := RB.mul (k := 2147483650) b1 b6 (by omega)
    have pn1 := p1.num (k := 8589934592) (by omega)
    have pd1 := p1.den (k := 8589934592) (by omega)
    have pe1 := p1.den' (k := 8589934592) (by omega)
    simp only [c102, G0, Nat.reduceAdd]
    simp only [↓R0, R1, simprocAttr, -Int.reduceAbs, spR3Mul, spR3Sub, rv_can, mn1, md1, mn2, md2, mn3, md3, mn4, md4, mn5, md5, mn6, md6, pn0, pd0, pe0, pn1, pd1, pe1, Fin, isEnd, resL, res1, iE, rE]
    exact ⟨_, rfl, rfl, fun k hk => by simp only [ne_nb hk, if_false]⟩
  rw [if_neg h20] at hG
  by_cases h01 : i = 0 ∧ k = 1
  · rw [if_pos h01] at hG
    obtain ⟨rfl, rfl⟩ := h01
    cases hG
    refine ⟨rfl, by simp, ?_⟩
    have p0 := RB.mul (k := 2147483650) b1 b5 (by omega)
    have pn0 := p0.num (k := 8589934592) (by omega)
    have pd0 := p0.den (k := 8589934592) (by omega)
    have pe0 := p0.den' (k := 8589934592) (by omega)
    have p1 := RB.mul (k := 2147483650) b2 b4 (by omega)
    have pn1 := p1.num (k := 8589934592) (by omega)
    have pd1 := p1.den (k := 8589934592) (by omega)
    have pe1 := p1.den' (k := 8589934592) (by omega)
    simp only [c102, G0, Nat.reduceAdd]
    simp only [↓R0, R1, simprocAttr, -Int.reduceAbs, spR3Mul, spR3Sub, rv_can, mn1, md1, mn2, md2, mn3, md3, mn4, md4, mn5, md5, mn6, md6, pn0, pd0, pe0, pn1, pd1, pe1, Fin, isEnd, resL, res1, iE, rE]
    exact ⟨_, rfl, rfl, fun k hk => by simp only [ne_nb hk, if_false]⟩
  rw [if_neg h01] at hG
  cases hG
def spR5Across : List Value → Option Value
  | [.agg ⟨[.bool s1, .string ⟨⟨n1⟩⟩, .string ⟨⟨d1⟩⟩, .bool s2, .string ⟨⟨n2⟩⟩, .string ⟨⟨d2⟩⟩, .bool s3, .string ⟨⟨n3⟩⟩, .string ⟨⟨d3⟩⟩]⟩, .agg ⟨[.bool s4, .string ⟨⟨n4⟩⟩, .string ⟨⟨d4⟩⟩, .bool s5, .string ⟨⟨n5⟩⟩, .string ⟨⟨d5⟩⟩, .bool s6, .string ⟨⟨n6⟩⟩, .string ⟨⟨d6⟩⟩]⟩] =>
    if n1.length ≤ 1073741824 ∧ d1.length ≤ 1073741824 ∧ n2.length ≤ 1073741824 ∧ d2.length ≤ 1073741824 ∧ n3.length ≤ 1073741824 ∧ d3.length ≤ 1073741824 ∧ n4.length ≤ 1073741824 ∧ d4.length ≤ 1073741824 ∧ n5.length ≤ 1073741824 ∧ d5.length ≤ 1073741824 ∧ n6.length ≤ 1073741824 ∧ d6.length ≤ 1073741824 then some (.agg ⟨r3E (rv s2 n2 d2 * rv s6 n6 d6 - rv s3 n3 d3 * rv s5 n5 d5) (rv s3 n3 d3 * rv s4 n4 d4 - rv s1 n1 d1 * rv s6 n6 d6) (rv s1 n1 d1 * rv s5 n5 d5 - rv s2 n2 d2 * rv s4 n4 d4)⟩) else none
  | _ => none
def c61 : ICode :=
  (.seq (.reg [qq 2 (.box 51 9 (.t 0)), qq 3 (.box 51 9 (.t 1)), qq 4 (.alloc 51 9 [(.bool false), e0, e0, (.bool false), e0, e0, (.bool false), e0, e0])]) (.seq (.dreg [qu 5 (.load true 9 (.t 2)), qu 6 (.load true 9 (.t 3)), qu 7 (.call 102 [(.t 5), (.t 6), (ci 1), (ci 2)]), qv 8 [2] (.load true 9 (.t 2)), qv 9 [2] (.load true 9 (.t 3)), qu 10 (.call 102 [(.t 8), (.t 9), (ci 2), (ci 0)]), qv 11 [2, 5] (.load true 9 (.t 2)), qv 12 [2, 5] (.load true 9 (.t 3)), qu 13 (.call 102 [(.t 11), (.t 12), (ci 0), (ci 1)]), qu 14 (.build [(.bool false), e0, e0, (.bool false), e0, e0, (.bool false), e0, e0] [(0, 3, (.t 7)), (3, 3, (.t 10)), (6, 3, (.t 13))]), qm (.store 9 (.t 4) (.t 14))]) .ret))
theorem tr61 : trFun Tryz.prog 61 = some ⟨15, [.cell 4 true 9], c61⟩ := by kernel_rfl
set_option maxHeartbeats 4000000 in
theorem ok_r5Across : SpecOK Tryz.prog 61 (flat spR5Across) := by
  refine flat_run (env_cons ok_r5Minor (env_nil _)) mixed tr61 ?_
  intro args v h N hG
  unfold spR5Across at hG
  split at hG
  case h_2 => cases hG
  rename_i s1 n1 d1 s2 n2 d2 s3 n3 d3 s4 n4 d4 s5 n5 d5 s6 n6 d6
  split at hG
  case isFalse => cases hG
  rename_i hl
  obtain ⟨hn1, hd1, hn2, hd2, hn3, hd3, hn4, hd4, hn5, hd5, hn6, hd6⟩ := hl
  cases hG
  refine ⟨rfl, by simp, ?_⟩
  simp only [c61, G0, Nat.reduceAdd]
  simp only [↓R0, R1, simprocAttr, -Int.reduceAbs, spR5Minor, r3E, hn1, hd1, hn2, hd2, hn3, hd3, hn4, hd4, hn5, hd5, hn6, hd6, Fin, isEnd, resL, res1, iE, rE]
  exact ⟨_, rfl, rfl, fun k hk => by simp only [ne_nb hk, if_false]⟩
def spR5Dot : List Value → Option Value
  | [.agg ⟨[.bool s1, .string ⟨⟨n1⟩⟩, .string ⟨⟨d1⟩⟩, .bool s2, .string ⟨⟨n2⟩⟩, .string ⟨⟨d2⟩⟩, .bool s3, .string ⟨⟨n3⟩⟩, .string ⟨⟨d3⟩⟩]⟩, .agg ⟨[.bool s4, .string ⟨⟨n4⟩⟩, .string ⟨⟨d4⟩⟩, .bool s5, .string ⟨⟨n5⟩⟩, .string ⟨⟨d5⟩⟩, .bool s6, .string ⟨⟨n6⟩⟩, .string ⟨⟨d6⟩⟩]⟩] =>
    if n1.length ≤ 1073741824 ∧ d1.length ≤ 1073741824 ∧ n2.length ≤ 1073741824 ∧ d2.length ≤ 1073741824 ∧ n3.length ≤ 1073741824 ∧ d3.length ≤ 1073741824 ∧ n4.length ≤ 1073741824 ∧ d4.length ≤ 1073741824 ∧ n5.length ≤ 1073741824 ∧ d5.length ≤ 1073741824 ∧ n6.length ≤ 1073741824 ∧ d6.length ≤ 1073741824 then some (.agg ⟨rE (rv s1 n1 d1 * rv s4 n4 d4 + rv s2 n2 d2 * rv s5 n5 d5 + rv s3 n3 d3 * rv s6 n6 d6)⟩) else none
  | _ => none
def c87 : ICode :=
  (.seq (.reg [qq 2 (.box 51 9 (.t 0)), qq 3 (.box 51 9 (.t 1)), qq 4 (.alloc 49 3 [(.bool false), e0, e0])]) (.seq (.reg [qq 7 (.build [(.bool false), e0, e0] []), qq 5 (.alloc 49 3 [(.bool false), e0, e0]), qn (.store 3 (.t 5) (.t 7))]) (.seq (.seq (.reg [qq 6 (.mv (ci 0))]) (.block 0 (.loop (.seq (.seq (.reg [qq 8 (.mv (.t 6)), qq 9 (.bin .lss (.t 8) (ci 3))]) (.cond (.t 9) .skip (.exit 0))) (.seq (.block 1 (.dreg [qu 12 (.load true 3 (.t 5)), qu 13 (.mv (.t 6)), qu 14 (.ixarr 3 3 (.t 2) (.t 13)), qu 15 (.load true 3 (.t 14)), qu 16 (.mv (.t 6)), qu 17 (.ixarr 3 3 (.t 3) (.t 16)), qu 18 (.load true 3 (.t 17)), qu 19 (.call 66 [(.t 15), (.t 18)]), qu 20 (.call 64 [(.t 12), (.t 19)]), qm (.store 3 (.t 5) (.t 20))])) (.reg [qq 10 (.mv (.t 6)), qq 11 (.bin .add (.t 10) (ci 1)), qq 6 (.mv (.t 11))])))))) (.seq (.reg [qq 21 (.load true 3 (.t 5)), qn (.store 3 (.t 4) (.t 21))]) .ret))))
theorem tr87 : trFun Tryz.prog 87 = some ⟨22, [.cell 4 true 3], c87⟩ := by kernel_rfl
set_option maxHeartbeats 4000000 in
theorem ok_r5Dot : SpecOK Tryz.prog 87 (flat spR5Dot) := by
  refine flat_run (env_cons ok_r3Mul (env_cons ok_r3Add (env_nil _))) mixed tr87 ?_
  intro args v h N hG
  unfold spR5Dot at hG
  split at hG
  case h_2 => cases hG
  rename_i s1 n1 d1 s2 n2 d2 s3 n3 d3 s4 n4 d4 s5 n5 d5 s6 n6 d6
  split at hG
  case isFalse => cases hG
  rename_i hl
  obtain ⟨hn1, hd1, hn2, hd2, hn3, hd3, hn4, hd4, hn5, hd5, hn6, hd6⟩ := hl
  cases hG
  refine ⟨rfl, by simp, ?_⟩
  have b1 := RB.raw (s := s1) hn1 hd1
  have mn1 : n1.length ≤ 8589934592 := by omega
  have md1 : d1.length ≤ 8589934592 := by omega
  have b2 := RB.raw (s := s2) hn2 hd2
  have mn2 : n2.length ≤ 8589934592 := by omega
  have md2 : d2.length ≤ 8589934592 := by omega
  have b3 := RB.raw (s := s3) hn3 hd3
  have mn3 : n3.length ≤ 8589934592 := by omega
  have md3 : d3.length ≤ 8589934592 := by omega
  have b4 := RB.raw (s := s4) hn4 hd4
  have mn4 : n4.length ≤ 8589934592 := by omega
  have md4 : d4.length ≤ 8589934592 := by omega
  have b5 := RB.raw (s := s5) hn5 hd5
  have mn5 : n5.length ≤ 8589934592 := by omega
  have md5 : d5.length ≤ 8589934592 := by omega
  have b6 := RB.raw (s := s6) hn6 hd6
  have mn6 : n6.length ≤ 8589934592 := by omega
  have md6 : d6.length ≤ 8589934592 := by omega
  have p0 := RB.mul (k := 2147483650) b1 b4 (by omega)
  have pn0 := p0.num (k := 8589934592) (by omega)
  have pd0 := p0.den (k := 8589934592) (by omega)
  have p1 := RB.mul (k := 2147483650) b2 b5 (by omega)
  have pn1 := p1.num (k := 8589934592) (by omega)
  have pd1 := p1.den (k := 8589934592) (by omega)
  have p2 := RB.mul (k := 2147483650) b3 b6 (by omega)
  have pn2 := p2.num (k := 8589934592) (by omega)
  have pd2 := p2.den (k := 8589934592) (by omega)
  have q := RB.add (k := 8589934592) p0 p1 (by omega)
  have qn := q.num (k := 8589934592) (by omega)
  have qd := q.den (k := 8589934592) (by omega)
  have w1 : IntKind.i64.wrap 1 = 1 := i64_in _ (by omega)
  have w2 : IntKind.i64.wrap 2 = 2 := i64_in _ (by omega)
  have w3 : IntKind.i64.wrap 3 = 3 := i64_in _ (by omega)
  have z0 : rv false [] [] = 0 := rv_zero
  simp only [c87, G0, Nat.reduceAdd]
  simp only [↓R0, R1, simprocAttr, -Int.reduceAbs]
  refine lp_step ?_
  simp only [↓R0, R1, simprocAttr, -Int.reduceAbs, spR3Mul, spR3Add, rv_can, rE, mn1, md1, mn2, md2, mn3, md3, mn4, md4, mn5, md5, mn6, md6, pn0, pd0, pn1, pd1, pn2, pd2, qn, qd, w1, w2, w3, z0, Rat.zero_add, Nat.zero_le]
  refine lp_step ?_
  simp only [↓R0, R1, simprocAttr, -Int.reduceAbs, spR3Mul, spR3Add, rv_can, rE, mn1, md1, mn2, md2, mn3, md3, mn4, md4, mn5, md5, mn6, md6, pn0, pd0, pn1, pd1, pn2, pd2, qn, qd, w1, w2, w3, z0, Rat.zero_add, Nat.zero_le]
  refine lp_step ?_
  simp only [↓R0, R1, simprocAttr, -Int.reduceAbs, spR3Mul, spR3Add, rv_can, rE, mn1, md1, mn2, md2, mn3, md3, mn4, md4, mn5, md5, mn6, md6, pn0, pd0, pn1, pd1, pn2, pd2, qn, qd, w1, w2, w3, z0, Rat.zero_add, Nat.zero_le]
  refine lp_step ?_
  simp only [↓R0, R1, simprocAttr, -Int.reduceAbs, Fin, isEnd, resL, res1, iE, rE]
  exact ⟨_, rfl, rfl, fun k hk => by simp only [ne_nb hk, if_false]⟩
end Go.Eng
end
section
set_option linter.unusedVariables false
set_option linter.unusedSimpArgs false
set_option linter.unusedSectionVars false
set_option maxRecDepth 20000
namespace Go.Eng
open Go Go.Proofs Go.IntWalk
def spR5Side : List Value → Option Value
  | [.agg ⟨[.bool s1, .string ⟨⟨l1⟩⟩, .bool s2, .string ⟨⟨l2⟩⟩, .bool s3, .string ⟨⟨l3⟩⟩, .bool s4, .string ⟨⟨l4⟩⟩]⟩, .agg ⟨[.bool t1, .string ⟨⟨m1⟩⟩, .bool t2, .string ⟨⟨m2⟩⟩, .bool t3, .string ⟨⟨m3⟩⟩, .bool t4, .string ⟨⟨m4⟩⟩]⟩] =>
    if l1.length ≤ 4294967296 ∧ l2.length ≤ 4294967296 ∧ l3.length ≤ 4294967296 ∧ l4.length ≤ 4294967296 ∧ m1.length ≤ 4294967296 ∧ m2.length ≤ 4294967296 ∧ m3.length ≤ 4294967296 ∧ m4.length ≤ 4294967296 then
      some (.int .i64 (-(sv s4 l4 * sv t4 m4) + sv s1 l1 * sv t1 m1 + sv s2 l2 * sv t2 m2 + sv s3 l3 * sv t3 m3).sign) else none
  | _ => none
def c40 : ICode :=
  (.seq (.reg [qq 2 (.box 25 8 (.t 0)), qq 3 (.box 41 8 (.t 1)), qq 4 (.mv (ci 0))]) (.seq (.reg [qq 6 (.faddr 6 (.t 2)), qq 7 (.load true 2 (.t 6)), qq 8 (.faddr 6 (.t 3)), qq 9 (.load true 2 (.t 8)), qq 10 (.call 83 [(.t 7), (.t 9)]), qq 11 (.call 81 [(.t 10)]), qq 5 (.alloc 23 2 [(.bool false), e0]), qn (.store 2 (.t 5) (.t 11))]) (.seq (.dreg [qu 12 (.load true 2 (.t 5)), qu 13 (.faddr 0 (.t 2)), qu 14 (.load true 2 (.t 13)), qu 15 (.faddr 0 (.t 3)), qu 16 (.load true 2 (.t 15)), qu 17 (.call 83 [(.t 14), (.t 16)]), qu 18 (.call 84 [(.t 12), (.t 17)]), qm (.store 2 (.t 5) (.t 18))]) (.seq (.dreg [qu 19 (.load true 2 (.t 5)), qu 20 (.faddr 2 (.t 2)), qu 21 (.load true 2 (.t 20)), qu 22 (.faddr 2 (.t 3)), qu 23 (.load true 2 (.t 22)), qu 24 (.call 83 [(.t 21), (.t 23)]), qu 25 (.call 84 [(.t 19), (.t 24)]), qm (.store 2 (.t 5) (.t 25))]) (.seq (.dreg [qu 26 (.load true 2 (.t 5)), qu 27 (.faddr 4 (.t 2)), qu 28 (.load true 2 (.t 27)), qu 29 (.faddr 4 (.t 3)), qu 30 (.load true 2 (.t 29)), qu 31 (.call 83 [(.t 28), (.t 30)]), qu 32 (.call 84 [(.t 26), (.t 31)]), qm (.store 2 (.t 5) (.t 32))]) (.seq (.reg [qq 33 (.load true 2 (.t 5)), qq 34 (.call 77 [(.t 33)]), qq 4 (.mv (.t 34))]) .ret))))))
theorem tr40 : trFun Tryz.prog 40 = some ⟨35, [.t 4], c40⟩ := by kernel_rfl
set_option maxHeartbeats 2000000 in
theorem ok_r5Side : SpecOK Tryz.prog 40 (flat spR5Side) := by
  refine flat_run (env_cons ok_r2Mul (env_cons ok_r2Add (env_cons ok_r2Neg (env_cons ok_r2Sign (env_nil _))))) mixed tr40 ?_
  intro args v h N hG
  unfold spR5Side at hG
  split at hG
  case h_2 => cases hG
  rename_i s1 l1 s2 l2 s3 l3 s4 l4 t1 m1 t2 m2 t3 m3 t4 m4
  split at hG
  case isFalse => cases hG
  rename_i hl
  obtain ⟨h1, h2, h3, h4, g1, g2, g3, g4⟩ := hl
  cases hG
  refine ⟨rfl, by simp, ?_⟩
  have a1 : l1.length + m1.length ≤ 274877906944 := by omega
  have a2 : l2.length + m2.length ≤ 274877906944 := by omega
  have a3 : l3.length + m3.length ≤ 274877906944 := by omega
  have a4 : l4.length + m4.length ≤ 274877906944 := by omega
  have p1 := lmul (k := 8589934592) (len_sv (s := s1) h1) (len_sv (s := t1) g1) (by omega)
  have p2 := lmul (k := 8589934592) (len_sv (s := s2) h2) (len_sv (s := t2) g2) (by omega)
  have p3 := lmul (k := 8589934592) (len_sv (s := s3) h3) (len_sv (s := t3) g3) (by omega)
  have p4 := lmul (k := 8589934592) (len_sv (s := s4) h4) (len_sv (s := t4) g4) (by omega)
  have p5 : (bl (-(sv s4 l4 * sv t4 m4)).natAbs).length ≤ 8589934592 := by rw [Int.natAbs_neg]; exact p4
  have x4 := lle (k := 1099511627776) p4 (by omega)
  have x1 := lle (k := 549755813888) p1 (by omega)
  have x2 := lle (k := 549755813888) p2 (by omega)
  have x3 := lle (k := 549755813888) p3 (by omega)
  have x5 := lle (k := 549755813888) p5 (by omega)
  have y1 := ladd (k := 8589934593) p5 p1 (by omega)
  have y2 := ladd (k := 8589934594) y1 p2 (by omega)
  have y3 := ladd (k := 1099511627776) y2 p3 (by omega)
  have z1 := lle (k := 549755813888) y1 (by omega)
  have z2 := lle (k := 549755813888) y2 (by omega)
  simp only [c40, G0, Nat.reduceAdd]
  simp only [↓R0, R1, simprocAttr, -Int.reduceAbs, spI2Mul, spI2Neg, spI2Add, spI2Sign, a1, a2, a3, a4, x1, x2, x3, x4, x5, z1, z2, y3, Fin, isEnd, resL, res1, iE, rE]
  exact ⟨_, rfl, rfl, fun k hk => by simp only [ne_nb hk, if_false]⟩
end Go.Eng
end
section
set_option linter.unusedVariables false
set_option linter.unusedSimpArgs false
set_option linter.unusedSectionVars false
set_option maxRecDepth 20000
namespace Go.Eng
open Go Go.Proofs Go.IntWalk
end Go.Eng
end
section
set_option linter.unusedVariables false
set_option linter.unusedSimpArgs false
set_option linter.unusedSectionVars false
set_option maxRecDepth 20000
namespace Go.Eng
open Go Go.Proofs Go.IntWalk
end Go.Eng
end
section
set_option linter.unusedVariables false
set_option linter.unusedSimpArgs false
set_option linter.unusedSectionVars false
namespace Go.Eng
def lex3 (x y z : Int) : Int := if x.sign = 0 then (if y.sign = 0 then z.sign else y.sign) else x.sign
def cmp4 (a1 a2 a3 a4 b1 b2 b3 b4 : Int) : Int := lex3 (a1 * b4 - b1 * a4) (a2 * b4 - b2 * a4) (a3 * b4 - b3 * a4)
section
variable {x b a m n p : Int}
end
def btw (a1 a2 a3 a4 b1 b2 b3 b4 x1 x2 x3 x4 : Int) : Prop :=
  (¬ cmp4 a1 a2 a3 a4 x1 x2 x3 x4 = 0) ∧ cmp4 a1 a2 a3 a4 x1 x2 x3 x4 = cmp4 x1 x2 x3 x4 b1 b2 b3 b4 ∧ flt a1 a2 a3 a4 b1 b2 b3 b4 x1 x2 x3 x4
instance {a1 a2 a3 a4 b1 b2 b3 b4 x1 x2 x3 x4 : Int} : Decidable (btw a1 a2 a3 a4 b1 b2 b3 b4 x1 x2 x3 x4) := by unfold btw; infer_instance
theorem num_sign {q : Rat} {n d : Int} (h : q = Rat.divInt n d) (hd : 0 < d) : q.num.sign = n.sign := by
  have hq : 0 < (q.den : Int) := by have := q.den_pos; omega
  have e : q.num * d = n * q.den := (Rat.divInt_eq_divInt_iff (by omega) (by omega)).1 (by rw [← h]; exact Rat.num_divInt_den q)
  rw [← sign_pos_mul (x := q.num) hd, e, sign_pos_mul hq]
end Go.Eng
end
section
set_option linter.unusedVariables false
set_option linter.unusedSimpArgs false
set_option linter.unusedSectionVars false
set_option maxRecDepth 20000
namespace Go.Eng
open Go Go.Proofs Go.IntWalk
end Go.Eng
end
section
set_option linter.unusedVariables false
set_option linter.unusedSimpArgs false
set_option linter.unusedSectionVars false
namespace Go.Eng
structure Pt where
  (s1 : Bool) (l1 : List UInt8) (s2 : Bool) (l2 : List UInt8) (s3 : Bool) (l3 : List UInt8) (s4 : Bool) (l4 : List UInt8)
deriving DecidableEq
namespace Pt
def cells (p : Pt) : List Value := [.bool p.s1, .string ⟨⟨p.l1⟩⟩, .bool p.s2, .string ⟨⟨p.l2⟩⟩, .bool p.s3, .string ⟨⟨p.l3⟩⟩, .bool p.s4, .string ⟨⟨p.l4⟩⟩]
def x (p : Pt) : Int := sv p.s1 p.l1
def y (p : Pt) : Int := sv p.s2 p.l2
def z (p : Pt) : Int := sv p.s3 p.l3
def w (p : Pt) : Int := sv p.s4 p.l4
def cmp (p q : Pt) : Int := cmp4 p.x p.y p.z p.w q.x q.y q.z q.w
def on (p q r : Pt) : Prop := flt p.x p.y p.z p.w q.x q.y q.z q.w r.x r.y r.z r.w
instance {p q r : Pt} : Decidable (on p q r) := by unfold on; infer_instance
def ok (p : Pt) : Prop := (p.l1.length ≤ 65536 ∧ p.l2.length ≤ 65536 ∧ p.l3.length ≤ 65536 ∧ p.l4.length ≤ 65536) ∧ 0 < p.w
instance {p : Pt} : Decidable p.ok := by unfold ok; infer_instance
def lo (p q : Pt) : Pt := if 0 < cmp p q then q else p
def hi (p q : Pt) : Pt := if 0 < cmp p q then p else q
end Pt
end Go.Eng
end
section
set_option linter.unusedVariables false
set_option linter.unusedSimpArgs false
set_option linter.unusedSectionVars false
set_option maxRecDepth 20000
namespace Go.Eng
open Go Go.Proofs Go.IntWalk
theorem ceq8 {s1 l1 s2 l2 s3 l3 s4 l4 t1 m1 t2 m2 t3 m3 t4 m4} : ceq [.b, .s, .b, .s, .b, .s, .b, .s] [.bool s1, .string ⟨⟨l1⟩⟩, .bool s2, .string ⟨⟨l2⟩⟩, .bool s3, .string ⟨⟨l3⟩⟩, .bool s4, .string ⟨⟨l4⟩⟩] [.bool t1, .string ⟨⟨m1⟩⟩, .bool t2, .string ⟨⟨m2⟩⟩, .bool t3, .string ⟨⟨m3⟩⟩, .bool t4, .string ⟨⟨m4⟩⟩] =
    some (decide ((⟨s1, l1, s2, l2, s3, l3, s4, l4⟩ : Pt) = ⟨t1, m1, t2, m2, t3, m3, t4, m4⟩)) := by
  have e : ∀ a b : List UInt8, decide ((⟨⟨a⟩⟩ : ByteArray) = ⟨⟨b⟩⟩) = decide (a = b) := fun a b => by
    congr 1; exact propext ⟨fun h => by injection h with h; injection h, fun h => by rw [h]⟩
  simp only [ceq, Option.map_some, Bool.and_true, e, Option.some.injEq, Pt.mk.injEq, Bool.decide_and]
end Go.Eng
end
section
set_option linter.unusedVariables false
set_option linter.unusedSimpArgs false
set_option linter.unusedSectionVars false
namespace Go.Eng
namespace Pt
def dflt : Pt := ⟨false, [], false, [], false, [], false, []⟩
def sz (k : Nat) (p : Pt) : Prop := p.l1.length ≤ k ∧ p.l2.length ≤ k ∧ p.l3.length ≤ k ∧ p.l4.length ≤ k
instance {k : Nat} {p : Pt} : Decidable (p.sz k) := by unfold sz; infer_instance
theorem sz.le {i k : Nat} {p : Pt} (h : p.sz i) (hk : i ≤ k) : p.sz k := ⟨Nat.le_trans h.1 hk, Nat.le_trans h.2.1 hk, Nat.le_trans h.2.2.1 hk, Nat.le_trans h.2.2.2 hk⟩
def c1 (p : Pt) : List Value := [.bool p.s1, .string ⟨⟨p.l1⟩⟩]
def c2 (p : Pt) : List Value := [.bool p.s2, .string ⟨⟨p.l2⟩⟩]
def c3 (p : Pt) : List Value := [.bool p.s3, .string ⟨⟨p.l3⟩⟩]
def c4 (p : Pt) : List Value := [.bool p.s4, .string ⟨⟨p.l4⟩⟩]
theorem len8 (p : Pt) : p.cells.length = 8 := rfl
theorem ok8 (p : Pt) : p.cells.all okCell = true := rfl
theorem base8 (p : Pt) : p.cells.all isBase = true := rfl
theorem tk8 (p : Pt) : p.cells.take 8 = p.cells := rfl
theorem g1 (p : Pt) : p.cells.take 2 = p.c1 := rfl
theorem g2 (p : Pt) : (p.cells.drop 2).take 2 = p.c2 := rfl
theorem g3 (p : Pt) : (p.cells.drop 4).take 2 = p.c3 := rfl
theorem g4 (p : Pt) : (p.cells.drop 6).take 2 = p.c4 := rfl
theorem c1_len (p : Pt) : p.c1.length = 2 := rfl
theorem c2_len (p : Pt) : p.c2.length = 2 := rfl
theorem c3_len (p : Pt) : p.c3.length = 2 := rfl
theorem c4_len (p : Pt) : p.c4.length = 2 := rfl
end Pt
def decP : List Value → Option Pt
  | [.bool s1, .string ⟨⟨l1⟩⟩, .bool s2, .string ⟨⟨l2⟩⟩, .bool s3, .string ⟨⟨l3⟩⟩, .bool s4, .string ⟨⟨l4⟩⟩] => some ⟨s1, l1, s2, l2, s3, l3, s4, l4⟩
  | _ => none
theorem decP_eq {cs : List Value} {p : Pt} (e : decP cs = some p) : cs = p.cells := by
  unfold decP at e
  split at e
  · cases e; rfl
  · cases e
theorem decP_cells (p : Pt) : decP p.cells = some p := rfl
def ptAt (l : List Pt) (i : Nat) : Pt := (l[i]?).getD Pt.dflt
theorem ptAt_eq {l : List Pt} {i : Nat} {p : Pt} (h : l[i]? = some p) : ptAt l i = p := by unfold ptAt; rw [h]; rfl
theorem ptAt_some {l : List Pt} {i : Nat} (h : i < l.length) : l[i]? = some (ptAt l i) := by unfold ptAt; rw [List.getElem?_eq_getElem h]; rfl
theorem ptAt_mem {l : List Pt} {i : Nat} (h : i < l.length) : ptAt l i ∈ l := List.mem_of_getElem? (ptAt_some h)
def sdv (P p : Pt) : Int := P.x * p.x + P.y * p.y + P.z * p.z - P.w * p.w
def awx (a b : Pt) : Int := b.x * a.w - a.x * b.w
def awy (a b : Pt) : Int := b.y * a.w - a.y * b.w
def awz (a b : Pt) : Int := b.z * a.w - a.z * b.w
def lftZ (P a b x : Pt) : Int :=
  0 + P.x * (awy a b * awz a x - awz a b * awy a x) + P.y * (awz a b * awx a x - awx a b * awz a x) + P.z * (awx a b * awy a x - awy a b * awx a x)
def turnsP (P : Pt) (l : List Pt) : Prop := ∀ i, i < l.length → ∀ j, j < l.length → j ≠ i → j ≠ (i + 1) % l.length → 0 < lftZ P (ptAt l i) (ptAt l ((i + 1) % l.length)) (ptAt l j)
instance {P : Pt} {l : List Pt} : Decidable (turnsP P l) := by unfold turnsP; infer_instance
def ptI (a b c d : Int) : Pt := ⟨decide (a < 0), bl a.natAbs, decide (b < 0), bl b.natAbs, decide (c < 0), bl c.natAbs, decide (d < 0), bl d.natAbs⟩
def ptN (p : Pt) : Pt := ptI (pQ p.x p.y p.z p.w p.x) (pQ p.x p.y p.z p.w p.y) (pQ p.x p.y p.z p.w p.z) (pQ p.x p.y p.z p.w (pW p.w))
end Go.Eng
end
section
set_option linter.unusedVariables false
set_option linter.unusedSimpArgs false
set_option linter.unusedSectionVars false
set_option maxRecDepth 20000
namespace Go.Eng
open Go Go.Proofs Go.IntWalk
def plN (p : Pt) : Pt := ptI (p.x / (lG p.x p.y p.z p.w : Int)) (p.y / (lG p.x p.y p.z p.w : Int)) (p.z / (lG p.x p.y p.z p.w : Int)) (p.w / (lG p.x p.y p.z p.w : Int))
def plCan (P : Pt) : Prop := ¬ (P.x = 0 ∧ P.y = 0 ∧ P.z = 0) ∧ plN P = P
instance {P : Pt} : Decidable (plCan P) := by unfold plCan; infer_instance
def chk (P : Pt) (l : List Pt) : Int :=
  if ¬ plCan P then 3
  else if ¬ (∀ i, i < l.length → ptN (ptAt l i) = ptAt l i) then 3
  else if l.length < 3 then 4
  else if ¬ (∀ i, i < l.length → sdv P (ptAt l i) = 0) then 2
  else if ¬ turnsP P l then 1
  else 0
theorem ptN_cells (p : Pt) : pE p.x p.y p.z p.w = (ptN p).cells := rfl
theorem ceq_Pt (p q : Pt) : ceq [.b, .s, .b, .s, .b, .s, .b, .s] p.cells q.cells = some (decide (p = q)) := ceq8
theorem ic1 {p : Pt} {k : Nat} (h : p.sz k) : IC p.c1 p.x k := IC.raw h.1
theorem ic2 {p : Pt} {k : Nat} (h : p.sz k) : IC p.c2 p.y k := IC.raw h.2.1
theorem ic3 {p : Pt} {k : Nat} (h : p.sz k) : IC p.c3 p.z k := IC.raw h.2.2.1
theorem ic4 {p : Pt} {k : Nat} (h : p.sz k) : IC p.c4 p.w k := IC.raw h.2.2.2
def spPaway1 : List Value → Heap → Option Value
  | [.agg ⟨[.bool s, .string ⟨⟨l⟩⟩]⟩, .agg ⟨[.bool t, .string ⟨⟨m⟩⟩]⟩, .pointer (some ⟨k1, 0, none⟩), .pointer (some ⟨k2, 0, none⟩)], h => match hget h k1, hget h k2 with
    | some ⟨_, _, _, cs1⟩, some ⟨_, _, _, cs2⟩ => match decP cs1, decP cs2 with
      | some a, some b => if l.length ≤ 1000000 ∧ m.length ≤ 1000000 ∧ a.sz 1000000 ∧ b.sz 1000000 then some (.agg ⟨iE (sv s l * a.w - sv t m * b.w)⟩) else none
      | _, _ => none
    | _, _ => none
  | _, _ => none
def c133 : ICode :=
  (.seq (.reg [qq 4 (.box 23 2 (.t 0)), qq 5 (.box 23 2 (.t 1)), qq 6 (.alloc 23 2 [(.bool false), e0])]) (.seq (.dreg [qu 7 (.load true 2 (.t 4)), qu 8 (.faddr 6 (.t 2)), qu 9 (.load true 2 (.t 8)), qu 10 (.call 50 [(.t 7), (.t 9)]), qv 11 [3] (.load true 2 (.t 5)), qu 12 (.faddr 6 (.t 3)), qv 13 [3] (.load true 2 (.t 12)), qu 14 (.call 50 [(.t 11), (.t 13)]), qu 15 (.call 90 [(.t 10), (.t 14)]), qm (.store 2 (.t 6) (.t 15))]) .ret))
theorem tr133 : trFun Tryz.prog 133 = some ⟨16, [.cell 6 true 2], c133⟩ := by kernel_rfl
set_option maxHeartbeats 1000000 in
theorem ok_Paway1 : SpecOK Tryz.prog 133 (rdS spPaway1) := by
  refine rd_run (env_cons ok_iMul (env_cons ok_iSub (env_nil _))) mixed tr133 ?_ ?_
  · intro args h h' v hle e
    unfold spPaway1 at e ⊢
    split at e
    · split at e
      · rename_i b1 b2
        simp only [hle _ _ b1, hle _ _ b2]; exact e
      · cases e
    · cases e
  intro args v h N hG hN
  unfold spPaway1 at hG
  split at hG
  case h_2 => cases hG
  rename_i s l t m k1 k2
  split at hG
  case h_2 => cases hG
  rename_i e1 z1 x1 cs1 e2 z2 x2 cs2 hb1 hb2
  split at hG
  case h_2 => cases hG
  rename_i a b ha hb
  split at hG
  case isFalse => cases hG
  rename_i hl
  obtain ⟨hl1, hl2, sa, sb⟩ := hl
  cases hG
  have ea := decP_eq ha
  have eb := decP_eq hb
  subst ea eb
  have n1 := hN _ _ hb1
  have n2 := hN _ _ hb2
  have ne1 : ∀ j, (N + j = k1) = False := fun j => eq_false (by omega)
  have ne2 : ∀ j, (N + j = k2) = False := fun j => eq_false (by omega)
  refine ⟨rfl, by simp, ?_⟩
  have i1 : IC [.bool s, .string ⟨⟨l⟩⟩] (sv s l) 1000000 := IC.raw hl1
  have i2 : IC [.bool t, .string ⟨⟨m⟩⟩] (sv t m) 1000000 := IC.raw hl2
  have m1 := i1.mul (ic4 sa) (by omega) (by omega)
  have m2 := i2.mul (ic4 sb) (by omega) (by omega)
  have m3 := (IC.iE (i1.lb.mul (ic4 sa).lb (k := 2000000) (by omega))).sub (IC.iE (i2.lb.mul (ic4 sb).lb (k := 2000000) (by omega))) (by omega) (by omega)
  have ga := a.g4
  have gb := b.g4
  have la := a.len8
  have lb := b.len8
  have ca := a.c4_len
  have cb := b.c4_len
  generalize a.w = aw at *
  generalize b.w = bw at *
  generalize a.c4 = ac at *
  generalize b.c4 = bc at *
  generalize a.cells = A at *
  generalize b.cells = B at *
  simp only [c133, G0, Nat.reduceAdd]
  simp only [↓R0, R1, simprocAttr, -Int.reduceAbs, ne1, ne2, hb1, hb2, ga, gb, la, lb, ca, cb, m1, m2, m3, iE_len, iE_ok, iE_tk, st2, st2', Fin, isEnd, resL, res1]
  exact ⟨_, rfl, rfl, fun k hk => by simp only [ne_nb hk, if_false]⟩
def spPaway : List Value → Option Value
  | [.agg ⟨ca⟩, .agg ⟨cb⟩] => match decP ca, decP cb with
    | some a, some b => if a.sz 1000000 ∧ b.sz 1000000 then some (.agg ⟨i3E (awx a b) (awy a b) (awz a b)⟩) else none
    | _, _ => none
  | _ => none
def c97 : ICode :=
  (.seq (.reg [qq 2 (.box 41 8 (.t 0)), qq 3 (.box 41 8 (.t 1)), qq 4 (.alloc 99 6 [(.bool false), e0, (.bool false), e0, (.bool false), e0])]) (.seq (.reg [qq 6 (.mkfn 133 [(.t 2), (.t 3)]), qq 5 (.mv (.t 6))]) (.seq (.dreg [qu 7 (.mv (.t 5)), qu 8 (.faddr 0 (.t 3)), qu 9 (.load true 2 (.t 8)), qu 10 (.faddr 0 (.t 2)), qu 11 (.load true 2 (.t 10)), qu 12 (.callv (.t 7) [(.t 9), (.t 11)]), qu 13 (.mv (.t 5)), qu 14 (.faddr 2 (.t 3)), qv 15 [5] (.load true 2 (.t 14)), qu 16 (.faddr 2 (.t 2)), qv 17 [5] (.load true 2 (.t 16)), qu 18 (.callv (.t 13) [(.t 15), (.t 17)]), qu 19 (.mv (.t 5)), qu 20 (.faddr 4 (.t 3)), qv 21 [5, 11] (.load true 2 (.t 20)), qu 22 (.faddr 4 (.t 2)), qv 23 [5, 11] (.load true 2 (.t 22)), qu 24 (.callv (.t 19) [(.t 21), (.t 23)]), qu 25 (.build [(.bool false), e0, (.bool false), e0, (.bool false), e0] [(0, 2, (.t 12)), (2, 2, (.t 18)), (4, 2, (.t 24))]), qm (.store 6 (.t 4) (.t 25))]) .ret)))
theorem tr97 : trFun Tryz.prog 97 = some ⟨26, [.cell 4 true 6], c97⟩ := by kernel_rfl
set_option maxHeartbeats 1000000 in
theorem ok_Paway : SpecOK Tryz.prog 97 (flat spPaway) := by
  refine flat_run (env_cons ok_Paway1 (env_nil _)) mixed tr97 ?_
  intro args v h N hG
  unfold spPaway at hG
  split at hG
  case h_2 => cases hG
  rename_i ca cb
  split at hG
  case h_2 => cases hG
  rename_i a b ha hb
  split at hG
  case isFalse => cases hG
  rename_i hl
  obtain ⟨sa, sb⟩ := hl
  cases hG
  have ea := decP_eq ha
  have eb := decP_eq hb
  subst ea eb
  refine ⟨rfl, by simp, ?_⟩
  have f : ∀ (hp : Heap) (s : Bool) (l : List UInt8) (t : Bool) (m : List UInt8), hget hp (N + 0) = some ⟨41, 8, true, a.cells⟩ → hget hp (N + 1) = some ⟨41, 8, true, b.cells⟩ → l.length ≤ 1000000 → m.length ≤ 1000000 →
      spPaway1 [.agg ⟨[.bool s, .string ⟨⟨l⟩⟩]⟩, .agg ⟨[.bool t, .string ⟨⟨m⟩⟩]⟩, .pointer (some ⟨N + 0, 0, none⟩), .pointer (some ⟨N + 1, 0, none⟩)] hp = some (.agg ⟨iE (sv s l * a.w - sv t m * b.w)⟩) := by
    intro hp s l t m h1 h2 h3 h4
    unfold spPaway1
    simp only [h1, h2, decP_cells]
    exact if_pos ⟨h3, h4, sa, sb⟩
  have f1 := fun hp h1 h2 => f hp b.s1 b.l1 a.s1 a.l1 h1 h2 sb.1 sa.1
  have f2 := fun hp h1 h2 => f hp b.s2 b.l2 a.s2 a.l2 h1 h2 sb.2.1 sa.2.1
  have f3 := fun hp h1 h2 => f hp b.s3 b.l3 a.s3 a.l3 h1 h2 sb.2.2.1 sa.2.2.1
  replace f1 : ∀ hp, hget hp (N + 0) = some ⟨41, 8, true, a.cells⟩ → hget hp (N + 1) = some ⟨41, 8, true, b.cells⟩ → spPaway1 [.agg ⟨b.c1⟩, .agg ⟨a.c1⟩, .pointer (some ⟨N + 0, 0, none⟩), .pointer (some ⟨N + 1, 0, none⟩)] hp = some (.agg ⟨iE (awx a b)⟩) := f1
  replace f2 : ∀ hp, hget hp (N + 0) = some ⟨41, 8, true, a.cells⟩ → hget hp (N + 1) = some ⟨41, 8, true, b.cells⟩ → spPaway1 [.agg ⟨b.c2⟩, .agg ⟨a.c2⟩, .pointer (some ⟨N + 0, 0, none⟩), .pointer (some ⟨N + 1, 0, none⟩)] hp = some (.agg ⟨iE (awy a b)⟩) := f2
  replace f3 : ∀ hp, hget hp (N + 0) = some ⟨41, 8, true, a.cells⟩ → hget hp (N + 1) = some ⟨41, 8, true, b.cells⟩ → spPaway1 [.agg ⟨b.c3⟩, .agg ⟨a.c3⟩, .pointer (some ⟨N + 0, 0, none⟩), .pointer (some ⟨N + 1, 0, none⟩)] hp = some (.agg ⟨iE (awz a b)⟩) := f3
  clear f
  have ga1 := a.g1; have ga2 := a.g2; have ga3 := a.g3
  have gb1 := b.g1; have gb2 := b.g2; have gb3 := b.g3
  have la := a.len8
  have lb := b.len8
  have x1 := a.c1_len; have x2 := a.c2_len; have x3 := a.c3_len
  have y1 := b.c1_len; have y2 := b.c2_len; have y3 := b.c3_len
  have w1 := awx a b
  generalize awx a b = X at *
  generalize awy a b = Y at *
  generalize awz a b = Z at *
  generalize a.c1 = a1 at *
  generalize a.c2 = a2 at *
  generalize a.c3 = a3 at *
  generalize b.c1 = b1 at *
  generalize b.c2 = b2 at *
  generalize b.c3 = b3 at *
  generalize a.cells = A at *
  generalize b.cells = B at *
  simp only [c97, G0, Nat.reduceAdd]
  simp only [↓R0, R1, simprocAttr, -Int.reduceAbs, rdS, callF, setR_length, ga1, ga2, ga3, gb1, gb2, gb3, la, lb, x1, x2, x3, y1, y2, y3, f1, f2, f3, iE_len, i3E_new, i3E_len, i3E_ok, i3E_tk, i3E_st, Fin, isEnd, resL, res1]
  exact ⟨_, rfl, rfl, fun k hk => by simp only [ne_nb hk, if_false]⟩
end Go.Eng
end
section
set_option linter.unusedVariables false
set_option linter.unusedSimpArgs false
set_option linter.unusedSectionVars false
set_option maxRecDepth 20000
namespace Go.Eng
open Go Go.Proofs Go.IntWalk
def spPleft : List Value → Option Value
  | [.agg ⟨cp⟩, .agg ⟨ca⟩, .agg ⟨cb⟩, .agg ⟨cx⟩] => match decP cp, decP ca, decP cb, decP cx with
    | some P, some a, some b, some x => if P.sz 1000000 ∧ a.sz 1000000 ∧ b.sz 1000000 ∧ x.sz 1000000 then some (.int .i64 (lftZ P a b x).sign) else none
    | _, _, _, _ => none
  | _ => none
theorem aw_lb {a b : Pt} (ha : a.sz 1000000) (hb : b.sz 1000000) : LB (awx a b) 2000001 ∧ LB (awy a b) 2000001 ∧ LB (awz a b) 2000001 :=
  ⟨((ic1 hb).lb.mul (ic4 ha).lb (k := 2000000) (by omega)).sub ((ic1 ha).lb.mul (ic4 hb).lb (k := 2000000) (by omega)) (by omega),
   ((ic2 hb).lb.mul (ic4 ha).lb (k := 2000000) (by omega)).sub ((ic2 ha).lb.mul (ic4 hb).lb (k := 2000000) (by omega)) (by omega),
   ((ic3 hb).lb.mul (ic4 ha).lb (k := 2000000) (by omega)).sub ((ic3 ha).lb.mul (ic4 hb).lb (k := 2000000) (by omega)) (by omega)⟩
def c52 : ICode :=
  (.seq (.reg [qq 4 (.box 25 8 (.t 0)), qq 5 (.box 41 8 (.t 1)), qq 6 (.box 41 8 (.t 2)), qq 7 (.box 41 8 (.t 3)), qq 8 (.mv (ci 0))]) (.seq (.dreg [qu 16 (.load true 8 (.t 5)), qu 17 (.load true 8 (.t 6)), qu 18 (.call 97 [(.t 16), (.t 17)]), qv 19 [2] (.load true 8 (.t 5)), qv 20 [2] (.load true 8 (.t 7)), qu 21 (.call 97 [(.t 19), (.t 20)]), qu 9 (.alloc 99 6 [(.bool false), e0, (.bool false), e0, (.bool false), e0]), qu 10 (.alloc 99 6 [(.bool false), e0, (.bool false), e0, (.bool false), e0]), qm (.store 6 (.t 9) (.t 18)), qm (.store 6 (.t 10) (.t 21))]) (.seq (.reg [qq 22 (.build [(.bool false), e0] []), qq 11 (.alloc 23 2 [(.bool false), e0]), qn (.store 2 (.t 11) (.t 22))]) (.seq (.seq (.reg [qq 23 (.faddr 0 (.t 4)), qq 24 (.load true 2 (.t 23)), qq 25 (.faddr 2 (.t 4)), qq 26 (.load true 2 (.t 25)), qq 27 (.faddr 4 (.t 4)), qq 28 (.load true 2 (.t 27)), qq 29 (.build [(.bool false), e0, (.bool false), e0, (.bool false), e0] [(0, 2, (.t 24)), (2, 2, (.t 26)), (4, 2, (.t 28))]), qq 30 (.mv (ci 0))]) (.block 0 (.loop (.seq (.reg [qq 31 (.bin .lss (.t 30) (ci 3))]) (.seq (.cond (.t 31) .skip (.exit 0)) (.seq (.block 1 (.seq (.reg [qq 32 (.mv (.t 30)), qq 33 (.idarr 3 true 2 (.t 29) (.t 30)), qq 13 (.alloc 23 2 [(.bool false), e0]), qq 12 (.mv (.t 32)), qn (.store 2 (.t 13) (.t 33))]) (.seq (.reg [qq 34 (.mv (.t 12)), qq 35 (.bin .add (.t 34) (ci 1)), qq 36 (.bin .rem (.t 35) (ci 3)), qq 37 (.mv (.t 12)), qq 38 (.bin .add (.t 37) (ci 2)), qq 39 (.bin .rem (.t 38) (ci 3)), qq 14 (.mv (.t 36)), qq 15 (.mv (.t 39))]) (.dreg [qu 40 (.load true 2 (.t 11)), qu 41 (.load true 2 (.t 13)), qu 42 (.mv (.t 14)), qu 43 (.ixarr 3 2 (.t 9) (.t 42)), qu 44 (.load true 2 (.t 43)), qu 45 (.mv (.t 15)), qu 46 (.ixarr 3 2 (.t 10) (.t 45)), qu 47 (.load true 2 (.t 46)), qu 48 (.call 50 [(.t 44), (.t 47)]), qu 49 (.mv (.t 15)), qu 50 (.ixarr 3 2 (.t 9) (.t 49)), qv 51 [8] (.load true 2 (.t 50)), qu 52 (.mv (.t 14)), qu 53 (.ixarr 3 2 (.t 10) (.t 52)), qv 54 [8] (.load true 2 (.t 53)), qu 55 (.call 50 [(.t 51), (.t 54)]), qu 56 (.call 90 [(.t 48), (.t 55)]), qu 57 (.call 50 [(.t 41), (.t 56)]), qu 58 (.call 49 [(.t 40), (.t 57)]), qm (.store 2 (.t 11) (.t 58))])))) (.reg [qq 59 (.bin .add (.t 30) (ci 1)), qq 30 (.mv (.t 59))]))))))) (.seq (.reg [qq 60 (.load true 2 (.t 11)), qq 61 (.call 72 [(.t 60)]), qq 8 (.mv (.t 61))]) .ret)))))
theorem tr52 : trFun Tryz.prog 52 = some ⟨62, [.t 8], c52⟩ := by kernel_rfl
set_option maxHeartbeats 4000000 in
theorem ok_Pleft : SpecOK Tryz.prog 52 (flat spPleft) := by
  refine flat_run (env_cons ok_Paway (env_cons ok_iMul (env_cons ok_iSub (env_cons ok_iAdd (env_cons ok_iSign (env_nil _)))))) mixed tr52 ?_
  intro args v h N hG
  unfold spPleft at hG
  split at hG
  case h_2 => cases hG
  rename_i cp ca cb cx
  split at hG
  case h_2 => cases hG
  rename_i P a b x hp ha hb hx
  split at hG
  case isFalse => cases hG
  rename_i hl
  obtain ⟨sp, sa, sb, sx⟩ := hl
  cases hG
  have e1 := decP_eq hp
  have e2 := decP_eq ha
  have e3 := decP_eq hb
  have e4 := decP_eq hx
  subst e1 e2 e3 e4
  refine ⟨rfl, by simp, ?_⟩
  have k1 : spPaway [.agg ⟨a.cells⟩, .agg ⟨b.cells⟩] = some (.agg ⟨i3E (awx a b) (awy a b) (awz a b)⟩) := if_pos ⟨sa, sb⟩
  have k2 : spPaway [.agg ⟨a.cells⟩, .agg ⟨x.cells⟩] = some (.agg ⟨i3E (awx a x) (awy a x) (awz a x)⟩) := if_pos ⟨sa, sx⟩
  obtain ⟨u0, u1, u2⟩ := aw_lb sa sb
  obtain ⟨v0, v1, v2⟩ := aw_lb sa sx
  have p1 := ic1 sp
  have p2 := ic2 sp
  have p3 := ic3 sp
  have gp1 := P.g1; have gp2 := P.g2; have gp3 := P.g3
  have lp := P.len8; have la := a.len8; have lb := b.len8; have lx := x.len8
  have tp := P.tk8; have ta := a.tk8; have tb := b.tk8; have tx := x.tk8
  have x1 := P.c1_len; have x2 := P.c2_len; have x3 := P.c3_len
  have bld : setR (setR (setR [.bool false, .string ⟨⟨[]⟩⟩, .bool false, .string ⟨⟨[]⟩⟩, .bool false, .string ⟨⟨[]⟩⟩] 0 P.c1) 2 P.c2) 4 P.c3 = P.c1 ++ P.c2 ++ P.c3 := rfl
  have h0 : (P.c1 ++ P.c2 ++ P.c3).take 2 = P.c1 := rfl
  have h2 : ((P.c1 ++ P.c2 ++ P.c3).drop 2).take 2 = P.c2 := rfl
  have h4 : ((P.c1 ++ P.c2 ++ P.c3).drop 4).take 2 = P.c3 := rfl
  have hl : (P.c1 ++ P.c2 ++ P.c3).length = 6 := rfl
  have so1 : ∀ z, setR (iE z) 0 P.c1 = P.c1 := fun _ => rfl
  have ok1 : P.c1.all okCell = true := rfl
  have tk1 : P.c1.take 2 = P.c1 := rfl
  have so2 : ∀ z, setR (iE z) 0 P.c2 = P.c2 := fun _ => rfl
  have ok2 : P.c2.all okCell = true := rfl
  have tk2 : P.c2.take 2 = P.c2 := rfl
  have so3 : ∀ z, setR (iE z) 0 P.c3 = P.c3 := fun _ => rfl
  have ok3 : P.c3.all okCell = true := rfl
  have tk3 : P.c3.take 2 = P.c3 := rfl
  unfold lftZ
  generalize awx a b = X0 at *
  generalize awy a b = X1 at *
  generalize awz a b = X2 at *
  generalize awx a x = Y0 at *
  generalize awy a x = Y1 at *
  generalize awz a x = Y2 at *
  generalize P.c1 ++ P.c2 ++ P.c3 = P6 at *
  generalize P.c1 = pc1 at *
  generalize P.c2 = pc2 at *
  generalize P.c3 = pc3 at *
  generalize P.x = px at *
  generalize P.y = py at *
  generalize P.z = pz at *
  generalize P.cells = CP at *
  generalize a.cells = CA at *
  generalize b.cells = CB at *
  generalize x.cells = CX at *
  have a0 := (IC.iE u1).mul (IC.iE v2) (by omega) (by omega)
  have b0 := (IC.iE u2).mul (IC.iE v1) (by omega) (by omega)
  have c0l := u1.mul v2 (k := 4000002) (by omega)
  have d0l := u2.mul v1 (k := 4000002) (by omega)
  have s0 := (IC.iE c0l).sub (IC.iE d0l) (by omega) (by omega)
  have f0 := c0l.sub d0l (k := 4000003) (by omega)
  have m0 := p1.mul (IC.iE f0) (by omega) (by omega)
  have n0 := p1.lb.mul f0 (k := 5000003) (by omega)
  have t0 := (IC.iE (LB.zero)).add (IC.iE n0) (by omega) (by omega)
  have r0 := LB.add (LB.zero) n0 (k := 5000004) (by omega)
  have a1 := (IC.iE u2).mul (IC.iE v0) (by omega) (by omega)
  have b1 := (IC.iE u0).mul (IC.iE v2) (by omega) (by omega)
  have c1l := u2.mul v0 (k := 4000002) (by omega)
  have d1l := u0.mul v2 (k := 4000002) (by omega)
  have s1 := (IC.iE c1l).sub (IC.iE d1l) (by omega) (by omega)
  have f1 := c1l.sub d1l (k := 4000003) (by omega)
  have m1 := p2.mul (IC.iE f1) (by omega) (by omega)
  have n1 := p2.lb.mul f1 (k := 5000003) (by omega)
  have t1 := (IC.iE (r0)).add (IC.iE n1) (by omega) (by omega)
  have r1 := LB.add (r0) n1 (k := 5000005) (by omega)
  have a2 := (IC.iE u0).mul (IC.iE v1) (by omega) (by omega)
  have b2 := (IC.iE u1).mul (IC.iE v0) (by omega) (by omega)
  have c2l := u0.mul v1 (k := 4000002) (by omega)
  have d2l := u1.mul v0 (k := 4000002) (by omega)
  have s2 := (IC.iE c2l).sub (IC.iE d2l) (by omega) (by omega)
  have f2 := c2l.sub d2l (k := 4000003) (by omega)
  have m2 := p3.mul (IC.iE f2) (by omega) (by omega)
  have n2 := p3.lb.mul f2 (k := 5000003) (by omega)
  have t2 := (IC.iE (r1)).add (IC.iE n2) (by omega) (by omega)
  have r2 := LB.add (r1) n2 (k := 5000006) (by omega)
  have sg := (IC.iE r2).sign (by omega)
  have i0 : iE 0 = [.bool false, .string ⟨⟨[]⟩⟩] := by unfold iE; rw [show Int.natAbs 0 = 0 from rfl, bl_zero]; rfl
  have w0 : IntKind.i64.wrap 0 = 0 := i64_in _ (by omega)
  have w1 : IntKind.i64.wrap 1 = 1 := i64_in _ (by omega)
  have w2 : IntKind.i64.wrap 2 = 2 := i64_in _ (by omega)
  have w3 : IntKind.i64.wrap 3 = 3 := i64_in _ (by omega)
  have w4 : IntKind.i64.wrap 4 = 4 := i64_in _ (by omega)
  have r1 : Int.tmod 1 3 = 1 := rfl
  have r2 : Int.tmod 2 3 = 2 := rfl
  have r3 : Int.tmod 3 3 = 0 := rfl
  have r4 : Int.tmod 4 3 = 1 := rfl
  simp only [c52, G0, Nat.reduceAdd]
  simp only [↓R0, R1, simprocAttr, -Int.reduceAbs, setR_length, gp1, gp2, gp3, lp, la, lb, lx, tp, ta, tb, tx, x1, x2, x3, k1, k2, i3E_len, i3E_ok, i3E_tk, i3E_st, bld, iE_len, iE_ok, iE_tk, st2, st2']
  refine lp_step ?_
  simp only [↓R0, R1, simprocAttr, -Int.reduceAbs, so1, so2, so3, ok1, ok2, ok3, tk1, tk2, tk3, setR_length, hl, h0, h2, h4, x1, x2, x3, i3E_len, i3E_ok, i3E_g0, i3E_g1, i3E_g2, iE_len, iE_ok, iE_tk, st2, st2', w0, w1, w2, w3, w4, r1, r2, r3, r4, ← i0, a0, b0, s0, m0, t0]
  refine lp_step ?_
  simp only [↓R0, R1, simprocAttr, -Int.reduceAbs, so1, so2, so3, ok1, ok2, ok3, tk1, tk2, tk3, setR_length, hl, h0, h2, h4, x1, x2, x3, i3E_len, i3E_ok, i3E_g0, i3E_g1, i3E_g2, iE_len, iE_ok, iE_tk, st2, st2', w0, w1, w2, w3, w4, r1, r2, r3, r4, ← i0, a1, b1, s1, m1, t1]
  refine lp_step ?_
  simp only [↓R0, R1, simprocAttr, -Int.reduceAbs, so1, so2, so3, ok1, ok2, ok3, tk1, tk2, tk3, setR_length, hl, h0, h2, h4, x1, x2, x3, i3E_len, i3E_ok, i3E_g0, i3E_g1, i3E_g2, iE_len, iE_ok, iE_tk, st2, st2', w0, w1, w2, w3, w4, r1, r2, r3, r4, ← i0, a2, b2, s2, m2, t2]
  refine lp_step ?_
  simp only [↓R0, R1, simprocAttr, -Int.reduceAbs, so1, so2, so3, ok1, ok2, ok3, tk1, tk2, tk3, setR_length, hl, h0, h2, h4, x1, x2, x3, i3E_len, i3E_ok, i3E_g0, i3E_g1, i3E_g2, iE_len, iE_ok, iE_tk, st2, st2', w0, w1, w2, w3, w4, r1, r2, r3, r4, ← i0, sg, Fin, isEnd, resL, res1]
  exact ⟨_, rfl, rfl, fun k hk => by simp only [ne_nb hk, if_false]⟩
end Go.Eng
end
section
set_option linter.unusedVariables false
set_option linter.unusedSimpArgs false
set_option linter.unusedSectionVars false
namespace Go.Eng
def lay (sz : Nat) (h : Heap) : Value → Option (List Value)
  | .slice none 0 0 => some []
  | .slice (some ⟨_, _, some _⟩) 0 0 => some []
  | .slice (some ⟨k, off, none⟩) len cap => match hget h k with
    | some blk => if len ≤ cap ∧ off + len * sz ≤ blk.cells.length then some ((blk.cells.drop off).take (len * sz)) else none
    | none => none
  | _ => none
theorem lay_mono {sz : Nat} {h h' : Heap} {v : Value} {cs : List Value} (hl : hle h h') (e : lay sz h v = some cs) : lay sz h' v = some cs := by
  unfold lay at e ⊢
  split at e
  · exact e
  · exact e
  · split at e
    · rename_i blk hb
      simp only [hl _ _ hb]; exact e
    · cases e
  · cases e
theorem lay_len {sz : Nat} {h : Heap} {v : Value} {cs : List Value} (e : lay sz h v = some cs) : ∃ a l c, v = .slice a l c ∧ cs.length = l * sz := by
  unfold lay at e
  split at e
  · cases e; exact ⟨none, 0, 0, rfl, by simp⟩
  · cases e; exact ⟨_, 0, 0, rfl, by simp⟩
  · rename_i k off len cap
    split at e
    · split at e
      · rename_i hc
        cases e
        exact ⟨_, len, cap, rfl, by rw [List.length_take, List.length_drop]; omega⟩
      · cases e
    · cases e
  · cases e
theorem lay_pos {sz : Nat} {h : Heap} {a : Option Addr} {l c : Nat} {cs : List Value} (e : lay sz h (.slice a l c) = some cs) (hl : 0 < l) :
    ∃ k off blk, a = some ⟨k, off, none⟩ ∧ hget h k = some blk ∧ l ≤ c ∧ off + l * sz ≤ blk.cells.length ∧ cs = (blk.cells.drop off).take (l * sz) := by
  unfold lay at e
  split at e
  · rename_i e1; cases e1; omega
  · rename_i e1; cases e1; omega
  · rename_i k off len cap e1
    cases e1
    split at e
    · rename_i blk hb
      split at e
      · rename_i hc
        cases e
        exact ⟨k, off, blk, rfl, hb, hc.1, hc.2, rfl⟩
      · cases e
    · cases e
  · cases e
def many {α : Type} (sz : Nat) (dec : List Value → Option α) : Nat → List Value → Option (List α)
  | 0, _ => some []
  | n + 1, cs => match dec (cs.take sz), many sz dec n (cs.drop sz) with
    | some a, some r => some (a :: r)
    | _, _ => none
theorem many_get {α : Type} {sz : Nat} {dec : List Value → Option α} : ∀ {n : Nat} {cs : List Value} {xs : List α}, many sz dec n cs = some xs → xs.length = n ∧ ∀ (i : Nat) (x : α), xs[i]? = some x → dec ((cs.drop (i * sz)).take sz) = some x
  | 0, cs, xs, e => by simp [many] at e; subst e; simp
  | n + 1, cs, xs, e => by
    unfold many at e
    split at e
    · rename_i a r h1 h2
      cases e
      obtain ⟨g1, g2⟩ := many_get h2
      refine ⟨by simp [g1], fun i x hx => ?_⟩
      cases i with
      | zero => simp at hx; subst hx; simpa using h1
      | succ i =>
        have := g2 i x (by simpa using hx)
        rw [List.drop_drop] at this
        rw [Nat.succ_mul, Nat.add_comm (i * sz) sz]; exact this
    · cases e
theorem many_some {α : Type} {sz : Nat} {dec : List Value → Option α} : ∀ {n : Nat} {cs : List Value} {xs : List α}, xs.length = n → (∀ (i : Nat) (x : α), xs[i]? = some x → dec ((cs.drop (i * sz)).take sz) = some x) → many sz dec n cs = some xs
  | 0, cs, xs, e, _ => by
    have := List.length_eq_zero_iff.1 e; subst this; rfl
  | n + 1, cs, [], e, _ => by simp at e
  | n + 1, cs, x :: xs, e, h => by
    unfold many
    have h0 := h 0 x rfl
    simp only [Nat.zero_mul, List.drop_zero] at h0
    have hr := many_some (n := n) (cs := cs.drop sz) (xs := xs) (by simpa using e) (fun i y hy => by
      have := h (i + 1) y (by simpa using hy)
      rw [Nat.succ_mul, Nat.add_comm (i * sz) sz, ← List.drop_drop] at this
      exact this)
    rw [h0, hr]
theorem many_mono {α : Type} {sz : Nat} {dec dec' : List Value → Option α} (hd : ∀ cs a, dec cs = some a → dec' cs = some a) {n : Nat} {cs : List Value} {xs : List α} (e : many sz dec n cs = some xs) : many sz dec' n cs = some xs := by
  obtain ⟨h1, h2⟩ := many_get e
  exact many_some h1 (fun i x hx => hd _ _ (h2 i x hx))
def slen : Value → Nat
  | .slice _ l _ => l
  | _ => 0
def listAt {α : Type} (sz : Nat) (dec : List Value → Option α) (h : Heap) (v : Value) : Option (List α) := (lay sz h v).bind (many sz dec (slen v))
theorem listAt_mono {α : Type} {sz : Nat} {dec dec' : List Value → Option α} {h h' : Heap} {v : Value} {xs : List α} (hl : hle h h') (hd : ∀ cs a, dec cs = some a → dec' cs = some a) (e : listAt sz dec h v = some xs) : listAt sz dec' h' v = some xs := by
  unfold listAt at e ⊢
  rw [Option.bind_eq_some_iff] at e ⊢
  obtain ⟨cs, e1, e2⟩ := e
  exact ⟨cs, lay_mono hl e1, many_mono hd e2⟩
theorem listAt_sl {α : Type} {sz : Nat} {dec : List Value → Option α} {h : Heap} {v : Value} {xs : List α} (e : listAt sz dec h v = some xs) : ∃ a c, v = .slice a xs.length c := by
  unfold listAt at e
  rw [Option.bind_eq_some_iff] at e
  obtain ⟨cs, e1, e2⟩ := e
  obtain ⟨a, l, c, rfl, _⟩ := lay_len e1
  have := (many_get e2).1
  exact ⟨a, c, by rw [this]; rfl⟩
theorem listAt_get {α : Type} {sz : Nat} {dec : List Value → Option α} {h : Heap} {a : Option Addr} {c : Nat} {xs : List α} {l : Nat} (e : listAt sz dec h (.slice a l c) = some xs) (hp : 0 < l) :
    ∃ k off blk, a = some ⟨k, off, none⟩ ∧ hget h k = some blk ∧ l ≤ c ∧ off + l * sz ≤ blk.cells.length ∧ ∀ i x, xs[i]? = some x → off + i * sz + sz ≤ blk.cells.length ∧ dec ((blk.cells.drop (off + i * sz)).take sz) = some x := by
  unfold listAt at e
  rw [Option.bind_eq_some_iff] at e
  obtain ⟨cs, e1, e2⟩ := e
  obtain ⟨h1, h2⟩ := many_get e2
  simp only [slen] at h1
  obtain ⟨k, off, blk, rfl, hb, hc, hle, rfl⟩ := lay_pos e1 hp
  refine ⟨k, off, blk, rfl, hb, hc, hle, fun i x hx => ?_⟩
  have hi : i < l := by rw [← h1]; exact (List.getElem?_eq_some_iff.1 hx).1
  have hm : i * sz + sz ≤ l * sz := by rw [← Nat.succ_mul]; exact Nat.mul_le_mul_right _ hi
  have := h2 i x hx
  rw [List.drop_take, List.take_take, Nat.min_eq_left (by omega), List.drop_drop] at this
  exact ⟨by omega, this⟩
structure NewL where
  m : Nat
  val : (Nat → Nat) → Value
  elem : Nat → Nat
  sz : Nat → Nat
  cells : (Nat → Nat) → Nat → List Value
structure NewL.Par (r : NewL) (h : Heap) : Prop where
  val : ∀ (β : Emb) (σ σ' : Nat → Nat), (∀ i, i < r.m → β (σ i) = some ⟨σ' i, 0, []⟩) → (∀ k, hget h k ≠ none → β k = some ⟨k, 0, []⟩) → VR β (r.val σ) (r.val σ')
  cells : ∀ (β : Emb) (σ σ' : Nat → Nat), (∀ i, i < r.m → β (σ i) = some ⟨σ' i, 0, []⟩) → (∀ k, hget h k ≠ none → β k = some ⟨k, 0, []⟩) → ∀ i, i < r.m → VRs β (r.cells σ i) (r.cells σ' i)
def newH (r : NewL) (σ : Nat → Nat) : Nat → Heap
  | 0 => []
  | i + 1 => (σ i, some ⟨r.elem i, r.sz i, false, r.cells σ i⟩) :: newH r σ i
theorem newH_old {r : NewL} {σ : Nat → Nat} {h : Heap} {k : Nat} : ∀ m, (∀ i, i < m → σ i ≠ k) → hget (newH r σ m ++ h) k = hget h k
  | 0, _ => rfl
  | m + 1, hk => by
    simp only [newH, List.cons_append, hget]
    rw [if_neg (hk m (by omega))]
    exact newH_old m (fun i hi => hk i (by omega))
theorem newH_get {r : NewL} {σ : Nat → Nat} {h : Heap} : ∀ m, (∀ i j, i < m → j < m → σ i = σ j → i = j) → ∀ i, i < m → hget (newH r σ m ++ h) (σ i) = some ⟨r.elem i, r.sz i, false, r.cells σ i⟩
  | 0, _, i, hi => by omega
  | m + 1, inj, i, hi => by
    simp only [newH, List.cons_append, hget]
    by_cases e : σ m = σ i
    · have := inj m i (by omega) hi e
      subst this; simp
    · rw [if_neg e]
      have : i ≠ m := fun h => e (by rw [h])
      exact newH_get m (fun a b ha hb => inj a b (by omega) (by omega)) i (by omega)
def nwL (F : List Value → Heap → Option NewL) : Spec := fun args h n => (F args h).map fun r => (r.val (n + ·), newH r (n + ·) r.m, r.m)
def FinL (res : List IRes) (r : NewL) (h : Heap) (N : Nat) (e : IExit) (s : St) : Prop :=
  isEnd e ∧ ∃ (σ : Nat → Nat) (vs : List Value), (∀ i, i < r.m → N ≤ σ i) ∧ (∀ i j, i < r.m → j < r.m → σ i = σ j → i = j) ∧ resL s res = some vs ∧ one vs = r.val σ ∧
    (∀ i, i < r.m → ∃ x, hget s.hp (σ i) = some ⟨r.elem i, r.sz i, x, r.cells σ i⟩) ∧ ∀ k, k < N → hget s.hp k = hget h k
theorem iotaL {n m N : Nat} {σ : Nat → Nat} (k : Nat) : iotaE ((List.range m).map fun i => (n + i, σ i)) N k = if n ≤ k ∧ k < n + m then some ⟨σ (k - n), 0, []⟩ else if k < N then some ⟨k, 0, []⟩ else none := by
  unfold iotaE
  by_cases c : n ≤ k ∧ k < n + m
  · have hf : ((List.range m).map fun i => (n + i, σ i)).find? (fun p => p.1 == k) = some (k, σ (k - n)) := by
      rw [List.find?_map]
      have : (List.range m).find? ((fun p : Nat × Nat => p.1 == k) ∘ fun i => (n + i, σ i)) = some (k - n) := by
        rw [List.find?_range_eq_some]
        refine ⟨by simp; omega, by simp; omega, fun j hj => by simp; omega⟩
      rw [this]; simp; omega
    rw [hf, if_pos c]
  · have hf : ((List.range m).map fun i => (n + i, σ i)).find? (fun p => p.1 == k) = none := by
      rw [List.find?_eq_none]
      intro p hp
      simp only [List.mem_map, List.mem_range] at hp
      obtain ⟨i, hi, rfl⟩ := hp
      simp; omega
    rw [hf, if_neg c]
theorem newL_run {P : Program} {E : Env} (hE : EnvOK P E) (hm : P.follows .mixedOrders = true) {f : Nat} {nt : Nat} {res : List IRes} {c : ICode} (ht : trFun P f = some ⟨nt, res, c⟩) {F : List Value → Heap → Option NewL}
    (mono : ∀ args h h' r, hle h h' → F args h = some r → F args h' = some r)
    (hrun : ∀ args h N r, F args h = some r → (∀ k b, hget h k = some b → k < N) → r.Par h ∧ args.length ≤ nt ∧ wpI E c (FinL res r h N) ⟨initT args, h, N + 0⟩) : SpecOK P f (nwL F) := by
  refine spec_ok hE hm ht ?_ ?_
  · intro args h h' n o hl e
    simp only [nwL, Option.map_eq_some_iff] at e ⊢
    obtain ⟨v, e1, e2⟩ := e
    exact ⟨v, mono args h h' v hl e1, e2⟩
  · intro args h n v δ m N e hn hN hfr
    simp only [nwL, Option.map_eq_some_iff, Prod.mk.injEq] at e
    obtain ⟨r, e1, rfl, rfl, rfl⟩ := e
    obtain ⟨par, h2, h3⟩ := hrun args h N r e1 hN
    refine ⟨h2, wpI_mono _ ?_ h3⟩
    rintro e s ⟨he, σ, vs, hσ, hinj, hvs, hvk, hblk, hh⟩
    have b1 : ∀ i, i < r.m → iotaE ((List.range r.m).map fun i => (n + i, σ i)) N (n + i) = some ⟨σ i, 0, []⟩ := fun i hi => by
      rw [iotaL, if_pos ⟨by omega, by omega⟩, Nat.add_sub_cancel_left]
    have b2 : ∀ k, hget h k ≠ none → iotaE ((List.range r.m).map fun i => (n + i, σ i)) N k = some ⟨k, 0, []⟩ := fun k hk => by
      have hlt : k < N := by
        cases e : hget h k with
        | none => exact absurd e hk
        | some b => exact hN k b e
      rw [iotaL, if_neg (fun c => hk (hfr k c.1 c.2)), if_pos hlt]
    refine ⟨he, vs, hvs, (List.range r.m).map fun i => (n + i, σ i), ?_, ?_, ?_, ?_⟩
    · intro p hp
      simp only [List.mem_map, List.mem_range] at hp
      obtain ⟨i, hi, rfl⟩ := hp
      simp only; omega
    · rw [hvk]; exact par.val _ _ _ b1 b2
    · intro k blk e
      by_cases c : n ≤ k ∧ k < n + r.m
      · obtain ⟨i, rfl⟩ : ∃ i, k = n + i := ⟨k - n, by omega⟩
        have hi : i < r.m := by omega
        rw [newH_get r.m (fun a b _ _ e => by simpa using e) i hi] at e
        cases e
        obtain ⟨x, hx⟩ := hblk i hi
        exact .inr ⟨_, _, b1 i hi, hx, rfl, rfl, (fun h => by cases h), par.cells _ _ _ b1 b2 i hi⟩
      · rw [newH_old r.m (fun i hi e => c (by omega))] at e
        have hlt := hN k blk e
        exact .inl ⟨hlt, e, by rw [hh k hlt]; exact e⟩
    · intro k1 k2 L1 L2 a1 a2 c1 c2 e
      rw [iotaL] at c1 c2
      by_cases d1 : n ≤ k1 ∧ k1 < n + r.m
      · rw [if_pos d1] at c1; cases c1
        by_cases d2 : n ≤ k2 ∧ k2 < n + r.m
        · rw [if_pos d2] at c2; cases c2
          have := hinj (k1 - n) (k2 - n) (by omega) (by omega) e
          omega
        · rw [if_neg d2] at c2
          split at c2
          · cases c2
            have := hσ (k1 - n) (by omega)
            simp only at e; omega
          · cases c2
      · rw [if_neg d1] at c1
        split at c1
        · cases c1
          by_cases d2 : n ≤ k2 ∧ k2 < n + r.m
          · rw [if_pos d2] at c2; cases c2
            have := hσ (k2 - n) (by omega)
            simp only at e; omega
          · rw [if_neg d2] at c2
            split at c2
            · cases c2; exact e
            · cases c2
        · cases c1
end Go.Eng
end
section
set_option linter.unusedVariables false
set_option linter.unusedSimpArgs false
set_option linter.unusedSectionVars false
set_option maxRecDepth 20000
namespace Go.Eng
open Go Go.Proofs Go.IntWalk
def pc9 (P : Pt) (sl : Value) : List Value := P.cells ++ [sl]
theorem pc9_len (P : Pt) (sl : Value) : (pc9 P sl).length = 9 := rfl
theorem pc9_tk (P : Pt) (sl : Value) : (pc9 P sl).take 9 = pc9 P sl := rfl
theorem pc9_g (P : Pt) (sl : Value) : (pc9 P sl).take 8 = P.cells := rfl
theorem pc9_s (P : Pt) (sl : Value) : (pc9 P sl)[8]? = some sl := rfl
def decPoly (h : Heap) : List Value → Option (Pt × List Pt)
  | [.bool s1, .string ⟨⟨l1⟩⟩, .bool s2, .string ⟨⟨l2⟩⟩, .bool s3, .string ⟨⟨l3⟩⟩, .bool s4, .string ⟨⟨l4⟩⟩, sl] => match listAt 8 decP h sl with
    | some l => some (⟨s1, l1, s2, l2, s3, l3, s4, l4⟩, l)
    | none => none
  | _ => none
theorem decPoly_eq {h : Heap} {cs : List Value} {P : Pt} {l : List Pt} (e : decPoly h cs = some (P, l)) : ∃ sl, cs = pc9 P sl ∧ listAt 8 decP h sl = some l := by
  unfold decPoly at e
  split at e
  · rename_i s1 l1 s2 l2 s3 l3 s4 l4 sl
    split at e
    · rename_i l' hl
      cases e
      exact ⟨sl, rfl, hl⟩
    · cases e
  · cases e
theorem decPoly_of {h : Heap} {P : Pt} {sl : Value} {l : List Pt} (e : listAt 8 decP h sl = some l) : decPoly h (pc9 P sl) = some (P, l) := by
  unfold decPoly pc9 Pt.cells
  simp only [List.cons_append, List.nil_append, e]
theorem decPoly_mono {h h' : Heap} (hl : hle h h') {cs : List Value} {x : Pt × List Pt} (e : decPoly h cs = some x) : decPoly h' cs = some x := by
  obtain ⟨P, l⟩ := x
  obtain ⟨sl, rfl, hs⟩ := decPoly_eq e
  exact decPoly_of (listAt_mono hl (fun _ _ h => h) hs)
theorem vert_at {h : Heap} {a : Option Addr} {c : Nat} {l : List Pt} {i : Nat} (e : listAt 8 decP h (.slice a l.length c) = some l) (hi : i < l.length) :
    ∃ k off blk, a = some ⟨k, off, none⟩ ∧ hget h k = some blk ∧ off + i * 8 + 8 ≤ blk.cells.length ∧ (blk.cells.drop (off + i * 8)).take 8 = (ptAt l i).cells := by
  obtain ⟨k, off, blk, ea, hb, _, _, hat⟩ := listAt_get e (by omega)
  obtain ⟨h1, h2⟩ := hat i _ (ptAt_some hi)
  exact ⟨k, off, blk, ea, hb, h1, decP_eq h2⟩
def spPnext : List Value → Option Value
  | [.agg ⟨[.bool _, .string _, .bool _, .string _, .bool _, .string _, .bool _, .string _, .slice _ l _]⟩, .int .i64 i] => if 0 ≤ i ∧ i < (l : Int) ∧ l ≤ 1000000 then some (.int .i64 (((i.toNat + 1) % l : Nat) : Int)) else none
  | _ => none
def c43 : ICode :=
  (.seq (.reg [qq 2 (.box 28 9 (.t 0)), qq 4 (.mv (ci 0))]) (.seq (.reg [qq 5 (.mv (.t 1)), qq 6 (.bin .add (.t 5) (ci 1)), qq 7 (.faddr 8 (.t 2)), qq 8 (.load false 1 (.t 7)), qq 9 (.lensl (.t 8)), qq 10 (.bin .rem (.t 6) (.t 9)), qq 4 (.mv (.t 10))]) .ret))
theorem tr43 : trFun Tryz.prog 43 = some ⟨11, [.t 4], c43⟩ := by kernel_rfl
theorem ok_Pnext : SpecOK Tryz.prog 43 (flat spPnext) := by
  refine flat_run (env_nil _) mixed tr43 ?_
  intro args v h N hG
  unfold spPnext at hG
  split at hG
  case h_2 => cases hG
  rename_i a1 a2 a3 a4 a5 a6 a7 a8 a l c i
  split at hG
  case isFalse => cases hG
  rename_i hl
  obtain ⟨h0, h1, h2⟩ := hl
  obtain ⟨i, rfl⟩ := Int.eq_ofNat_of_zero_le h0
  simp only [Int.toNat_natCast] at hG
  cases hG
  refine ⟨rfl, by simp, ?_⟩
  have e1 : IntKind.i64.wrap ((i : Int) + 1) = ((i + 1 : Nat) : Int) := by rw [i64_in _ (by omega)]; omega
  have e2 : Int.tmod ((i + 1 : Nat) : Int) (l : Int) = (((i + 1) % l : Nat) : Int) := by rw [Int.tmod_eq_emod_of_nonneg (by omega)]; rfl
  have e3 : ((l : Int) = 0) = False := eq_false (by omega)
  have e4 : (l = 0) = False := eq_false (by omega)
  simp only [c43, G0, Nat.reduceAdd]
  simp only [↓R0, R1, simprocAttr, -Int.reduceAbs, e1, e2, e3, e4, Fin, isEnd, resL, res1, iE, rE]
  exact ⟨_, rfl, rfl, fun k hk => by simp only [ne_nb hk, if_false]⟩
theorem next_of {P : Pt} {a : Option Addr} {n c i : Nat} (hi : i < n) (hn : n ≤ 1000000) : spPnext [.agg ⟨pc9 P (.slice a n c)⟩, .int .i64 (i : Nat)] = some (.int .i64 (((i + 1) % n : Nat) : Int)) := by
  unfold spPnext pc9 Pt.cells
  simp only [List.cons_append, List.nil_append]
  rw [if_pos ⟨by omega, by omega, hn⟩, Int.toNat_natCast]
def polySz (k : Nat) (P : Pt) (l : List Pt) : Prop := P.sz k ∧ (∀ p ∈ l, p.sz k) ∧ l.length ≤ 1000
instance {k : Nat} {P : Pt} {l : List Pt} : Decidable (polySz k P l) := by unfold polySz; infer_instance
theorem polySz.at {k : Nat} {P : Pt} {l : List Pt} (h : polySz k P l) {i : Nat} (hi : i < l.length) : (ptAt l i).sz k := h.2.1 _ (ptAt_mem hi)
def spPturns : List Value → Heap → Option Value
  | [.agg ⟨cs⟩], h => match decPoly h cs with
    | some (P, l) => if polySz 1000000 P l then some (.bool (decide (turnsP P l))) else none
    | none => none
  | _, _ => none
def c37 : ICode :=
  (.seq (.reg [qq 1 (.box 28 9 (.t 0)), qq 2 (.mv (.c (.bool false)))]) (.seq (.seq (.reg [qq 8 (.faddr 8 (.t 1)), qq 9 (.load false 1 (.t 8)), qq 10 (.lensl (.t 9)), qq 11 (.mv (ci 0))]) (.block 0 (.loop (.seq (.reg [qq 12 (.bin .lss (.t 11) (.t 10))]) (.seq (.cond (.t 12) .skip (.exit 0)) (.seq (.block 1 (.seq (.reg [qq 13 (.mv (.t 11)), qq 14 (.ixsl 8 (.t 9) (.t 11)), qq 15 (.load true 8 (.t 14)), qq 4 (.alloc 41 8 [(.bool false), e0, (.bool false), e0, (.bool false), e0, (.bool false), e0]), qq 3 (.mv (.t 13)), qn (.store 8 (.t 4) (.t 15))]) (.seq (.reg [qq 16 (.load true 9 (.t 1)), qq 17 (.mv (.t 3)), qq 18 (.call 43 [(.t 16), (.t 17)]), qq 5 (.mv (.t 18))]) (.seq (.reg [qq 19 (.faddr 8 (.t 1)), qq 20 (.load false 1 (.t 19)), qq 21 (.lensl (.t 20)), qq 22 (.mv (ci 0))]) (.block 2 (.loop (.seq (.reg [qq 23 (.bin .lss (.t 22) (.t 21))]) (.seq (.cond (.t 23) .skip (.exit 2)) (.seq (.block 3 (.seq (.reg [qq 24 (.mv (.t 22)), qq 25 (.ixsl 8 (.t 20) (.t 22)), qq 26 (.load true 8 (.t 25)), qq 7 (.alloc 41 8 [(.bool false), e0, (.bool false), e0, (.bool false), e0, (.bool false), e0]), qq 6 (.mv (.t 24)), qn (.store 8 (.t 7) (.t 26))]) (.seq (.dreg [qu 27 (.mv (.t 6)), qu 28 (.mv (.t 3)), qu 29 (.bin .neq (.t 27) (.t 28)), qu 30 (.mv (.t 29)), ⟨(some 31), (some (30, true)), [], (.mv (.t 6))⟩, ⟨(some 32), (some (30, true)), [], (.mv (.t 5))⟩, ⟨(some 33), (some (30, true)), [], (.bin .neq (.t 31) (.t 32))⟩, qu 34 (.pick (.t 30) (.t 33) (.c (.bool false))), qu 35 (.mv (.t 34)), ⟨(some 36), (some (35, true)), [], (.faddr 0 (.t 1))⟩, ⟨(some 37), (some (35, true)), [], (.load true 8 (.t 36))⟩, ⟨(some 38), (some (35, true)), [], (.load true 8 (.t 4))⟩, ⟨(some 39), (some (35, true)), [], (.faddr 8 (.t 1))⟩, ⟨(some 40), (some (35, true)), [], (.load false 1 (.t 39))⟩, ⟨(some 41), (some (35, true)), [], (.mv (.t 5))⟩, ⟨(some 42), (some (35, true)), [], (.ixsl 8 (.t 40) (.t 41))⟩, ⟨(some 43), (some (35, true)), [], (.load true 8 (.t 42))⟩, ⟨(some 44), (some (35, true)), [], (.load true 8 (.t 7))⟩, ⟨(some 45), (some (35, true)), [], (.call 52 [(.t 37), (.t 38), (.t 43), (.t 44)])⟩, ⟨(some 46), (some (35, true)), [], (.bin .leq (.t 45) (ci 0))⟩, qu 47 (.pick (.t 35) (.t 46) (.c (.bool false)))]) (.cond (.t 47) (.seq (.reg [qq 2 (.mv (.c (.bool false)))]) .ret) .skip)))) (.reg [qq 48 (.bin .add (.t 22) (ci 1)), qq 22 (.mv (.t 48))])))))))))) (.reg [qq 49 (.bin .add (.t 11) (ci 1)), qq 11 (.mv (.t 49))]))))))) (.seq (.reg [qq 2 (.mv (.c (.bool true)))]) .ret)))
theorem tr37 : trFun Tryz.prog 37 = some ⟨50, [.t 2], c37⟩ := by kernel_rfl
set_option maxHeartbeats 2000000 in
theorem ok_Pturns : SpecOK Tryz.prog 37 (rdS spPturns) := by
  refine rd_run (env_cons ok_Pnext (env_cons ok_Pleft (env_nil _))) mixed tr37 ?_ ?_
  · intro args h h' v hle e
    unfold spPturns at e ⊢
    split at e
    · rename_i cs
      split at e
      · rename_i P l hb
        simp only [decPoly_mono hle hb]; exact e
      · cases e
    · cases e
  intro args v h N hG hN
  unfold spPturns at hG
  split at hG
  case h_2 => cases hG
  rename_i cs
  split at hG
  case h_2 => cases hG
  rename_i P l hx
  split at hG
  case isFalse => cases hG
  rename_i hs
  cases hG
  obtain ⟨sl, rfl, hx'⟩ := decPoly_eq hx
  clear hx
  rename listAt 8 decP h sl = some l => hx
  obtain ⟨a, c, rfl⟩ := listAt_sl hx
  have hn3 := hs.2.2
  refine ⟨by rfl, by simp, ?_⟩
  have c9 := pc9_s P (.slice a l.length c)
  have l9 := pc9_len P (.slice a l.length c)
  have t9 := pc9_tk P (.slice a l.length c)
  have g9 := pc9_g P (.slice a l.length c)
  have nx9 : ∀ i, i < l.length → spPnext [.agg ⟨pc9 P (.slice a l.length c)⟩, .int .i64 (i : Nat)] = some (.int .i64 (((i + 1) % l.length : Nat) : Int)) := fun i hi => next_of hi (by omega)
  generalize pc9 P (.slice a l.length c) = C9 at *
  simp only [c37, G0, Nat.reduceAdd]
  simp only [↓R0, R1, simprocAttr, -Int.reduceAbs, l9, c9]
  refine lp_parts (fun n tm hp nx => ∃ (i M : Nat), n + i = l.length ∧ tmget tm 9 = .slice a l.length c ∧ tmget tm 10 = .int .i64 l.length ∧ tmget tm 11 = .int .i64 i ∧ tmget tm 1 = .pointer (some ⟨N + 0, 0, none⟩) ∧
      hget hp (N + 0) = some ⟨28, 9, true, C9⟩ ∧ (∀ i', i' < i → ∀ j, j < l.length → j ≠ i' → j ≠ (i' + 1) % l.length → 0 < lftZ P (ptAt l i') (ptAt l ((i' + 1) % l.length)) (ptAt l j)) ∧ (∀ q, q < N → hget hp q = hget h q) ∧ N + 1 ≤ M ∧ nx = M + 0) ?_ l.length
    ⟨0, N + 1, by omega, ?_, ?_, ?_, ?_, ?_, fun i hi => by omega, ?_, Nat.le_refl _, rfl⟩
  · rintro n tm hp nx ⟨i, M, hn, t9', t10, t11, t1, b0, hall, hh, hM, hnx⟩
    rw [hnx]
    clear hnx nx
    by_cases c1 : i < l.length
    · obtain ⟨k, off, blk, ea, hb, q1, q2⟩ := vert_at hx c1
      subst ea
      have hk := hN _ _ hb
      have hbb : hget hp k = some blk := by rw [hh k hk]; exact hb
      have nk : ∀ j, (M + j = k) = False := fun j => eq_false (by omega)
      have n0 : ∀ j, (M + j = N + 0) = False := fun j => eq_false (by omega)
      have c1' : ((i : Int) < (l.length : Int)) = True := eq_true (by omega)
      have e1 := nx9 i c1
      have w1 : IntKind.i64.wrap ((i : Int) + 1) = ((i + 1 : Nat) : Int) := by rw [i64_in _ (by omega)]; omega
      have hi1 : (i + 1) % l.length < l.length := Nat.mod_lt _ (by omega)
      obtain ⟨A, eA⟩ : ∃ A, ptAt l i = A := ⟨_, rfl⟩
      rw [eA] at q2
      have aA := A.len8; have oA := A.ok8; have tA := A.tk8
      have stA : setR [.bool false, .string ⟨⟨[]⟩⟩, .bool false, .string ⟨⟨[]⟩⟩, .bool false, .string ⟨⟨[]⟩⟩, .bool false, .string ⟨⟨[]⟩⟩] 0 A.cells = A.cells := rfl
      simp only [↓R0, R1, simprocAttr, -Int.reduceAbs, t9', t10, t11, t1, b0, c1, c1', nk, n0, hbb, q1, q2, aA, oA, tA, stA, l9, t9, c9, e1]
      refine lp_parts (fun n2 tm hp nx => ∃ (j M2 : Nat), n2 + j = l.length ∧ tmget tm 20 = .slice (some ⟨k, off, none⟩) l.length c ∧ tmget tm 21 = .int .i64 l.length ∧ tmget tm 22 = .int .i64 j ∧ tmget tm 9 = .slice (some ⟨k, off, none⟩) l.length c ∧ tmget tm 10 = .int .i64 l.length ∧ tmget tm 11 = .int .i64 i ∧ tmget tm 1 = .pointer (some ⟨N + 0, 0, none⟩) ∧ tmget tm 3 = .int .i64 i ∧ tmget tm 4 = .pointer (some ⟨M + 0, 0, none⟩) ∧ tmget tm 5 = .int .i64 (((i + 1) % l.length : Nat) : Int) ∧
          hget hp (N + 0) = some ⟨28, 9, true, C9⟩ ∧ hget hp (M + 0) = some ⟨41, 8, true, A.cells⟩ ∧ (∀ j', j' < j → j' ≠ i → j' ≠ (i + 1) % l.length → 0 < lftZ P A (ptAt l ((i + 1) % l.length)) (ptAt l j')) ∧ (∀ q, q < N → hget hp q = hget h q) ∧ M + 1 ≤ M2 ∧ nx = M2 + 0) ?_ l.length
        ⟨0, M + 1, by omega, ?_, ?_, ?_, ?_, ?_, ?_, ?_, ?_, ?_, ?_, ?_, ?_, fun j hj => by omega, ?_, Nat.le_refl _, rfl⟩
      · clear nk n0 hbb hh b0 t9' t10 t11 t1
        rintro n2 tm hp nx ⟨j, M2, hn2, t20, t21, t22, t9', t10, t11, t1, t3, t4, t5, b0, bM, hall2, hh, hM2, hnx⟩
        rw [hnx]
        clear hnx nx
        by_cases d1 : j < l.length
        · have d1' : ((j : Int) < (l.length : Int)) = True := eq_true (by omega)
          have hbb : hget hp k = some blk := by rw [hh k hk]; exact hb
          have nk : ∀ j, (M2 + j = k) = False := fun j => eq_false (by omega)
          have n0 : ∀ j, (M2 + j = N + 0) = False := fun j => eq_false (by omega)
          have nM : ∀ j, (M2 + j = M + 0) = False := fun j => eq_false (by omega)
          have w2 : IntKind.i64.wrap ((j : Int) + 1) = ((j + 1 : Nat) : Int) := by rw [i64_in _ (by omega)]; omega
          obtain ⟨k', off', blk', ea', hb', p1, p2⟩ := vert_at hx d1
          cases ea'
          rw [hb] at hb'; cases hb'
          obtain ⟨X, eX⟩ : ∃ A, ptAt l j = A := ⟨_, rfl⟩
          rw [eX] at p2
          have aX := X.len8; have oX := X.ok8; have tX := X.tk8
          have stX : setR [.bool false, .string ⟨⟨[]⟩⟩, .bool false, .string ⟨⟨[]⟩⟩, .bool false, .string ⟨⟨[]⟩⟩, .bool false, .string ⟨⟨[]⟩⟩] 0 X.cells = X.cells := rfl
          by_cases s1 : j = i
          · have s1' : ((j : Int) = (i : Int)) = True := eq_true (by omega)
            have s1b : (j = i) = True := eq_true s1
            simp only [↓R0, R1, simprocAttr, -Int.reduceAbs, t20, t21, t22, t9', t10, t11, t1, t3, t4, t5, b0, bM, d1, d1', nk, n0, nM, hbb, p1, p2, aX, oX, tX, stX, s1', s1b, w2]
            refine ⟨n2 - 1, by omega, j + 1, M2 + 1, by omega, rfl, fun j' hj' ne1 ne2 => ?_, fun q hq => ?_, by omega, rfl⟩
            · by_cases e : j' = j
              · exact absurd (e.trans s1) ne1
              · exact hall2 j' (by omega) ne1 ne2
            · simp only [show (M2 + 0 = q) = False from eq_false (by omega), if_false]; exact hh q hq
          have s1' : ((j : Int) = (i : Int)) = False := eq_false (by omega)
          have s1b : (j = i) = False := eq_false s1
          by_cases s2 : j = (i + 1) % l.length
          · have s2' : ((j : Int) = (((i + 1) % l.length : Nat) : Int)) = True := eq_true (by omega)
            have s2b : (j = (i + 1) % l.length) = True := eq_true s2
            simp only [↓R0, R1, simprocAttr, -Int.reduceAbs, t20, t21, t22, t9', t10, t11, t1, t3, t4, t5, b0, bM, d1, d1', nk, n0, nM, hbb, p1, p2, aX, oX, tX, stX, s1', s1b, s2', s2b, w2]
            refine ⟨n2 - 1, by omega, j + 1, M2 + 1, by omega, rfl, fun j' hj' ne1 ne2 => ?_, fun q hq => ?_, by omega, rfl⟩
            · by_cases e : j' = j
              · exact absurd (e.trans s2) ne2
              · exact hall2 j' (by omega) ne1 ne2
            · simp only [show (M2 + 0 = q) = False from eq_false (by omega), if_false]; exact hh q hq
          have s2' : ((j : Int) = (((i + 1) % l.length : Nat) : Int)) = False := eq_false (by omega)
          have s2b : (j = (i + 1) % l.length) = False := eq_false s2
          obtain ⟨k', off', blk', ea', hb', r1, r2⟩ := vert_at hx hi1
          cases ea'
          rw [hb] at hb'; cases hb'
          have hi1' : ((((i + 1) % l.length : Nat) : Int) < (l.length : Int)) = True := eq_true (by omega)
          have lf : spPleft [.agg ⟨P.cells⟩, .agg ⟨A.cells⟩, .agg ⟨(ptAt l ((i + 1) % l.length)).cells⟩, .agg ⟨X.cells⟩] = some (.int .i64 (lftZ P A (ptAt l ((i + 1) % l.length)) X).sign) :=
            if_pos ⟨hs.1, eA ▸ hs.at c1, hs.at hi1, eX ▸ hs.at d1⟩
          have aP := P.len8
          obtain ⟨z, ez⟩ : ∃ z, lftZ P A (ptAt l ((i + 1) % l.length)) X = z := ⟨_, rfl⟩
          rw [ez] at lf
          by_cases s3 : 0 < z
          · have s3' : (z.sign ≤ 0) = False := by rw [Int.sign_eq_one_of_pos s3]; decide
            simp only [↓R0, R1, simprocAttr, -Int.reduceAbs, t20, t21, t22, t9', t10, t11, t1, t3, t4, t5, b0, bM, d1, d1', nk, n0, nM, hbb, p1, p2, aX, oX, tX, stX, s1', s1b, s2', s2b, w2, g9, l9, c9, aP, aA, tA, hi1, hi1', r1, r2, lf, s3']
            refine ⟨n2 - 1, by omega, j + 1, M2 + 1, by omega, rfl, fun j' hj' ne1 ne2 => ?_, fun q hq => ?_, by omega, rfl⟩
            · by_cases e : j' = j
              · rw [e, eX, ez]; exact s3
              · exact hall2 j' (by omega) ne1 ne2
            · simp only [show (M2 + 0 = q) = False from eq_false (by omega), if_false]; exact hh q hq
          · have s3' : (z.sign ≤ 0) = True := eq_true (by
              rcases (by omega : z < 0 ∨ z = 0) with h | h
              · rw [Int.sign_eq_neg_one_of_neg h]; decide
              · rw [h]; decide)
            have nt : decide (turnsP P l) = false := decide_eq_false fun ht => by
              have := ht i c1 j d1 s1 s2
              rw [eA, eX, ez] at this
              exact s3 this
            rw [nt]
            simp only [↓R0, R1, simprocAttr, -Int.reduceAbs, t20, t21, t22, t9', t10, t11, t1, t3, t4, t5, b0, bM, d1, d1', nk, n0, nM, hbb, p1, p2, aX, oX, tX, stX, s1', s1b, s2', s2b, w2, g9, l9, c9, aP, aA, tA, hi1, hi1', r1, r2, lf, s3', Fin, isEnd, resL, res1]
            refine ⟨_, rfl, rfl, fun q hq => ?_⟩
            simp only [show (M2 + 0 = q) = False from eq_false (by omega), if_false]; exact hh q hq
        · have ej : j = l.length := by omega
          subst ej
          have d1' : ((l.length : Int) < (l.length : Int)) = False := eq_false (by omega)
          simp only [↓R0, R1, simprocAttr, -Int.reduceAbs, t20, t21, t22, t9', t10, t11, t1, d1', w1]
          refine ⟨n - 1, by omega, i + 1, M2, by omega, rfl, b0, fun i' hi' j hj ne1 ne2 => ?_, hh, by omega, rfl⟩
          by_cases e : i' = i
          · subst e; rw [eA]; exact hall2 j hj ne1 ne2
          · exact hall i' (by omega) j hj ne1 ne2
      all_goals first | (simp only [↓R0, R1, simprocAttr, -Int.reduceAbs, t9', t10, t11, t1, b0, n0]; done) | (simp only [↓R0, R1, simprocAttr, -Int.reduceAbs, t9', t10, t11, t1, b0, n0]; rfl) | skip
      intro q hq
      have nb : ∀ j, (M + j = q) = False := fun j => eq_false (by omega)
      simp only [↓R0, R1, simprocAttr, -Int.reduceAbs, nb]
      exact hh q hq
    · have e : i = l.length := by omega
      subst e
      have c1' : ((l.length : Int) < (l.length : Int)) = False := eq_false (by omega)
      have yt : decide (turnsP P l) = true := decide_eq_true fun i hi => hall i hi
      rw [yt]
      simp only [↓R0, R1, simprocAttr, -Int.reduceAbs, t9', t10, t11, t1, c1', Fin, isEnd, resL, res1]
      exact ⟨_, rfl, rfl, hh⟩
  all_goals first | (simp only [↓R0, R1, simprocAttr, -Int.reduceAbs]; done) | (simp only [↓R0, R1, simprocAttr, -Int.reduceAbs]; rfl) | skip
  intro q hq
  have nb : ∀ j, (N + j = q) = False := fun j => eq_false (by omega)
  simp only [↓R0, R1, simprocAttr, -Int.reduceAbs, nb]
end Go.Eng
end
section
set_option linter.unusedVariables false
set_option linter.unusedSimpArgs false
set_option linter.unusedSectionVars false
set_option maxRecDepth 20000
namespace Go.Eng
open Go Go.Proofs Go.IntWalk
def spPchk : List Value → Heap → Option Value
  | [.agg ⟨cs⟩], h => match decPoly h cs with
    | some (P, l) => if polySz 1000000 P l then some (.int .i64 (chk P l)) else none
    | none => none
  | _, _ => none
theorem chk_1 {P : Pt} {l : List Pt} (h : ¬ plCan P) : chk P l = 3 := by unfold chk; rw [if_pos h]
theorem chk_2 {P : Pt} {l : List Pt} (h : plCan P) {i : Nat} (hi : i < l.length) (hn : ptN (ptAt l i) ≠ ptAt l i) : chk P l = 3 := by
  unfold chk; rw [if_neg (fun e => e h), if_pos (fun e => hn (e i hi))]
theorem chk_3 {P : Pt} {l : List Pt} (h : plCan P) (h2 : ∀ i, i < l.length → ptN (ptAt l i) = ptAt l i) (h3 : l.length < 3) : chk P l = 4 := by
  unfold chk; rw [if_neg (fun e => e h), if_neg (fun e => e h2), if_pos h3]
theorem chk_4 {P : Pt} {l : List Pt} (h : plCan P) (h2 : ∀ i, i < l.length → ptN (ptAt l i) = ptAt l i) (h3 : ¬ l.length < 3) {i : Nat} (hi : i < l.length) (hn : sdv P (ptAt l i) ≠ 0) : chk P l = 2 := by
  unfold chk; rw [if_neg (fun e => e h), if_neg (fun e => e h2), if_neg h3, if_pos (fun e => hn (e i hi))]
theorem chk_5 {P : Pt} {l : List Pt} (h : plCan P) (h2 : ∀ i, i < l.length → ptN (ptAt l i) = ptAt l i) (h3 : ¬ l.length < 3) (h4 : ∀ i, i < l.length → sdv P (ptAt l i) = 0) : chk P l = if turnsP P l then 0 else 1 := by
  unfold chk; rw [if_neg (fun e => e h), if_neg (fun e => e h2), if_neg h3, if_neg (fun e => e h4)]
  by_cases t : turnsP P l
  · rw [if_neg (fun e => e t), if_pos t]
  · rw [if_pos t, if_neg t]
theorem pnorm_of {p : Pt} (h : p.sz 1000000) : spPNorm [.agg ⟨p.cells⟩] = some (.agg ⟨(ptN p).cells⟩) := by
  refine (if_pos ⟨?_, ?_, ?_, ?_⟩).trans rfl
  · exact Nat.le_trans h.1 (by omega)
  · exact Nat.le_trans h.2.1 (by omega)
  · exact Nat.le_trans h.2.2.1 (by omega)
  · exact Nat.le_trans h.2.2.2 (by omega)
theorem lnnorm_of {p : Pt} (h : p.sz 1000000) : spLnNorm [.agg ⟨p.cells⟩] = if p.x = 0 ∧ p.y = 0 ∧ p.z = 0 then some (.tuple ⟨[.agg ⟨pZ⟩, .bool false]⟩) else some (.tuple ⟨[.agg ⟨(plN p).cells⟩, .bool true]⟩) := by
  refine (if_pos ⟨?_, ?_, ?_, ?_⟩).trans rfl
  · exact Nat.le_trans h.1 (by omega)
  · exact Nat.le_trans h.2.1 (by omega)
  · exact Nat.le_trans h.2.2.1 (by omega)
  · exact Nat.le_trans h.2.2.2 (by omega)
theorem side_of {P p : Pt} (h : P.sz 1000000) (h' : p.sz 1000000) : spLnSide [.agg ⟨P.cells⟩, .agg ⟨p.cells⟩] = some (.int .i64 (sdv P p).sign) := by
  refine (if_pos ⟨?_, ?_, ?_, ?_, ?_, ?_, ?_, ?_⟩).trans rfl
  · exact Nat.le_trans h.1 (by omega)
  · exact Nat.le_trans h.2.1 (by omega)
  · exact Nat.le_trans h.2.2.1 (by omega)
  · exact Nat.le_trans h.2.2.2 (by omega)
  · exact Nat.le_trans h'.1 (by omega)
  · exact Nat.le_trans h'.2.1 (by omega)
  · exact Nat.le_trans h'.2.2.1 (by omega)
  · exact Nat.le_trans h'.2.2.2 (by omega)
theorem sign0 {z : Int} (h : z = 0) : (z.sign = 0) = True := by rw [h]; simp
theorem sign1 {z : Int} (h : z ≠ 0) : (z.sign = 0) = False := eq_false fun e => h (Int.sign_eq_zero_iff_zero.1 e)
def c11 : ICode :=
  (.seq (.reg [qq 1 (.box 28 9 (.t 0)), qq 2 (.mv (ci 0))]) (.seq (.seq (.reg [qq 10 (.faddr 0 (.t 1)), qq 11 (.load true 8 (.t 10)), qq 12 (.call 35 [(.t 11)]), qq 9 (.mv (.t 12)), qq 13 (.ext (.t 9) 0), qq 14 (.ext (.t 9) 1), qq 3 (.alloc 25 8 [(.bool false), e0, (.bool false), e0, (.bool false), e0, (.bool false), e0]), qn (.store 8 (.t 3) (.t 13)), qq 4 (.mv (.t 14))]) (.seq (.reg [qq 15 (.mv (.t 4)), qq 16 (.un .not (.t 15)), qq 17 (.mv (.t 16)), ⟨(some 18), (some (17, false)), (.load true 8 (.t 3))⟩, ⟨(some 19), (some (17, false)), (.faddr 0 (.t 1))⟩, ⟨(some 20), (some (17, false)), (.load true 8 (.t 19))⟩, ⟨(some 21), (some (17, false)), (.eqa true [.b, .s, .b, .s, .b, .s, .b, .s] (.t 18) (.t 20))⟩, qq 22 (.pick (.t 17) (.c (.bool true)) (.t 21))]) (.cond (.t 22) (.seq (.reg [qq 2 (.mv (ci 3))]) .ret) .skip))) (.seq (.seq (.reg [qq 23 (.faddr 8 (.t 1)), qq 24 (.load false 1 (.t 23)), qq 25 (.lensl (.t 24)), qq 26 (.mv (ci 0))]) (.block 0 (.loop (.seq (.reg [qq 27 (.bin .lss (.t 26) (.t 25))]) (.seq (.cond (.t 27) .skip (.exit 0)) (.seq (.block 1 (.seq (.reg [qq 28 (.ixsl 8 (.t 24) (.t 26)), qq 29 (.load true 8 (.t 28)), qq 6 (.alloc 41 8 [(.bool false), e0, (.bool false), e0, (.bool false), e0, (.bool false), e0]), qn (.store 8 (.t 6) (.t 29))]) (.seq (.dreg [qu 30 (.load true 8 (.t 6)), qu 31 (.call 36 [(.t 30)]), qv 32 [1] (.load true 8 (.t 6)), qu 33 (.eqa true [.b, .s, .b, .s, .b, .s, .b, .s] (.t 31) (.t 32))]) (.cond (.t 33) (.seq (.reg [qq 2 (.mv (ci 3))]) .ret) .skip)))) (.reg [qq 34 (.bin .add (.t 26) (ci 1)), qq 26 (.mv (.t 34))]))))))) (.seq (.seq (.reg [qq 35 (.faddr 8 (.t 1)), qq 36 (.load false 1 (.t 35)), qq 37 (.lensl (.t 36)), qq 38 (.bin .lss (.t 37) (ci 3))]) (.cond (.t 38) (.seq (.reg [qq 2 (.mv (ci 4))]) .ret) .skip)) (.seq (.seq (.reg [qq 39 (.faddr 8 (.t 1)), qq 40 (.load false 1 (.t 39)), qq 41 (.lensl (.t 40)), qq 42 (.mv (ci 0))]) (.block 2 (.loop (.seq (.reg [qq 43 (.bin .lss (.t 42) (.t 41))]) (.seq (.cond (.t 43) .skip (.exit 2)) (.seq (.block 3 (.seq (.reg [qq 44 (.ixsl 8 (.t 40) (.t 42)), qq 45 (.load true 8 (.t 44)), qq 8 (.alloc 41 8 [(.bool false), e0, (.bool false), e0, (.bool false), e0, (.bool false), e0]), qn (.store 8 (.t 8) (.t 45))]) (.seq (.reg [qq 46 (.faddr 0 (.t 1)), qq 47 (.load true 8 (.t 46)), qq 48 (.load true 8 (.t 8)), qq 49 (.call 20 [(.t 47), (.t 48)]), qq 50 (.bin .neq (.t 49) (ci 0))]) (.cond (.t 50) (.seq (.reg [qq 2 (.mv (ci 2))]) .ret) .skip)))) (.reg [qq 51 (.bin .add (.t 42) (ci 1)), qq 42 (.mv (.t 51))]))))))) (.seq (.seq (.reg [qq 52 (.load true 9 (.t 1)), qq 53 (.call 37 [(.t 52)]), qq 54 (.un .not (.t 53))]) (.cond (.t 54) (.seq (.reg [qq 2 (.mv (ci 1))]) .ret) .skip)) (.seq (.reg [qq 2 (.mv (ci 0))]) .ret)))))))
theorem tr11 : trFun Tryz.prog 11 = some ⟨55, [.t 2], c11⟩ := by kernel_rfl
set_option maxHeartbeats 8000000 in
theorem ok_Pcheck : SpecOK Tryz.prog 11 (rdS spPchk) := by
  refine rd_run (env_cons ok_lnNorm (env_cons ok_pNorm (env_cons ok_lnSide (env_cons ok_Pturns (env_nil _))))) mixed tr11 ?_ ?_
  · intro args h h' v hle e
    unfold spPchk at e ⊢
    split at e
    · rename_i cs
      split at e
      · rename_i P l hb
        simp only [decPoly_mono hle hb]; exact e
      · cases e
    · cases e
  intro args v h N hG hN
  unfold spPchk at hG
  split at hG
  case h_2 => cases hG
  rename_i cs
  split at hG
  case h_2 => cases hG
  rename_i P l hx
  split at hG
  case isFalse => cases hG
  rename_i hs
  cases hG
  obtain ⟨sl, rfl, hx'⟩ := decPoly_eq hx
  clear hx
  rename listAt 8 decP h sl = some l => hx
  obtain ⟨a, c, rfl⟩ := listAt_sl hx
  have hn3 := hs.2.2
  refine ⟨by rfl, by simp, ?_⟩
  have c9 := pc9_s P (.slice a l.length c)
  have l9 := pc9_len P (.slice a l.length c)
  have t9 := pc9_tk P (.slice a l.length c)
  have g9 := pc9_g P (.slice a l.length c)
  have dec9 : ∀ hp, hle h hp → decPoly hp (pc9 P (.slice a l.length c)) = some (P, l) := fun hp hl => decPoly_mono hl (decPoly_of hx)
  generalize pc9 P (.slice a l.length c) = C9 at *
  have lP := P.len8
  have stz : setR [.bool false, .string ⟨⟨[]⟩⟩, .bool false, .string ⟨⟨[]⟩⟩, .bool false, .string ⟨⟨[]⟩⟩, .bool false, .string ⟨⟨[]⟩⟩] 0 pZ = pZ := rfl
  have stn : setR [.bool false, .string ⟨⟨[]⟩⟩, .bool false, .string ⟨⟨[]⟩⟩, .bool false, .string ⟨⟨[]⟩⟩, .bool false, .string ⟨⟨[]⟩⟩] 0 (plN P).cells = (plN P).cells := rfl
  have ln := (plN P).len8
  have on := (plN P).ok8
  have tn := (plN P).tk8
  have lz : pZ.length = 8 := rfl
  have oz : pZ.all okCell = true := rfl
  have tz : pZ.take 8 = pZ := rfl
  have nm := lnnorm_of hs.1
  by_cases z0 : P.x = 0 ∧ P.y = 0 ∧ P.z = 0
  · rw [if_pos z0] at nm
    rw [chk_1 (fun e => e.1 z0)]
    simp only [c11, G0, Nat.reduceAdd]
    simp only [↓R0, R1, simprocAttr, -Int.reduceAbs, l9, c9, g9, t9, lP, stz, stn, ln, on, tn, lz, oz, tz, Bool.not_false, Bool.not_true, nm, Fin, isEnd, resL, res1, iE, rE]
    exact ⟨_, rfl, rfl, fun k hk => by simp only [ne_nb hk, if_false]⟩
  rw [if_neg z0] at nm
  have cq := ceq_Pt (plN P) P
  by_cases z1 : plN P = P
  case neg =>
    rw [chk_1 (fun e => z1 e.2)]
    rw [decide_eq_false z1] at cq
    simp only [c11, G0, Nat.reduceAdd]
    simp only [↓R0, R1, simprocAttr, -Int.reduceAbs, l9, c9, g9, t9, lP, stz, stn, ln, on, tn, lz, oz, tz, Bool.not_false, Bool.not_true, nm, cq, Fin, isEnd, resL, res1, iE, rE]
    exact ⟨_, rfl, rfl, fun k hk => by simp only [ne_nb hk, if_false]⟩
  rw [decide_eq_true z1] at cq
  have can : plCan P := ⟨z0, z1⟩
  simp only [c11, G0, Nat.reduceAdd]
  simp only [↓R0, R1, simprocAttr, -Int.reduceAbs, l9, c9, g9, t9, lP, stz, stn, ln, on, tn, lz, oz, tz, Bool.not_false, Bool.not_true, nm, cq]
  clear cq nm stz stn ln on tn lz oz tz
  refine lp_parts (fun n tm hp nx => ∃ (i M : Nat), n + i = l.length ∧ tmget tm 24 = .slice a l.length c ∧ tmget tm 25 = .int .i64 l.length ∧ tmget tm 26 = .int .i64 i ∧ tmget tm 1 = .pointer (some ⟨N + 0, 0, none⟩) ∧
      hget hp (N + 0) = some ⟨28, 9, true, C9⟩ ∧ (∀ j, j < i → ptN (ptAt l j) = ptAt l j) ∧ (∀ q, q < N → hget hp q = hget h q) ∧ N + 2 ≤ M ∧ nx = M + 0) ?_ l.length
    ⟨0, N + 2, by omega, ?_, ?_, ?_, ?_, ?_, fun i hi => by omega, ?_, Nat.le_refl _, rfl⟩
  rotate_left
  all_goals first | (simp only [↓R0, R1, simprocAttr, -Int.reduceAbs]; done) | (simp only [↓R0, R1, simprocAttr, -Int.reduceAbs]; rfl) | skip
  · intro q hq
    have nb : ∀ j, (N + j = q) = False := fun j => eq_false (by omega)
    simp only [↓R0, R1, simprocAttr, -Int.reduceAbs, nb]
  rintro n tm hp nx ⟨i, M, hn, tA, tB, tC, t1, b0, hall, hh, hM, hnx⟩
  rw [hnx]
  clear hnx nx
  have n0 : ∀ j, (M + j = N + 0) = False := fun j => eq_false (by omega)
  by_cases c1 : i < l.length
  · obtain ⟨k, off, blk, ea, hb, q1, q2⟩ := vert_at hx c1
    subst ea
    have hk := hN _ _ hb
    have hbb : hget hp k = some blk := by rw [hh k hk]; exact hb
    have nk : ∀ j, (M + j = k) = False := fun j => eq_false (by omega)
    have c1' : ((i : Int) < (l.length : Int)) = True := eq_true (by omega)
    have w1 : IntKind.i64.wrap ((i : Int) + 1) = ((i + 1 : Nat) : Int) := by rw [i64_in _ (by omega)]; omega
    have sX := hs.at c1
    obtain ⟨X, eX⟩ : ∃ A, ptAt l i = A := ⟨_, rfl⟩
    rw [eX] at q2 sX
    have aX := X.len8; have oX := X.ok8; have tX := X.tk8
    have stX : setR [.bool false, .string ⟨⟨[]⟩⟩, .bool false, .string ⟨⟨[]⟩⟩, .bool false, .string ⟨⟨[]⟩⟩, .bool false, .string ⟨⟨[]⟩⟩] 0 X.cells = X.cells := rfl
    have nmX := pnorm_of sX
    have cX := ceq_Pt (ptN X) X
    by_cases s1 : ptN X = X
    · rw [decide_eq_true s1] at cX
      simp only [↓R0, R1, simprocAttr, -Int.reduceAbs, Bool.not_false, Bool.not_true, tA, tB, tC, t1, b0, n0, c1, c1', hbb, nk, q1, q2, w1, aX, oX, tX, stX, nmX, cX]
      refine ⟨n - 1, by omega, i + 1, M + 1, by omega, rfl, fun j hj => ?_, fun q hq => ?_, by omega, rfl⟩
      · by_cases e : j = i
        · rw [e, eX]; exact s1
        · exact hall j (by omega)
      · simp only [show (M + 0 = q) = False from eq_false (by omega), if_false]; exact hh q hq
    · rw [decide_eq_false s1] at cX
      rw [chk_2 can c1 (by rw [eX]; exact s1)]
      simp only [↓R0, R1, simprocAttr, -Int.reduceAbs, Bool.not_false, Bool.not_true, tA, tB, tC, t1, b0, n0, c1, c1', hbb, nk, q1, q2, w1, aX, oX, tX, stX, nmX, cX, Fin, isEnd, resL, res1]
      refine ⟨_, rfl, rfl, fun q hq => ?_⟩
      simp only [show (M + 0 = q) = False from eq_false (by omega), if_false]; exact hh q hq
  have e : i = l.length := by omega
  subst e
  have c1' : ((l.length : Int) < (l.length : Int)) = False := eq_false (by omega)
  by_cases s3 : l.length < 3
  · have s3' : ((l.length : Int) < 3) = True := eq_true (by omega)
    rw [chk_3 can hall s3]
    simp only [↓R0, R1, simprocAttr, -Int.reduceAbs, tA, tB, tC, t1, b0, c1', l9, c9, s3', Fin, isEnd, resL, res1]
    exact ⟨_, rfl, rfl, hh⟩
  have s3' : ((l.length : Int) < 3) = False := eq_false (by omega)
  simp only [↓R0, R1, simprocAttr, -Int.reduceAbs, tA, tB, tC, t1, b0, c1', l9, c9, s3']
  have canAll := hall
  clear hall tA tB tC c1 n0
  refine lp_parts (fun n tm hp nx => ∃ (i M : Nat), n + i = l.length ∧ tmget tm 40 = .slice a l.length c ∧ tmget tm 41 = .int .i64 l.length ∧ tmget tm 42 = .int .i64 i ∧ tmget tm 1 = .pointer (some ⟨N + 0, 0, none⟩) ∧
      hget hp (N + 0) = some ⟨28, 9, true, C9⟩ ∧ (∀ j, j < i → sdv P (ptAt l j) = 0) ∧ (∀ q, q < N → hget hp q = hget h q) ∧ N + 2 ≤ M ∧ nx = M + 0) ?_ l.length
    ⟨0, M, by omega, ?_, ?_, ?_, ?_, ?_, fun i hi => by omega, hh, hM, rfl⟩
  rotate_left
  all_goals first | (simp only [↓R0, R1, simprocAttr, -Int.reduceAbs, t1, b0]; done) | (simp only [↓R0, R1, simprocAttr, -Int.reduceAbs, t1, b0]; rfl) | skip
  clear hh hM t1 b0 c1'
  rintro n tm hp nx ⟨i, M, hn, tA, tB, tC, t1, b0, hall, hh, hM, hnx⟩
  rw [hnx]
  clear hnx nx
  have n0 : ∀ j, (M + j = N + 0) = False := fun j => eq_false (by omega)
  by_cases c1 : i < l.length
  · obtain ⟨k, off, blk, ea, hb, q1, q2⟩ := vert_at hx c1
    subst ea
    have hk := hN _ _ hb
    have hbb : hget hp k = some blk := by rw [hh k hk]; exact hb
    have nk : ∀ j, (M + j = k) = False := fun j => eq_false (by omega)
    have c1' : ((i : Int) < (l.length : Int)) = True := eq_true (by omega)
    have w1 : IntKind.i64.wrap ((i : Int) + 1) = ((i + 1 : Nat) : Int) := by rw [i64_in _ (by omega)]; omega
    have sX := hs.at c1
    obtain ⟨X, eX⟩ : ∃ A, ptAt l i = A := ⟨_, rfl⟩
    rw [eX] at q2 sX
    have aX := X.len8; have oX := X.ok8; have tX := X.tk8
    have stX : setR [.bool false, .string ⟨⟨[]⟩⟩, .bool false, .string ⟨⟨[]⟩⟩, .bool false, .string ⟨⟨[]⟩⟩, .bool false, .string ⟨⟨[]⟩⟩] 0 X.cells = X.cells := rfl
    have sd := side_of hs.1 sX
    by_cases s1 : sdv P X = 0
    · have s1' := sign0 s1
      simp only [↓R0, R1, simprocAttr, -Int.reduceAbs, Bool.not_false, Bool.not_true, tA, tB, tC, t1, b0, n0, c1, c1', hbb, nk, q1, q2, w1, aX, oX, tX, stX, sd, s1', g9, l9, lP]
      refine ⟨n - 1, by omega, i + 1, M + 1, by omega, rfl, fun j hj => ?_, fun q hq => ?_, by omega, rfl⟩
      · by_cases e : j = i
        · rw [e, eX]; exact s1
        · exact hall j (by omega)
      · simp only [show (M + 0 = q) = False from eq_false (by omega), if_false]; exact hh q hq
    · have s1' := sign1 s1
      rw [chk_4 can canAll s3 c1 (by rw [eX]; exact s1)]
      simp only [↓R0, R1, simprocAttr, -Int.reduceAbs, Bool.not_false, Bool.not_true, tA, tB, tC, t1, b0, n0, c1, c1', hbb, nk, q1, q2, w1, aX, oX, tX, stX, sd, s1', g9, l9, lP, Fin, isEnd, resL, res1]
      refine ⟨_, rfl, rfl, fun q hq => ?_⟩
      simp only [show (M + 0 = q) = False from eq_false (by omega), if_false]; exact hh q hq
  have e : i = l.length := by omega
  subst e
  have c1' : ((l.length : Int) < (l.length : Int)) = False := eq_false (by omega)
  rw [chk_5 can canAll s3 hall]
  have hl : hle h hp := fun k b e => by rw [hh k (hN _ _ e)]; exact e
  have tf : spPturns [.agg ⟨C9⟩] hp = some (.bool (decide (turnsP P l))) := by
    unfold spPturns
    simp only [dec9 hp hl]
    exact if_pos hs
  by_cases t : turnsP P l
  · rw [decide_eq_true t] at tf
    rw [if_pos t]
    simp only [↓R0, R1, simprocAttr, -Int.reduceAbs, rdS, tA, tB, tC, t1, b0, c1', l9, c9, t9, tf, Bool.not_false, Bool.not_true, Fin, isEnd, resL, res1]
    exact ⟨_, rfl, rfl, hh⟩
  · rw [decide_eq_false t] at tf
    rw [if_neg t]
    simp only [↓R0, R1, simprocAttr, -Int.reduceAbs, rdS, tA, tB, tC, t1, b0, c1', l9, c9, t9, tf, Bool.not_false, Bool.not_true, Fin, isEnd, resL, res1]
    exact ⟨_, rfl, rfl, hh⟩
end Go.Eng
end
section
set_option linter.unusedVariables false
set_option linter.unusedSimpArgs false
set_option linter.unusedSectionVars false
namespace Go.Eng
theorem pW_pW (w : Int) : pW (pW w) = pW w := pW_of (pW_ne w)
theorem pE_pW (x y z w : Int) : pE x y z (pW w) = pE x y z w := by
  unfold pE pQ pG; rw [pW_pW]
theorem pE_idem (x y z w : Int) : pE (pQ x y z w x) (pQ x y z w y) (pQ x y z w z) (pQ x y z w (pW w)) = pE x y z w := by
  rw [← pE_pW x y z w]
  have h1 := pQ_mul (pG_dvd_x x y z w)
  have h2 := pQ_mul (pG_dvd_y x y z w)
  have h3 := pQ_mul (pG_dvd_z x y z w)
  have h4 := pQ_mul (pG_dvd_w x y z w)
  have hp := pQ_pos x y z w
  have hw := pW_ne w
  have hg := pG_pos x y z w
  have hg' : (pG x y z w : Int) ≠ 0 := by omega
  generalize (pG x y z w : Int) = g at *
  generalize pQ x y z w x = X at *
  generalize pQ x y z w y = Y at *
  generalize pQ x y z w z = Z at *
  generalize pQ x y z w (pW w) = W at *
  generalize pW w = v at *
  have key : ∀ {A a : Int}, A * g = (if v < 0 then -a else a) → A * v = a * W := by
    intro A a h
    apply Int.eq_of_mul_eq_mul_right hg'
    by_cases c : v < 0
    · rw [if_pos c] at h h4; grind
    · rw [if_neg c] at h h4; grind
  exact pE_eq (by omega) hw (key h1) (key h2) (key h3)
namespace Pt
def of (a b c d : Int) : Pt := ⟨decide (a < 0), bl a.natAbs, decide (b < 0), bl b.natAbs, decide (c < 0), bl c.natAbs, decide (d < 0), bl d.natAbs⟩
theorem of_x (a b c d : Int) : (of a b c d).x = a := sv_can a
theorem of_y (a b c d : Int) : (of a b c d).y = b := sv_can b
theorem of_z (a b c d : Int) : (of a b c d).z = c := sv_can c
theorem of_w (a b c d : Int) : (of a b c d).w = d := sv_can d
def can (p : Pt) : Prop := 0 < p.w ∧ pE p.x p.y p.z p.w = p.cells
theorem can_of (x y z w : Int) : can (of (pQ x y z w x) (pQ x y z w y) (pQ x y z w z) (pQ x y z w (pW w))) := by
  unfold can
  rw [of_x, of_y, of_z, of_w]
  exact ⟨pQ_pos x y z w, by rw [pE_idem]; rfl⟩
end Pt
end Go.Eng
end
section
set_option linter.unusedVariables false
set_option linter.unusedSimpArgs false
set_option linter.unusedSectionVars false
namespace Go.Eng
theorem lex3_scale {u1 u2 u3 v1 v2 v3 P Q : Int} (hP : 0 < P) (hQ : 0 < Q) (h1 : u1 * P = v1 * Q) (h2 : u2 * P = v2 * Q) (h3 : u3 * P = v3 * Q) : lex3 u1 u2 u3 = lex3 v1 v2 v3 := by
  have k : ∀ {u v : Int}, u * P = v * Q → u.sign = v.sign := fun {u v} h => by
    rw [← sign_pos_mul hP, h, sign_pos_mul hQ]
  unfold lex3
  rw [k h1, k h2, k h3]
namespace Pt
structure Div (a b x : Pt) (m k : Int) : Prop where
  ha : 0 < a.w
  hb : 0 < b.w
  hx : 0 < x.w
  hm : 0 < m
  hk : 0 < k
  ex : x.x * (a.w * b.w * (m + k)) = (k * a.x * b.w + m * b.x * a.w) * x.w
  ey : x.y * (a.w * b.w * (m + k)) = (k * a.y * b.w + m * b.y * a.w) * x.w
  ez : x.z * (a.w * b.w * (m + k)) = (k * a.z * b.w + m * b.z * a.w) * x.w
variable {a b x : Pt} {m k : Int}
theorem Div.ax (d : Div a b x m k) : cmp a x = cmp a b := by
  obtain ⟨ha, hb, hx, hm, hk, ex, ey, ez⟩ := d
  refine lex3_scale (P := b.w * (m + k)) (Q := x.w * m) (Int.mul_pos hb (by omega)) (Int.mul_pos hx hm) ?_ ?_ ?_ <;> grind
theorem Div.xb (d : Div a b x m k) : cmp x b = cmp a b := by
  obtain ⟨ha, hb, hx, hm, hk, ex, ey, ez⟩ := d
  refine lex3_scale (P := a.w * (m + k)) (Q := x.w * k) (Int.mul_pos ha (by omega)) (Int.mul_pos hx hk) ?_ ?_ ?_ <;> grind
theorem dt3_lin {a1 a2 a3 b1 b2 b3 x1 x2 x3 K p q w : Int} (hK : K ≠ 0) (h1 : x1 * K = (p * a1 + q * b1) * w) (h2 : x2 * K = (p * a2 + q * b2) * w) (h3 : x3 * K = (p * a3 + q * b3) * w) :
    dt3 a1 a2 a3 b1 b2 b3 x1 x2 x3 = 0 ∧ dt3 a1 a2 a3 x1 x2 x3 b1 b2 b3 = 0 := by
  have e1 : dt3 a1 a2 a3 b1 b2 b3 x1 x2 x3 * K = 0 := by
    have : dt3 a1 a2 a3 b1 b2 b3 x1 x2 x3 * K = dt3 a1 a2 a3 b1 b2 b3 (x1 * K) (x2 * K) (x3 * K) := by unfold dt3; grind
    rw [this, h1, h2, h3]; unfold dt3; grind
  have e2 : dt3 a1 a2 a3 x1 x2 x3 b1 b2 b3 = -dt3 a1 a2 a3 b1 b2 b3 x1 x2 x3 := by unfold dt3; grind
  have e3 : dt3 a1 a2 a3 b1 b2 b3 x1 x2 x3 = 0 := (Int.mul_eq_zero.1 e1).resolve_right hK
  exact ⟨e3, by rw [e2, e3]; rfl⟩
theorem Div.on (d : Div a b x m k) : on a b x ∧ Pt.on a x b := by
  obtain ⟨ha, hb, hx, hm, hk, ex, ey, ez⟩ := d
  have hK : a.w * b.w * (m + k) ≠ 0 := Int.ne_of_gt (Int.mul_pos (Int.mul_pos ha hb) (by omega))
  have e1 : x.x * (a.w * b.w * (m + k)) = (k * b.w * a.x + m * a.w * b.x) * x.w := by rw [ex]; grind
  have e2 : x.y * (a.w * b.w * (m + k)) = (k * b.w * a.y + m * a.w * b.y) * x.w := by rw [ey]; grind
  have e3 : x.z * (a.w * b.w * (m + k)) = (k * b.w * a.z + m * a.w * b.z) * x.w := by rw [ez]; grind
  have e4 : x.w * (a.w * b.w * (m + k)) = (k * b.w * a.w + m * a.w * b.w) * x.w := by grind
  unfold Pt.on flt
  have r1 := dt3_lin hK e2 e3 e4
  have r2 := dt3_lin hK e3 e1 e4
  have r3 := dt3_lin hK e1 e2 e4
  have r2' := dt3_lin hK e1 e3 e4
  first
    | exact ⟨⟨r1.1, r2.1, r3.1⟩, r1.2, r2.2, r3.2⟩
    | exact ⟨⟨r1.1, r2'.1, r3.1⟩, r1.2, r2'.2, r3.2⟩
theorem of_coords {p q r : Rat} {i : Nat} (hp : RB p i) (hq : RB q i) (hr : RB r i) (hi : 1 ≤ i) (hB : 3 * i ≤ 65536) : ∃ P : Pt, mkE p q r = P.cells ∧ P.can ∧ P.ok ∧ Rat.divInt P.x P.w = p ∧ Rat.divInt P.y P.w = q ∧ Rat.divInt P.z P.w = r := by
  have hp0 := p.den_nz
  have hq0 := q.den_nz
  have hr0 := r.den_nz
  obtain ⟨X, eX⟩ : ∃ z, p.num * ((q.den : Int) * r.den) = z := ⟨_, rfl⟩
  obtain ⟨Y, eY⟩ : ∃ z, q.num * ((p.den : Int) * r.den) = z := ⟨_, rfl⟩
  obtain ⟨Z, eZ⟩ : ∃ z, r.num * ((p.den : Int) * q.den) = z := ⟨_, rfl⟩
  obtain ⟨W, eW⟩ : ∃ z, (p.den : Int) * q.den * r.den = z := ⟨_, rfl⟩
  have hW : W ≠ 0 := by
    rw [← eW]; exact Int.mul_ne_zero (Int.mul_ne_zero (by omega) (by omega)) (by omega)
  have pd : (bl (p.den : Int).natAbs).length ≤ i := hp.2
  have qd : (bl (q.den : Int).natAbs).length ≤ i := hq.2
  have rd : (bl (r.den : Int).natAbs).length ≤ i := hr.2
  have lX : (bl X.natAbs).length ≤ 65536 := by rw [← eX]; exact Nat.le_trans (Lmul hp.1 (Lmul qd rd)) (by omega)
  have lY : (bl Y.natAbs).length ≤ 65536 := by rw [← eY]; exact Nat.le_trans (Lmul hq.1 (Lmul pd rd)) (by omega)
  have lZ : (bl Z.natAbs).length ≤ 65536 := by rw [← eZ]; exact Nat.le_trans (Lmul hr.1 (Lmul pd qd)) (by omega)
  have lW : (bl W.natAbs).length ≤ 65536 := by rw [← eW]; exact Nat.le_trans (Lmul (Lmul pd qd) rd) (by omega)
  refine ⟨of (pQ X Y Z W X) (pQ X Y Z W Y) (pQ X Y Z W Z) (pQ X Y Z W (pW W)), ?_, can_of X Y Z W, ?_, ?_, ?_, ?_⟩
  · unfold mkE; rw [eX, eY, eZ, eW]; rfl
  · exact ⟨⟨pQ_len lX, pQ_len lY, pQ_len lZ, pQ_len (pW_len lW (by omega))⟩, (can_of X Y Z W).1⟩
  · rw [of_x, of_w, pQ_div (pG_dvd_x X Y Z W), pW_of hW, ← Rat.num_divInt_den p, Rat.divInt_eq_divInt_iff hW (by omega)]
    rw [← eX, ← eW]; grind
  · rw [of_y, of_w, pQ_div (pG_dvd_y X Y Z W), pW_of hW, ← Rat.num_divInt_den q, Rat.divInt_eq_divInt_iff hW (by omega)]
    rw [← eY, ← eW]; grind
  · rw [of_z, of_w, pQ_div (pG_dvd_z X Y Z W), pW_of hW, ← Rat.num_divInt_den r, Rat.divInt_eq_divInt_iff hW (by omega)]
    rw [← eZ, ← eW]; grind
end Pt
end Go.Eng
end
section
set_option linter.unusedVariables false
set_option linter.unusedSimpArgs false
set_option linter.unusedSectionVars false
namespace Go.Eng
def Pt.cx (p : Pt) : Rat := Rat.divInt p.x (pW p.w)
def Pt.cy (p : Pt) : Rat := Rat.divInt p.y (pW p.w)
def Pt.cz (p : Pt) : Rat := Rat.divInt p.z (pW p.w)
def lftR (A B C ux uy uz vx vy vz : Rat) : Rat := A * (uy * vz - uz * vy) + B * (uz * vx - ux * vz) + C * (ux * vy - uy * vx)
theorem rat_ne {z : Int} (h : 0 < z) : (z : Rat) ≠ 0 := fun e => by
  have : z = 0 := Rat.intCast_inj.1 (by rw [e]; rfl)
  omega
theorem lft_sign {P a b x : Pt} (ha : 0 < a.w) (hb : 0 < b.w) (hx : 0 < x.w) :
    (lftR P.x P.y P.z (b.cx - a.cx) (b.cy - a.cy) (b.cz - a.cz) (x.cx - a.cx) (x.cy - a.cy) (x.cz - a.cz)).num.sign = (lftZ P a b x).sign := by
  have pw : ∀ {w : Int}, 0 < w → pW w = w := fun {w} h => by unfold pW; rw [if_neg (by omega)]
  have e : lftR P.x P.y P.z (b.cx - a.cx) (b.cy - a.cy) (b.cz - a.cz) (x.cx - a.cx) (x.cy - a.cy) (x.cz - a.cz) = Rat.divInt (lftZ P a b x) (a.w * b.w * (a.w * x.w)) := by
    unfold Pt.cx Pt.cy Pt.cz
    rw [pw ha, pw hb, pw hx]
    have h1 := rat_ne ha
    have h2 := rat_ne hb
    have h3 := rat_ne hx
    unfold lftR lftZ awx awy awz
    simp only [Rat.divInt_eq_div, Rat.intCast_sub, Rat.intCast_add, Rat.intCast_mul]
    generalize (a.w : Rat) = aw at *
    generalize (b.w : Rat) = bw at *
    generalize (x.w : Rat) = xw at *
    generalize (a.x : Rat) = ax at *
    generalize (a.y : Rat) = ay at *
    generalize (a.z : Rat) = az at *
    generalize (b.x : Rat) = bx at *
    generalize (b.y : Rat) = bY at *
    generalize (b.z : Rat) = bz at *
    generalize (x.x : Rat) = xx at *
    generalize (x.y : Rat) = xy at *
    generalize (x.z : Rat) = xz at *
    generalize (P.x : Rat) = px at *
    generalize (P.y : Rat) = py at *
    generalize (P.z : Rat) = pz at *
    have z0 : ((0 : Int) : Rat) = 0 := rfl
    rw [z0]
    grind
  rw [num_sign e (Int.mul_pos (Int.mul_pos ha hb) (Int.mul_pos ha hx))]
end Go.Eng
end
section
set_option linter.unusedVariables false
set_option linter.unusedSimpArgs false
set_option linter.unusedSectionVars false
set_option maxRecDepth 20000
namespace Go.Eng
open Go Go.Proofs Go.IntWalk
theorem rv_whole (s : Bool) (l : List UInt8) : rv s l [] = (sv s l : Rat) := by unfold rv; exact divInt_one _
def spR8whole : List Value → Option Value
  | [.agg ⟨[.bool s, .string ⟨⟨l⟩⟩]⟩] => if l.length ≤ 1000000 then some (.agg ⟨rE (sv s l : Rat)⟩) else none
  | _ => none
def c85 : ICode :=
  (.seq (.reg [qq 1 (.box 23 2 (.t 0)), qq 2 (.alloc 49 3 [(.bool false), e0, e0])]) (.seq (.reg [qq 3 (.faddr 0 (.t 1)), qq 4 (.load false 1 (.t 3)), qq 5 (.faddr 1 (.t 1)), qq 6 (.load false 1 (.t 5)), qq 7 (.build [(.bool false), e0, e0] [(0, 1, (.t 4)), (1, 1, (.t 6))]), qq 8 (.call 120 [(.t 7)]), qn (.store 3 (.t 2) (.t 8))]) .ret))
theorem tr85 : trFun Tryz.prog 85 = some ⟨9, [.cell 2 true 3], c85⟩ := by kernel_rfl
theorem ok_r8whole : SpecOK Tryz.prog 85 (flat spR8whole) := by
  refine flat_run (env_cons ok_r3Norm (env_nil _)) mixed tr85 ?_
  intro args v h N hG
  unfold spR8whole at hG
  split at hG
  case h_2 => cases hG
  rename_i s l
  split at hG
  case isFalse => cases hG
  rename_i hl
  cases hG
  refine ⟨rfl, by simp, ?_⟩
  have nm : spR3Norm [.agg ⟨[.bool s, .string ⟨⟨l⟩⟩, .string ⟨⟨[]⟩⟩]⟩] = some (.agg ⟨rE (sv s l : Rat)⟩) := by
    rw [← rv_whole]; exact if_pos ⟨by omega, by simp⟩
  simp only [c85, G0, Nat.reduceAdd]
  simp only [↓R0, R1, simprocAttr, -Int.reduceAbs, nm, Fin, isEnd, resL, res1, iE, rE]
  exact ⟨_, rfl, rfl, fun k hk => by simp only [ne_nb hk, if_false]⟩
def spR8less : List Value → Option Value
  | [.agg ⟨cb⟩, .agg ⟨ca⟩] => match decP cb, decP ca with
    | some b, some a => if b.sz 1000000 ∧ a.sz 1000000 then some (.agg ⟨r3E (b.cx - a.cx) (b.cy - a.cy) (b.cz - a.cz)⟩) else none
    | _, _ => none
  | _ => none
theorem coords_of {p : Pt} (h : p.sz 1000000) : spR4Coords [.agg ⟨p.cells⟩] = some (.agg ⟨r3E p.cx p.cy p.cz⟩) := by
  refine Eq.trans (if_pos ⟨?_, ?_, ?_, ?_⟩) rfl
  · exact Nat.le_trans h.1 (by omega)
  · exact Nat.le_trans h.2.1 (by omega)
  · exact Nat.le_trans h.2.2.1 (by omega)
  · exact Nat.le_trans h.2.2.2 (by omega)
theorem coords_rb {p : Pt} (h : p.sz 1000000) : RB p.cx 1000000 ∧ RB p.cy 1000000 ∧ RB p.cz 1000000 := by
  have n4 := pW_len (len_sv (s := p.s4) h.2.2.2) (by omega)
  have w0 := pW_ne p.w
  exact ⟨divInt_RB w0 (len_sv (s := p.s1) h.1) n4, divInt_RB w0 (len_sv (s := p.s2) h.2.1) n4, divInt_RB w0 (len_sv (s := p.s3) h.2.2.1) n4⟩
theorem r3Sub_rE {x y : Rat} {i j : Nat} (hx : RB x i) (hy : RB y j) (hi : i ≤ 8589934592) (hj : j + 1 ≤ 8589934592) : spR3Sub [.agg ⟨rE x⟩, .agg ⟨rE y⟩] = some (.agg ⟨rE (x - y)⟩) := by
  unfold spR3Sub rE
  simp only [rv_can]
  exact if_pos ⟨hx.num hi, hx.den hi, hy.num (by omega), hy.den' (k := 8589934592) hj⟩
theorem v9_len (x y z : Rat) : (r3E x y z).length = 9 := rfl
theorem v9_ok (x y z : Rat) : (r3E x y z).all okCell = true := rfl
theorem v9_tk (x y z : Rat) : (r3E x y z).take 9 = r3E x y z := rfl
theorem v9_g0 (x y z : Rat) : (r3E x y z).take 3 = rE x := rfl
theorem v9_g1 (x y z : Rat) : ((r3E x y z).drop 3).take 3 = rE y := rfl
theorem v9_g2 (x y z : Rat) : ((r3E x y z).drop 6).take 3 = rE z := rfl
theorem v9_s0 (x y z w : Rat) : setR (r3E x y z) 0 (rE w) = r3E w y z := rfl
theorem v9_s1 (x y z w : Rat) : setR (r3E x y z) 3 (rE w) = r3E x w z := rfl
theorem v9_s2 (x y z w : Rat) : setR (r3E x y z) 6 (rE w) = r3E x y w := rfl
theorem v9_new (x y z : Rat) : setR [.bool false, .string ⟨⟨[]⟩⟩, .string ⟨⟨[]⟩⟩, .bool false, .string ⟨⟨[]⟩⟩, .string ⟨⟨[]⟩⟩, .bool false, .string ⟨⟨[]⟩⟩, .string ⟨⟨[]⟩⟩] 0 (r3E x y z) = r3E x y z := rfl
theorem rE_l3 (x : Rat) : (rE x).length = 3 := rfl
theorem rE_o3 (x : Rat) : (rE x).all okCell = true := rfl
theorem v9_bld (x y z : Rat) : setR (setR (setR [.bool false, .string ⟨⟨[]⟩⟩, .string ⟨⟨[]⟩⟩, .bool false, .string ⟨⟨[]⟩⟩, .string ⟨⟨[]⟩⟩, .bool false, .string ⟨⟨[]⟩⟩, .string ⟨⟨[]⟩⟩] 0 (rE x)) 3 (rE y)) 6 (rE z) = r3E x y z := rfl
def c62 : ICode :=
  (.seq (.reg [qq 2 (.box 41 8 (.t 0)), qq 3 (.box 41 8 (.t 1)), qq 4 (.alloc 51 9 [(.bool false), e0, e0, (.bool false), e0, e0, (.bool false), e0, e0])]) (.seq (.dreg [qu 8 (.load true 8 (.t 2)), qu 9 (.call 65 [(.t 8)]), qv 10 [1] (.load true 8 (.t 3)), qu 11 (.call 65 [(.t 10)]), qu 5 (.alloc 51 9 [(.bool false), e0, e0, (.bool false), e0, e0, (.bool false), e0, e0]), qu 6 (.alloc 51 9 [(.bool false), e0, e0, (.bool false), e0, e0, (.bool false), e0, e0]), qm (.store 9 (.t 5) (.t 9)), qm (.store 9 (.t 6) (.t 11))]) (.seq (.seq (.reg [qq 12 (.mv (ci 0))]) (.block 0 (.loop (.seq (.reg [qq 13 (.bin .lss (.t 12) (ci 3))]) (.seq (.cond (.t 13) .skip (.exit 0)) (.seq (.block 1 (.seq (.reg [qq 14 (.mv (.t 12)), qq 7 (.mv (.t 14))]) (.dreg [qu 15 (.mv (.t 7)), qu 16 (.mv (.t 7)), qu 17 (.ixarr 3 3 (.t 5) (.t 16)), qu 18 (.load true 3 (.t 17)), qu 19 (.mv (.t 7)), qu 20 (.ixarr 3 3 (.t 6) (.t 19)), qu 21 (.load true 3 (.t 20)), qu 22 (.call 67 [(.t 18), (.t 21)]), qu 23 (.ixarr 3 3 (.t 5) (.t 15)), qm (.store 3 (.t 23) (.t 22))]))) (.reg [qq 24 (.bin .add (.t 12) (ci 1)), qq 12 (.mv (.t 24))]))))))) (.seq (.reg [qq 25 (.load true 9 (.t 5)), qn (.store 9 (.t 4) (.t 25))]) .ret))))
theorem tr62 : trFun Tryz.prog 62 = some ⟨26, [.cell 4 true 9], c62⟩ := by kernel_rfl
set_option maxHeartbeats 2000000 in
theorem ok_r8less : SpecOK Tryz.prog 62 (flat spR8less) := by
  refine flat_run (env_cons ok_r4Coords (env_cons ok_r3Sub (env_nil _))) mixed tr62 ?_
  intro args v h N hG
  unfold spR8less at hG
  split at hG
  case h_2 => cases hG
  rename_i cb ca
  split at hG
  case h_2 => cases hG
  rename_i b a hb ha
  split at hG
  case isFalse => cases hG
  rename_i hl
  obtain ⟨sb, sa⟩ := hl
  cases hG
  have e1 := decP_eq ha
  have e2 := decP_eq hb
  subst e1 e2
  refine ⟨rfl, by simp, ?_⟩
  have k1 := coords_of sb
  have k2 := coords_of sa
  obtain ⟨b1, b2, b3⟩ := coords_rb sb
  obtain ⟨a1, a2, a3⟩ := coords_rb sa
  have m1 := r3Sub_rE b1 a1 (by omega) (by omega)
  have m2 := r3Sub_rE b2 a2 (by omega) (by omega)
  have m3 := r3Sub_rE b3 a3 (by omega) (by omega)
  have la := a.len8; have lb := b.len8
  have ta := a.tk8; have tb := b.tk8
  generalize a.cx = ax at *
  generalize a.cy = ay at *
  generalize a.cz = az at *
  generalize b.cx = bx at *
  generalize b.cy = bY at *
  generalize b.cz = bz at *
  generalize a.cells = CA at *
  generalize b.cells = CB at *
  have w1 : IntKind.i64.wrap 1 = 1 := i64_in _ (by omega)
  have w2 : IntKind.i64.wrap 2 = 2 := i64_in _ (by omega)
  have w3 : IntKind.i64.wrap 3 = 3 := i64_in _ (by omega)
  simp only [c62, G0, Nat.reduceAdd]
  simp only [↓R0, R1, simprocAttr, -Int.reduceAbs, la, lb, ta, tb, k1, k2, v9_len, v9_ok, v9_new]
  refine lp_step ?_
  simp only [↓R0, R1, simprocAttr, -Int.reduceAbs, v9_len, v9_ok, v9_g0, v9_g1, v9_g2, v9_s0, v9_s1, v9_s2, rE_l3, rE_o3, m1, m2, m3, w1, w2, w3]
  refine lp_step ?_
  simp only [↓R0, R1, simprocAttr, -Int.reduceAbs, v9_len, v9_ok, v9_g0, v9_g1, v9_g2, v9_s0, v9_s1, v9_s2, rE_l3, rE_o3, m1, m2, m3, w1, w2, w3]
  refine lp_step ?_
  simp only [↓R0, R1, simprocAttr, -Int.reduceAbs, v9_len, v9_ok, v9_g0, v9_g1, v9_g2, v9_s0, v9_s1, v9_s2, rE_l3, rE_o3, m1, m2, m3, w1, w2, w3]
  refine lp_step ?_
  simp only [↓R0, R1, simprocAttr, -Int.reduceAbs, v9_len, v9_ok, v9_tk, v9_new, w1, w2, w3, Fin, isEnd, resL, res1]
  exact ⟨_, rfl, rfl, fun k hk => by simp only [ne_nb hk, if_false]⟩
def spR8left : List Value → Option Value
  | [.agg ⟨cp⟩, .agg ⟨ca⟩, .agg ⟨cb⟩, .agg ⟨cx⟩] => match decP cp, decP ca, decP cb, decP cx with
    | some P, some a, some b, some x => if (P.sz 1000000 ∧ a.sz 1000000 ∧ b.sz 1000000 ∧ x.sz 1000000) ∧ 0 < a.w ∧ 0 < b.w ∧ 0 < x.w then some (.int .i64 (lftZ P a b x).sign) else none
    | _, _, _, _ => none
  | _ => none
def c41 : ICode :=
  (.seq (.reg [qq 4 (.box 25 8 (.t 0)), qq 5 (.box 41 8 (.t 1)), qq 6 (.box 41 8 (.t 2)), qq 7 (.box 41 8 (.t 3)), qq 8 (.mv (ci 0))]) (.seq (.dreg [qu 10 (.faddr 0 (.t 4)), qu 11 (.load true 2 (.t 10)), qu 12 (.call 85 [(.t 11)]), qu 13 (.faddr 2 (.t 4)), qv 14 [2] (.load true 2 (.t 13)), qu 15 (.call 85 [(.t 14)]), qu 16 (.faddr 4 (.t 4)), qv 17 [2, 5] (.load true 2 (.t 16)), qu 18 (.call 85 [(.t 17)]), qu 19 (.build [(.bool false), e0, e0, (.bool false), e0, e0, (.bool false), e0, e0] [(0, 3, (.t 12)), (3, 3, (.t 15)), (6, 3, (.t 18))]), qu 9 (.alloc 51 9 [(.bool false), e0, e0, (.bool false), e0, e0, (.bool false), e0, e0]), qm (.store 9 (.t 9) (.t 19))]) (.seq (.dreg [qu 20 (.load true 9 (.t 9)), qu 21 (.load true 8 (.t 6)), qu 22 (.load true 8 (.t 5)), qu 23 (.call 62 [(.t 21), (.t 22)]), qv 24 [3] (.load true 8 (.t 7)), qv 25 [3] (.load true 8 (.t 5)), qu 26 (.call 62 [(.t 24), (.t 25)]), qu 27 (.call 61 [(.t 23), (.t 26)]), qu 28 (.call 87 [(.t 20), (.t 27)]), qu 29 (.call 86 [(.t 28)]), qu 8 (.mv (.t 29))]) .ret)))
theorem tr41 : trFun Tryz.prog 41 = some ⟨30, [.t 8], c41⟩ := by kernel_rfl
set_option maxHeartbeats 2000000 in
theorem ok_r8left : SpecOK Tryz.prog 41 (flat spR8left) := by
  refine flat_run (env_cons ok_r8whole (env_cons ok_r8less (env_cons ok_r5Across (env_cons ok_r5Dot (env_cons ok_r3Sign (env_nil _)))))) mixed tr41 ?_
  intro args v h N hG
  unfold spR8left at hG
  split at hG
  case h_2 => cases hG
  rename_i cp ca cb cx
  split at hG
  case h_2 => cases hG
  rename_i P a b x hp ha hb hx
  split at hG
  case isFalse => cases hG
  rename_i hl
  obtain ⟨⟨sp, sa, sb, sx⟩, wa, wb, wx⟩ := hl
  cases hG
  have e1 := decP_eq hp
  have e2 := decP_eq ha
  have e3 := decP_eq hb
  have e4 := decP_eq hx
  subst e1 e2 e3 e4
  refine ⟨rfl, by simp, ?_⟩
  have f1 : spR8whole [.agg ⟨P.c1⟩] = some (.agg ⟨rE (P.x : Rat)⟩) := if_pos sp.1
  have f2 : spR8whole [.agg ⟨P.c2⟩] = some (.agg ⟨rE (P.y : Rat)⟩) := if_pos sp.2.1
  have f3 : spR8whole [.agg ⟨P.c3⟩] = some (.agg ⟨rE (P.z : Rat)⟩) := if_pos sp.2.2.1
  have k1 : spR8less [.agg ⟨b.cells⟩, .agg ⟨a.cells⟩] = _ := if_pos ⟨sb, sa⟩
  have k2 : spR8less [.agg ⟨x.cells⟩, .agg ⟨a.cells⟩] = _ := if_pos ⟨sx, sa⟩
  obtain ⟨b1, b2, b3⟩ := coords_rb sb
  obtain ⟨a1, a2, a3⟩ := coords_rb sa
  obtain ⟨x1, x2, x3⟩ := coords_rb sx
  have p1 := RB.int (len_sv (s := P.s1) sp.1) (by omega)
  have p2 := RB.int (len_sv (s := P.s2) sp.2.1) (by omega)
  have p3 := RB.int (len_sv (s := P.s3) sp.2.2.1) (by omega)
  have u1 := b1.sub a1 (k := 2000001) (by omega)
  have u2 := b2.sub a2 (k := 2000001) (by omega)
  have u3 := b3.sub a3 (k := 2000001) (by omega)
  have v1 := x1.sub a1 (k := 2000001) (by omega)
  have v2 := x2.sub a2 (k := 2000001) (by omega)
  have v3 := x3.sub a3 (k := 2000001) (by omega)
  have sg := lft_sign (P := P) wa wb wx
  rw [← sg]
  clear sg
  replace p1 : RB (P.x : Rat) 1000000 := p1
  replace p2 : RB (P.y : Rat) 1000000 := p2
  replace p3 : RB (P.z : Rat) 1000000 := p3
  have gp1 := P.g1; have gp2 := P.g2; have gp3 := P.g3
  have q1 := P.c1_len; have q2 := P.c2_len; have q3 := P.c3_len
  have lp := P.len8; have la := a.len8; have lb := b.len8; have lx := x.len8
  have ta := a.tk8; have tb := b.tk8; have tx := x.tk8
  generalize b.cx - a.cx = ux at *
  generalize b.cy - a.cy = uy at *
  generalize b.cz - a.cz = uz at *
  generalize x.cx - a.cx = vx at *
  generalize x.cy - a.cy = vy at *
  generalize x.cz - a.cz = vz at *
  generalize (P.x : Rat) = px at *
  generalize (P.y : Rat) = py at *
  generalize (P.z : Rat) = pz at *
  generalize P.c1 = c1 at *
  generalize P.c2 = c2 at *
  generalize P.c3 = c3 at *
  generalize P.cells = CP at *
  generalize a.cells = CA at *
  generalize b.cells = CB at *
  generalize x.cells = CX at *
  clear a1 a2 a3 b1 b2 b3 x1 x2 x3
  have ac : spR5Across [.agg ⟨r3E ux uy uz⟩, .agg ⟨r3E vx vy vz⟩] = some (.agg ⟨r3E (uy * vz - uz * vy) (uz * vx - ux * vz) (ux * vy - uy * vx)⟩) := by
    unfold spR5Across r3E rE
    simp only [List.cons_append, List.nil_append, rv_can]
    exact if_pos ⟨u1.num (by omega), u1.den (by omega), u2.num (by omega), u2.den (by omega), u3.num (by omega), u3.den (by omega), v1.num (by omega), v1.den (by omega), v2.num (by omega), v2.den (by omega), v3.num (by omega), v3.den (by omega)⟩
  have d1 := (u2.mul v3 (k := 4000002) (by omega)).sub (u3.mul v2 (k := 4000002) (by omega)) (k := 8000005) (by omega)
  have d2 := (u3.mul v1 (k := 4000002) (by omega)).sub (u1.mul v3 (k := 4000002) (by omega)) (k := 8000005) (by omega)
  have d3 := (u1.mul v2 (k := 4000002) (by omega)).sub (u2.mul v1 (k := 4000002) (by omega)) (k := 8000005) (by omega)
  unfold lftR
  generalize uy * vz - uz * vy = X at *
  generalize uz * vx - ux * vz = Y at *
  generalize ux * vy - uy * vx = Z at *
  have dt : spR5Dot [.agg ⟨r3E px py pz⟩, .agg ⟨r3E X Y Z⟩] = some (.agg ⟨rE (px * X + py * Y + pz * Z)⟩) := by
    unfold spR5Dot r3E rE
    simp only [List.cons_append, List.nil_append, rv_can]
    exact if_pos ⟨p1.num (by omega), p1.den (by omega), p2.num (by omega), p2.den (by omega), p3.num (by omega), p3.den (by omega), d1.num (by omega), d1.den (by omega), d2.num (by omega), d2.den (by omega), d3.num (by omega), d3.den (by omega)⟩
  have db := ((p1.mul d1 (k := 9000005) (by omega)).add (p2.mul d2 (k := 9000005) (by omega)) (k := 18000011) (by omega)).add (p3.mul d3 (k := 9000005) (by omega)) (k := 30000000) (by omega)
  generalize px * X + py * Y + pz * Z = W at *
  have sn : spR3Sign [.agg ⟨rE W⟩] = some (.int .i64 W.num.sign) := by
    refine (if_pos ⟨db.num (by omega), db.den (by omega)⟩).trans ?_
    rw [sv_can]
  simp only [c41, G0, Nat.reduceAdd]
  simp only [↓R0, R1, simprocAttr, -Int.reduceAbs, setR_length, gp1, gp2, gp3, q1, q2, q3, lp, la, lb, lx, ta, tb, tx, f1, f2, f3, rE_l3, v9_bld, v9_len, v9_ok, v9_tk, v9_new, k1, k2, ac, dt, sn, Fin, isEnd, resL, res1]
  exact ⟨_, rfl, rfl, fun k hk => by simp only [ne_nb hk, if_false]⟩
def spR5Great8 : List Value → Option Value
  | [.agg ⟨[.bool s1, .string ⟨⟨l1⟩⟩, .bool s2, .string ⟨⟨l2⟩⟩, .bool s3, .string ⟨⟨l3⟩⟩, .bool s4, .string ⟨⟨l4⟩⟩]⟩] => some (.int .i64 (if l1.length ≤ 6 ∧ l2.length ≤ 6 ∧ l3.length ≤ 6 ∧ l4.length ≤ 6 then 0 else 1))
  | _ => none
def c33 : ICode :=
  (.seq (.reg [qq 1 (.box 25 8 (.t 0)), qq 2 (.mv (ci 0))]) (.seq (.seq (.reg [qq 3 (.faddr 0 (.t 1)), qq 4 (.faddr 1 (.t 3)), qq 5 (.load false 1 (.t 4)), qq 6 (.lens (.t 5)), qq 7 (.bin .gtr (.t 6) (ci 6)), qq 8 (.mv (.t 7)), ⟨(some 9), (some (8, false)), (.faddr 2 (.t 1))⟩, ⟨(some 10), (some (8, false)), (.faddr 1 (.t 9))⟩, ⟨(some 11), (some (8, false)), (.load false 1 (.t 10))⟩, ⟨(some 12), (some (8, false)), (.lens (.t 11))⟩, ⟨(some 13), (some (8, false)), (.bin .gtr (.t 12) (ci 6))⟩, qq 14 (.pick (.t 8) (.c (.bool true)) (.t 13)), qq 15 (.mv (.t 14)), ⟨(some 16), (some (15, false)), (.faddr 4 (.t 1))⟩, ⟨(some 17), (some (15, false)), (.faddr 1 (.t 16))⟩, ⟨(some 18), (some (15, false)), (.load false 1 (.t 17))⟩, ⟨(some 19), (some (15, false)), (.lens (.t 18))⟩, ⟨(some 20), (some (15, false)), (.bin .gtr (.t 19) (ci 6))⟩, qq 21 (.pick (.t 15) (.c (.bool true)) (.t 20)), qq 22 (.mv (.t 21)), ⟨(some 23), (some (22, false)), (.faddr 6 (.t 1))⟩, ⟨(some 24), (some (22, false)), (.faddr 1 (.t 23))⟩, ⟨(some 25), (some (22, false)), (.load false 1 (.t 24))⟩, ⟨(some 26), (some (22, false)), (.lens (.t 25))⟩, ⟨(some 27), (some (22, false)), (.bin .gtr (.t 26) (ci 6))⟩, qq 28 (.pick (.t 22) (.c (.bool true)) (.t 27))]) (.cond (.t 28) (.seq (.reg [qq 2 (.mv (ci 1))]) .ret) .skip)) (.seq (.reg [qq 2 (.mv (ci 0))]) .ret)))
theorem tr33 : trFun Tryz.prog 33 = some ⟨29, [.t 2], c33⟩ := by kernel_rfl
set_option maxHeartbeats 2000000 in
theorem ok_r5Great8 : SpecOK Tryz.prog 33 (flat spR5Great8) := by
  refine flat_run (env_nil _) mixed tr33 ?_
  intro args v h N hG
  unfold spR5Great8 at hG
  split at hG
  case h_2 => cases hG
  rename_i s1 l1 s2 l2 s3 l3 s4 l4
  cases hG
  refine ⟨rfl, by simp, ?_⟩
  have tr : ∀ l : List UInt8, ¬ l.length ≤ 6 → ((l.length : Int) > 6) = True := fun l h => eq_true (by omega)
  have fl : ∀ l : List UInt8, l.length ≤ 6 → ((l.length : Int) > 6) = False := fun l h => eq_false (by omega)
  by_cases q1 : l1.length ≤ 6
  · have d1 := fl _ q1
    by_cases q2 : l2.length ≤ 6
    · have d2 := fl _ q2
      by_cases q3 : l3.length ≤ 6
      · have d3 := fl _ q3
        by_cases q4 : l4.length ≤ 6
        · have d4 := fl _ q4
          rw [if_pos ⟨q1, q2, q3, q4⟩]
          simp only [c33, G0, Nat.reduceAdd]
          simp only [↓R0, R1, simprocAttr, -Int.reduceAbs, d1, d2, d3, d4, Fin, isEnd, resL, res1, iE, rE]
          exact ⟨_, rfl, rfl, fun k hk => by simp only [ne_nb hk, if_false]⟩
        · have d4 := tr _ q4
          rw [if_neg (fun e => q4 e.2.2.2)]
          simp only [c33, G0, Nat.reduceAdd]
          simp only [↓R0, R1, simprocAttr, -Int.reduceAbs, d1, d2, d3, d4, Fin, isEnd, resL, res1, iE, rE]
          exact ⟨_, rfl, rfl, fun k hk => by simp only [ne_nb hk, if_false]⟩
      · have d3 := tr _ q3
        rw [if_neg (fun e => q3 e.2.2.1)]
        simp only [c33, G0, Nat.reduceAdd]
        simp only [↓R0, R1, simprocAttr, -Int.reduceAbs, d1, d2, d3, Fin, isEnd, resL, res1, iE, rE]
        exact ⟨_, rfl, rfl, fun k hk => by simp only [ne_nb hk, if_false]⟩
    · have d2 := tr _ q2
      rw [if_neg (fun e => q2 e.2.1)]
      simp only [c33, G0, Nat.reduceAdd]
      simp only [↓R0, R1, simprocAttr, -Int.reduceAbs, d1, d2, Fin, isEnd, resL, res1, iE, rE]
      exact ⟨_, rfl, rfl, fun k hk => by simp only [ne_nb hk, if_false]⟩
  · have d1 := tr _ q1
    rw [if_neg (fun e => q1 e.1)]
    simp only [c33, G0, Nat.reduceAdd]
    simp only [↓R0, R1, simprocAttr, -Int.reduceAbs, d1, Fin, isEnd, resL, res1, iE, rE]
    exact ⟨_, rfl, rfl, fun k hk => by simp only [ne_nb hk, if_false]⟩
end Go.Eng
end
section
set_option linter.unusedVariables false
set_option linter.unusedSimpArgs false
set_option linter.unusedSectionVars false
set_option maxRecDepth 20000
namespace Go.Eng
open Go Go.Proofs Go.IntWalk
theorem r4norm_of {p : Pt} (h : p.sz 1000000) : spR4Norm [.agg ⟨p.cells⟩] = some (.agg ⟨(ptN p).cells⟩) := by
  refine Eq.trans (if_pos ⟨?_, ?_, ?_, ?_⟩) rfl
  · exact Nat.le_trans h.1 (by omega)
  · exact Nat.le_trans h.2.1 (by omega)
  · exact Nat.le_trans h.2.2.1 (by omega)
  · exact Nat.le_trans h.2.2.2 (by omega)
theorem r5norm_of {p : Pt} (h : p.sz 1000000) : spR5Norm [.agg ⟨p.cells⟩] = if p.x = 0 ∧ p.y = 0 ∧ p.z = 0 then some (.tuple ⟨[.agg ⟨pZ⟩, .bool false]⟩) else some (.tuple ⟨[.agg ⟨(plN p).cells⟩, .bool true]⟩) := by
  refine Eq.trans (if_pos ⟨?_, ?_, ?_, ?_⟩) rfl
  · exact Nat.le_trans h.1 (by omega)
  · exact Nat.le_trans h.2.1 (by omega)
  · exact Nat.le_trans h.2.2.1 (by omega)
  · exact Nat.le_trans h.2.2.2 (by omega)
theorem r5side_of {P p : Pt} (h : P.sz 1000000) (h' : p.sz 1000000) : spR5Side [.agg ⟨P.cells⟩, .agg ⟨p.cells⟩] = some (.int .i64 (sdv P p).sign) := by
  have e : -(P.w * p.w) + P.x * p.x + P.y * p.y + P.z * p.z = sdv P p := by
    unfold sdv
    generalize P.w * p.w = a
    generalize P.x * p.x = b
    generalize P.y * p.y = c
    generalize P.z * p.z = d
    omega
  rw [← e]
  refine Eq.trans (if_pos ⟨?_, ?_, ?_, ?_, ?_, ?_, ?_, ?_⟩) rfl
  · exact Nat.le_trans h.1 (by omega)
  · exact Nat.le_trans h.2.1 (by omega)
  · exact Nat.le_trans h.2.2.1 (by omega)
  · exact Nat.le_trans h.2.2.2 (by omega)
  · exact Nat.le_trans h'.1 (by omega)
  · exact Nat.le_trans h'.2.1 (by omega)
  · exact Nat.le_trans h'.2.2.1 (by omega)
  · exact Nat.le_trans h'.2.2.2 (by omega)
theorem can_w {p : Pt} (h : ptN p = p) : 0 < p.w := by
  have e : (ptN p).w = pQ p.x p.y p.z p.w (pW p.w) := sv_can _
  have q : 0 < (ptN p).w := by rw [e]; exact pQ_pos _ _ _ _
  rw [h] at q
  exact q
def c12 : ICode :=
  (.seq (.reg [qq 1 (.box 28 9 (.t 0)), qq 2 (.mv (ci 0))]) (.seq (.reg [qq 15 (.faddr 0 (.t 1)), qq 16 (.load true 8 (.t 15)), qq 17 (.call 38 [(.t 16)]), qq 14 (.mv (.t 17)), qq 18 (.ext (.t 14) 0), qq 19 (.ext (.t 14) 1), qq 3 (.alloc 25 8 [(.bool false), e0, (.bool false), e0, (.bool false), e0, (.bool false), e0]), qn (.store 8 (.t 3) (.t 18)), qq 4 (.mv (.t 19))]) (.seq (.seq (.reg [qq 20 (.mv (.t 4)), qq 21 (.un .not (.t 20)), qq 22 (.mv (.t 21)), ⟨(some 23), (some (22, false)), (.load true 8 (.t 3))⟩, ⟨(some 24), (some (22, false)), (.faddr 0 (.t 1))⟩, ⟨(some 25), (some (22, false)), (.load true 8 (.t 24))⟩, ⟨(some 26), (some (22, false)), (.eqa true [.b, .s, .b, .s, .b, .s, .b, .s] (.t 23) (.t 25))⟩, qq 27 (.pick (.t 22) (.c (.bool true)) (.t 26))]) (.cond (.t 27) (.seq (.reg [qq 2 (.mv (ci 3))]) .ret) .skip)) (.seq (.seq (.reg [qq 28 (.faddr 8 (.t 1)), qq 29 (.load false 1 (.t 28)), qq 30 (.lensl (.t 29)), qq 31 (.mv (ci 0))]) (.block 0 (.loop (.seq (.reg [qq 32 (.bin .lss (.t 31) (.t 30))]) (.seq (.cond (.t 32) .skip (.exit 0)) (.seq (.block 1 (.seq (.reg [qq 33 (.ixsl 8 (.t 29) (.t 31)), qq 34 (.load true 8 (.t 33)), qq 6 (.alloc 41 8 [(.bool false), e0, (.bool false), e0, (.bool false), e0, (.bool false), e0]), qn (.store 8 (.t 6) (.t 34))]) (.seq (.dreg [qu 35 (.load true 8 (.t 6)), qu 36 (.call 39 [(.t 35)]), qv 37 [1] (.load true 8 (.t 6)), qu 38 (.eqa true [.b, .s, .b, .s, .b, .s, .b, .s] (.t 36) (.t 37))]) (.cond (.t 38) (.seq (.reg [qq 2 (.mv (ci 3))]) .ret) .skip)))) (.reg [qq 39 (.bin .add (.t 31) (ci 1)), qq 31 (.mv (.t 39))]))))))) (.seq (.seq (.reg [qq 40 (.faddr 8 (.t 1)), qq 41 (.load false 1 (.t 40)), qq 42 (.lensl (.t 41)), qq 43 (.bin .lss (.t 42) (ci 3))]) (.cond (.t 43) (.seq (.reg [qq 2 (.mv (ci 4))]) .ret) .skip)) (.seq (.seq (.reg [qq 44 (.faddr 8 (.t 1)), qq 45 (.load false 1 (.t 44)), qq 46 (.lensl (.t 45)), qq 47 (.mv (ci 0))]) (.block 2 (.loop (.seq (.reg [qq 48 (.bin .lss (.t 47) (.t 46))]) (.seq (.cond (.t 48) .skip (.exit 2)) (.seq (.block 3 (.seq (.reg [qq 49 (.ixsl 8 (.t 45) (.t 47)), qq 50 (.load true 8 (.t 49)), qq 8 (.alloc 41 8 [(.bool false), e0, (.bool false), e0, (.bool false), e0, (.bool false), e0]), qn (.store 8 (.t 8) (.t 50))]) (.seq (.reg [qq 51 (.faddr 0 (.t 1)), qq 52 (.load true 8 (.t 51)), qq 53 (.load true 8 (.t 8)), qq 54 (.call 40 [(.t 52), (.t 53)]), qq 55 (.bin .neq (.t 54) (ci 0))]) (.cond (.t 55) (.seq (.reg [qq 2 (.mv (ci 2))]) .ret) .skip)))) (.reg [qq 56 (.bin .add (.t 47) (ci 1)), qq 47 (.mv (.t 56))]))))))) (.seq (.seq (.reg [qq 57 (.faddr 8 (.t 1)), qq 58 (.load false 1 (.t 57)), qq 59 (.lensl (.t 58)), qq 60 (.mv (ci 0))]) (.block 4 (.loop (.seq (.reg [qq 61 (.bin .lss (.t 60) (.t 59))]) (.seq (.cond (.t 61) .skip (.exit 4)) (.seq (.block 5 (.seq (.reg [qq 62 (.mv (.t 60)), qq 63 (.ixsl 8 (.t 58) (.t 60)), qq 64 (.load true 8 (.t 63)), qq 10 (.alloc 41 8 [(.bool false), e0, (.bool false), e0, (.bool false), e0, (.bool false), e0]), qq 9 (.mv (.t 62)), qn (.store 8 (.t 10) (.t 64))]) (.seq (.reg [qq 65 (.mv (.t 9)), qq 66 (.bin .add (.t 65) (ci 1)), qq 67 (.faddr 8 (.t 1)), qq 68 (.load false 1 (.t 67)), qq 69 (.lensl (.t 68)), qq 70 (.bin .rem (.t 66) (.t 69)), qq 11 (.mv (.t 70))]) (.seq (.reg [qq 71 (.faddr 8 (.t 1)), qq 72 (.load false 1 (.t 71)), qq 73 (.lensl (.t 72)), qq 74 (.mv (ci 0))]) (.block 6 (.loop (.seq (.reg [qq 75 (.bin .lss (.t 74) (.t 73))]) (.seq (.cond (.t 75) .skip (.exit 6)) (.seq (.block 7 (.seq (.reg [qq 76 (.mv (.t 74)), qq 77 (.ixsl 8 (.t 72) (.t 74)), qq 78 (.load true 8 (.t 77)), qq 13 (.alloc 41 8 [(.bool false), e0, (.bool false), e0, (.bool false), e0, (.bool false), e0]), qq 12 (.mv (.t 76)), qn (.store 8 (.t 13) (.t 78))]) (.seq (.dreg [qu 79 (.mv (.t 12)), qu 80 (.mv (.t 9)), qu 81 (.bin .neq (.t 79) (.t 80)), qu 82 (.mv (.t 81)), ⟨(some 83), (some (82, true)), [], (.mv (.t 12))⟩, ⟨(some 84), (some (82, true)), [], (.mv (.t 11))⟩, ⟨(some 85), (some (82, true)), [], (.bin .neq (.t 83) (.t 84))⟩, qu 86 (.pick (.t 82) (.t 85) (.c (.bool false))), qu 87 (.mv (.t 86)), ⟨(some 88), (some (87, true)), [], (.faddr 0 (.t 1))⟩, ⟨(some 89), (some (87, true)), [], (.load true 8 (.t 88))⟩, ⟨(some 90), (some (87, true)), [], (.load true 8 (.t 10))⟩, ⟨(some 91), (some (87, true)), [], (.faddr 8 (.t 1))⟩, ⟨(some 92), (some (87, true)), [], (.load false 1 (.t 91))⟩, ⟨(some 93), (some (87, true)), [], (.mv (.t 11))⟩, ⟨(some 94), (some (87, true)), [], (.ixsl 8 (.t 92) (.t 93))⟩, ⟨(some 95), (some (87, true)), [], (.load true 8 (.t 94))⟩, ⟨(some 96), (some (87, true)), [], (.load true 8 (.t 13))⟩, ⟨(some 97), (some (87, true)), [], (.call 41 [(.t 89), (.t 90), (.t 95), (.t 96)])⟩, ⟨(some 98), (some (87, true)), [], (.bin .leq (.t 97) (ci 0))⟩, qu 99 (.pick (.t 87) (.t 98) (.c (.bool false)))]) (.cond (.t 99) (.seq (.reg [qq 2 (.mv (ci 1))]) .ret) .skip)))) (.reg [qq 100 (.bin .add (.t 74) (ci 1)), qq 74 (.mv (.t 100))])))))))))) (.reg [qq 101 (.bin .add (.t 60) (ci 1)), qq 60 (.mv (.t 101))]))))))) (.seq (.reg [qq 2 (.mv (ci 0))]) .ret))))))))
theorem tr12 : trFun Tryz.prog 12 = some ⟨102, [.t 2], c12⟩ := by kernel_rfl
set_option maxHeartbeats 8000000 in
theorem ok_r8check : SpecOK Tryz.prog 12 (rdS spPchk) := by
  refine rd_run (env_cons ok_r5Norm (env_cons ok_r4Norm (env_cons ok_r5Side (env_cons ok_r8left (env_nil _))))) mixed tr12 ?_ ?_
  · intro args h h' v hle e
    unfold spPchk at e ⊢
    split at e
    · rename_i cs
      split at e
      · rename_i P l hb
        simp only [decPoly_mono hle hb]; exact e
      · cases e
    · cases e
  intro args v h N hG hN
  unfold spPchk at hG
  split at hG
  case h_2 => cases hG
  rename_i cs
  split at hG
  case h_2 => cases hG
  rename_i P l hx
  split at hG
  case isFalse => cases hG
  rename_i hs
  cases hG
  obtain ⟨sl, rfl, hx'⟩ := decPoly_eq hx
  clear hx
  rename listAt 8 decP h sl = some l => hx
  obtain ⟨a, c, rfl⟩ := listAt_sl hx
  have hn3 := hs.2.2
  refine ⟨by rfl, by simp, ?_⟩
  have c9 := pc9_s P (.slice a l.length c)
  have l9 := pc9_len P (.slice a l.length c)
  have t9 := pc9_tk P (.slice a l.length c)
  have g9 := pc9_g P (.slice a l.length c)
  have dec9 : ∀ hp, hle h hp → decPoly hp (pc9 P (.slice a l.length c)) = some (P, l) := fun hp hl => decPoly_mono hl (decPoly_of hx)
  generalize pc9 P (.slice a l.length c) = C9 at *
  have lP := P.len8
  have stz : setR [.bool false, .string ⟨⟨[]⟩⟩, .bool false, .string ⟨⟨[]⟩⟩, .bool false, .string ⟨⟨[]⟩⟩, .bool false, .string ⟨⟨[]⟩⟩] 0 pZ = pZ := rfl
  have stn : setR [.bool false, .string ⟨⟨[]⟩⟩, .bool false, .string ⟨⟨[]⟩⟩, .bool false, .string ⟨⟨[]⟩⟩, .bool false, .string ⟨⟨[]⟩⟩] 0 (plN P).cells = (plN P).cells := rfl
  have ln := (plN P).len8
  have on := (plN P).ok8
  have tn := (plN P).tk8
  have lz : pZ.length = 8 := rfl
  have oz : pZ.all okCell = true := rfl
  have tz : pZ.take 8 = pZ := rfl
  have nm := r5norm_of hs.1
  by_cases z0 : P.x = 0 ∧ P.y = 0 ∧ P.z = 0
  · rw [if_pos z0] at nm
    rw [chk_1 (fun e => e.1 z0)]
    simp only [c12, G0, Nat.reduceAdd]
    simp only [↓R0, R1, simprocAttr, -Int.reduceAbs, l9, c9, g9, t9, lP, stz, stn, ln, on, tn, lz, oz, tz, Bool.not_false, Bool.not_true, nm, Fin, isEnd, resL, res1, iE, rE]
    exact ⟨_, rfl, rfl, fun k hk => by simp only [ne_nb hk, if_false]⟩
  rw [if_neg z0] at nm
  have cq := ceq_Pt (plN P) P
  by_cases z1 : plN P = P
  case neg =>
    rw [chk_1 (fun e => z1 e.2)]
    rw [decide_eq_false z1] at cq
    simp only [c12, G0, Nat.reduceAdd]
    simp only [↓R0, R1, simprocAttr, -Int.reduceAbs, l9, c9, g9, t9, lP, stz, stn, ln, on, tn, lz, oz, tz, Bool.not_false, Bool.not_true, nm, cq, Fin, isEnd, resL, res1, iE, rE]
    exact ⟨_, rfl, rfl, fun k hk => by simp only [ne_nb hk, if_false]⟩
  rw [decide_eq_true z1] at cq
  have can : plCan P := ⟨z0, z1⟩
  simp only [c12, G0, Nat.reduceAdd]
  simp only [↓R0, R1, simprocAttr, -Int.reduceAbs, l9, c9, g9, t9, lP, stz, stn, ln, on, tn, lz, oz, tz, Bool.not_false, Bool.not_true, nm, cq]
  clear cq nm stz stn ln on tn lz oz tz
  refine lp_parts (fun n tm hp nx => ∃ (i M : Nat), n + i = l.length ∧ tmget tm 29 = .slice a l.length c ∧ tmget tm 30 = .int .i64 l.length ∧ tmget tm 31 = .int .i64 i ∧ tmget tm 1 = .pointer (some ⟨N + 0, 0, none⟩) ∧
      hget hp (N + 0) = some ⟨28, 9, true, C9⟩ ∧ (∀ j, j < i → ptN (ptAt l j) = ptAt l j) ∧ (∀ q, q < N → hget hp q = hget h q) ∧ N + 2 ≤ M ∧ nx = M + 0) ?_ l.length
    ⟨0, N + 2, by omega, ?_, ?_, ?_, ?_, ?_, fun i hi => by omega, ?_, Nat.le_refl _, rfl⟩
  rotate_left
  all_goals first | (simp only [↓R0, R1, simprocAttr, -Int.reduceAbs]; done) | (simp only [↓R0, R1, simprocAttr, -Int.reduceAbs]; rfl) | skip
  · intro q hq
    have nb : ∀ j, (N + j = q) = False := fun j => eq_false (by omega)
    simp only [↓R0, R1, simprocAttr, -Int.reduceAbs, nb]
  rintro n tm hp nx ⟨i, M, hn, tA, tB, tC, t1, b0, hall, hh, hM, hnx⟩
  rw [hnx]
  clear hnx nx
  have n0 : ∀ j, (M + j = N + 0) = False := fun j => eq_false (by omega)
  by_cases c1 : i < l.length
  · obtain ⟨k, off, blk, ea, hb, q1, q2⟩ := vert_at hx c1
    subst ea
    have hk := hN _ _ hb
    have hbb : hget hp k = some blk := by rw [hh k hk]; exact hb
    have nk : ∀ j, (M + j = k) = False := fun j => eq_false (by omega)
    have c1' : ((i : Int) < (l.length : Int)) = True := eq_true (by omega)
    have w1 : IntKind.i64.wrap ((i : Int) + 1) = ((i + 1 : Nat) : Int) := by rw [i64_in _ (by omega)]; omega
    have sX := hs.at c1
    obtain ⟨X, eX⟩ : ∃ A, ptAt l i = A := ⟨_, rfl⟩
    rw [eX] at q2 sX
    have aX := X.len8; have oX := X.ok8; have tX := X.tk8
    have stX : setR [.bool false, .string ⟨⟨[]⟩⟩, .bool false, .string ⟨⟨[]⟩⟩, .bool false, .string ⟨⟨[]⟩⟩, .bool false, .string ⟨⟨[]⟩⟩] 0 X.cells = X.cells := rfl
    have nmX := r4norm_of sX
    have cX := ceq_Pt (ptN X) X
    by_cases s1 : ptN X = X
    · rw [decide_eq_true s1] at cX
      simp only [↓R0, R1, simprocAttr, -Int.reduceAbs, Bool.not_false, Bool.not_true, tA, tB, tC, t1, b0, n0, c1, c1', hbb, nk, q1, q2, w1, aX, oX, tX, stX, nmX, cX]
      refine ⟨n - 1, by omega, i + 1, M + 1, by omega, rfl, fun j hj => ?_, fun q hq => ?_, by omega, rfl⟩
      · by_cases e : j = i
        · rw [e, eX]; exact s1
        · exact hall j (by omega)
      · simp only [show (M + 0 = q) = False from eq_false (by omega), if_false]; exact hh q hq
    · rw [decide_eq_false s1] at cX
      rw [chk_2 can c1 (by rw [eX]; exact s1)]
      simp only [↓R0, R1, simprocAttr, -Int.reduceAbs, Bool.not_false, Bool.not_true, tA, tB, tC, t1, b0, n0, c1, c1', hbb, nk, q1, q2, w1, aX, oX, tX, stX, nmX, cX, Fin, isEnd, resL, res1]
      refine ⟨_, rfl, rfl, fun q hq => ?_⟩
      simp only [show (M + 0 = q) = False from eq_false (by omega), if_false]; exact hh q hq
  have e : i = l.length := by omega
  subst e
  have c1' : ((l.length : Int) < (l.length : Int)) = False := eq_false (by omega)
  by_cases s3 : l.length < 3
  · have s3' : ((l.length : Int) < 3) = True := eq_true (by omega)
    rw [chk_3 can hall s3]
    simp only [↓R0, R1, simprocAttr, -Int.reduceAbs, tA, tB, tC, t1, b0, c1', l9, c9, s3', Fin, isEnd, resL, res1]
    exact ⟨_, rfl, rfl, hh⟩
  have s3' : ((l.length : Int) < 3) = False := eq_false (by omega)
  simp only [↓R0, R1, simprocAttr, -Int.reduceAbs, tA, tB, tC, t1, b0, c1', l9, c9, s3']
  have canAll := hall
  clear hall tA tB tC c1 n0
  refine lp_parts (fun n tm hp nx => ∃ (i M : Nat), n + i = l.length ∧ tmget tm 45 = .slice a l.length c ∧ tmget tm 46 = .int .i64 l.length ∧ tmget tm 47 = .int .i64 i ∧ tmget tm 1 = .pointer (some ⟨N + 0, 0, none⟩) ∧
      hget hp (N + 0) = some ⟨28, 9, true, C9⟩ ∧ (∀ j, j < i → sdv P (ptAt l j) = 0) ∧ (∀ q, q < N → hget hp q = hget h q) ∧ N + 2 ≤ M ∧ nx = M + 0) ?_ l.length
    ⟨0, M, by omega, ?_, ?_, ?_, ?_, ?_, fun i hi => by omega, hh, hM, rfl⟩
  rotate_left
  all_goals first | (simp only [↓R0, R1, simprocAttr, -Int.reduceAbs, t1, b0]; done) | (simp only [↓R0, R1, simprocAttr, -Int.reduceAbs, t1, b0]; rfl) | skip
  clear hh hM t1 b0 c1'
  rintro n tm hp nx ⟨i, M, hn, tA, tB, tC, t1, b0, hall, hh, hM, hnx⟩
  rw [hnx]
  clear hnx nx
  have n0 : ∀ j, (M + j = N + 0) = False := fun j => eq_false (by omega)
  by_cases c1 : i < l.length
  · obtain ⟨k, off, blk, ea, hb, q1, q2⟩ := vert_at hx c1
    subst ea
    have hk := hN _ _ hb
    have hbb : hget hp k = some blk := by rw [hh k hk]; exact hb
    have nk : ∀ j, (M + j = k) = False := fun j => eq_false (by omega)
    have c1' : ((i : Int) < (l.length : Int)) = True := eq_true (by omega)
    have w1 : IntKind.i64.wrap ((i : Int) + 1) = ((i + 1 : Nat) : Int) := by rw [i64_in _ (by omega)]; omega
    have sX := hs.at c1
    obtain ⟨X, eX⟩ : ∃ A, ptAt l i = A := ⟨_, rfl⟩
    rw [eX] at q2 sX
    have aX := X.len8; have oX := X.ok8; have tX := X.tk8
    have stX : setR [.bool false, .string ⟨⟨[]⟩⟩, .bool false, .string ⟨⟨[]⟩⟩, .bool false, .string ⟨⟨[]⟩⟩, .bool false, .string ⟨⟨[]⟩⟩] 0 X.cells = X.cells := rfl
    have sd := r5side_of hs.1 sX
    by_cases s1 : sdv P X = 0
    · have s1' := sign0 s1
      simp only [↓R0, R1, simprocAttr, -Int.reduceAbs, Bool.not_false, Bool.not_true, tA, tB, tC, t1, b0, n0, c1, c1', hbb, nk, q1, q2, w1, aX, oX, tX, stX, sd, s1', g9, l9, lP]
      refine ⟨n - 1, by omega, i + 1, M + 1, by omega, rfl, fun j hj => ?_, fun q hq => ?_, by omega, rfl⟩
      · by_cases e : j = i
        · rw [e, eX]; exact s1
        · exact hall j (by omega)
      · simp only [show (M + 0 = q) = False from eq_false (by omega), if_false]; exact hh q hq
    · have s1' := sign1 s1
      rw [chk_4 can canAll s3 c1 (by rw [eX]; exact s1)]
      simp only [↓R0, R1, simprocAttr, -Int.reduceAbs, Bool.not_false, Bool.not_true, tA, tB, tC, t1, b0, n0, c1, c1', hbb, nk, q1, q2, w1, aX, oX, tX, stX, sd, s1', g9, l9, lP, Fin, isEnd, resL, res1]
      refine ⟨_, rfl, rfl, fun q hq => ?_⟩
      simp only [show (M + 0 = q) = False from eq_false (by omega), if_false]; exact hh q hq
  have e : i = l.length := by omega
  subst e
  have c1' : ((l.length : Int) < (l.length : Int)) = False := eq_false (by omega)
  rw [chk_5 can canAll s3 hall]
  simp only [↓R0, R1, simprocAttr, -Int.reduceAbs, tA, tB, tC, t1, b0, c1', l9, c9]
  refine lp_parts (fun n tm hp nx => ∃ (i M : Nat), n + i = l.length ∧ tmget tm 58 = .slice a l.length c ∧ tmget tm 59 = .int .i64 l.length ∧ tmget tm 60 = .int .i64 i ∧ tmget tm 1 = .pointer (some ⟨N + 0, 0, none⟩) ∧
      hget hp (N + 0) = some ⟨28, 9, true, C9⟩ ∧ (∀ i', i' < i → ∀ j, j < l.length → j ≠ i' → j ≠ (i' + 1) % l.length → 0 < lftZ P (ptAt l i') (ptAt l ((i' + 1) % l.length)) (ptAt l j)) ∧ (∀ q, q < N → hget hp q = hget h q) ∧ N + 1 ≤ M ∧ nx = M + 0) ?_ l.length
    ⟨0, M, by omega, ?_, ?_, ?_, ?_, ?_, fun i hi => by omega, hh, by omega, rfl⟩
  rotate_left
  all_goals first | (simp only [↓R0, R1, simprocAttr, -Int.reduceAbs, t1, b0]; done) | (simp only [↓R0, R1, simprocAttr, -Int.reduceAbs, t1, b0]; rfl) | skip
  clear hh hM t1 b0 c1' hall
  rintro n tm hp nx ⟨i, M, hn, t9', t10, t11, t1, b0, hall, hh, hM, hnx⟩
  rw [hnx]
  clear hnx nx
  by_cases c1 : i < l.length
  · obtain ⟨k, off, blk, ea, hb, q1, q2⟩ := vert_at hx c1
    subst ea
    have hk := hN _ _ hb
    have hbb : hget hp k = some blk := by rw [hh k hk]; exact hb
    have nk : ∀ j, (M + j = k) = False := fun j => eq_false (by omega)
    have n0 : ∀ j, (M + j = N + 0) = False := fun j => eq_false (by omega)
    have c1' : ((i : Int) < (l.length : Int)) = True := eq_true (by omega)
    have w1 : IntKind.i64.wrap ((i : Int) + 1) = ((i + 1 : Nat) : Int) := by rw [i64_in _ (by omega)]; omega
    have hi1 : (i + 1) % l.length < l.length := Nat.mod_lt _ (by omega)
    have z1 : ((l.length : Int) = 0) = False := eq_false (by omega)
    have z2 : (l.length = 0) = False := eq_false (by omega)
    have m1 : Int.tmod ((i + 1 : Nat) : Int) (l.length : Int) = (((i + 1) % l.length : Nat) : Int) := by rw [Int.tmod_eq_emod_of_nonneg (by omega)]; rfl
    obtain ⟨A, eA⟩ : ∃ A, ptAt l i = A := ⟨_, rfl⟩
    rw [eA] at q2
    have aA := A.len8; have oA := A.ok8; have tA := A.tk8
    have stA : setR [.bool false, .string ⟨⟨[]⟩⟩, .bool false, .string ⟨⟨[]⟩⟩, .bool false, .string ⟨⟨[]⟩⟩, .bool false, .string ⟨⟨[]⟩⟩] 0 A.cells = A.cells := rfl
    simp only [↓R0, R1, simprocAttr, -Int.reduceAbs, t9', t10, t11, t1, b0, c1, c1', nk, n0, hbb, q1, q2, aA, oA, tA, stA, l9, t9, c9, w1, z1, z2, m1]
    refine lp_parts (fun n2 tm hp nx => ∃ (j M2 : Nat), n2 + j = l.length ∧ tmget tm 72 = .slice (some ⟨k, off, none⟩) l.length c ∧ tmget tm 73 = .int .i64 l.length ∧ tmget tm 74 = .int .i64 j ∧ tmget tm 58 = .slice (some ⟨k, off, none⟩) l.length c ∧ tmget tm 59 = .int .i64 l.length ∧ tmget tm 60 = .int .i64 i ∧ tmget tm 1 = .pointer (some ⟨N + 0, 0, none⟩) ∧ tmget tm 9 = .int .i64 i ∧ tmget tm 10 = .pointer (some ⟨M + 0, 0, none⟩) ∧ tmget tm 11 = .int .i64 (((i + 1) % l.length : Nat) : Int) ∧
        hget hp (N + 0) = some ⟨28, 9, true, C9⟩ ∧ hget hp (M + 0) = some ⟨41, 8, true, A.cells⟩ ∧ (∀ j', j' < j → j' ≠ i → j' ≠ (i + 1) % l.length → 0 < lftZ P A (ptAt l ((i + 1) % l.length)) (ptAt l j')) ∧ (∀ q, q < N → hget hp q = hget h q) ∧ M + 1 ≤ M2 ∧ nx = M2 + 0) ?_ l.length
      ⟨0, M + 1, by omega, ?_, ?_, ?_, ?_, ?_, ?_, ?_, ?_, ?_, ?_, ?_, ?_, fun j hj => by omega, ?_, Nat.le_refl _, rfl⟩
    · clear nk n0 hbb hh b0 t9' t10 t11 t1
      rintro n2 tm hp nx ⟨j, M2, hn2, t20, t21, t22, t9', t10, t11, t1, t3, t4, t5, b0, bM, hall2, hh, hM2, hnx⟩
      rw [hnx]
      clear hnx nx
      by_cases d1 : j < l.length
      · have d1' : ((j : Int) < (l.length : Int)) = True := eq_true (by omega)
        have hbb : hget hp k = some blk := by rw [hh k hk]; exact hb
        have nk : ∀ j, (M2 + j = k) = False := fun j => eq_false (by omega)
        have n0 : ∀ j, (M2 + j = N + 0) = False := fun j => eq_false (by omega)
        have nM : ∀ j, (M2 + j = M + 0) = False := fun j => eq_false (by omega)
        have w2 : IntKind.i64.wrap ((j : Int) + 1) = ((j + 1 : Nat) : Int) := by rw [i64_in _ (by omega)]; omega
        obtain ⟨k', off', blk', ea', hb', p1, p2⟩ := vert_at hx d1
        cases ea'
        rw [hb] at hb'; cases hb'
        obtain ⟨X, eX⟩ : ∃ A, ptAt l j = A := ⟨_, rfl⟩
        rw [eX] at p2
        have aX := X.len8; have oX := X.ok8; have tX := X.tk8
        have stX : setR [.bool false, .string ⟨⟨[]⟩⟩, .bool false, .string ⟨⟨[]⟩⟩, .bool false, .string ⟨⟨[]⟩⟩, .bool false, .string ⟨⟨[]⟩⟩] 0 X.cells = X.cells := rfl
        by_cases s1 : j = i
        · have s1' : ((j : Int) = (i : Int)) = True := eq_true (by omega)
          have s1b : (j = i) = True := eq_true s1
          simp only [↓R0, R1, simprocAttr, -Int.reduceAbs, t20, t21, t22, t9', t10, t11, t1, t3, t4, t5, b0, bM, d1, d1', nk, n0, nM, hbb, p1, p2, aX, oX, tX, stX, s1', s1b, w2]
          refine ⟨n2 - 1, by omega, j + 1, M2 + 1, by omega, rfl, fun j' hj' ne1 ne2 => ?_, fun q hq => ?_, by omega, rfl⟩
          · by_cases e : j' = j
            · exact absurd (e.trans s1) ne1
            · exact hall2 j' (by omega) ne1 ne2
          · simp only [show (M2 + 0 = q) = False from eq_false (by omega), if_false]; exact hh q hq
        have s1' : ((j : Int) = (i : Int)) = False := eq_false (by omega)
        have s1b : (j = i) = False := eq_false s1
        by_cases s2 : j = (i + 1) % l.length
        · have s2' : ((j : Int) = (((i + 1) % l.length : Nat) : Int)) = True := eq_true (by omega)
          have s2b : (j = (i + 1) % l.length) = True := eq_true s2
          simp only [↓R0, R1, simprocAttr, -Int.reduceAbs, t20, t21, t22, t9', t10, t11, t1, t3, t4, t5, b0, bM, d1, d1', nk, n0, nM, hbb, p1, p2, aX, oX, tX, stX, s1', s1b, s2', s2b, w2]
          refine ⟨n2 - 1, by omega, j + 1, M2 + 1, by omega, rfl, fun j' hj' ne1 ne2 => ?_, fun q hq => ?_, by omega, rfl⟩
          · by_cases e : j' = j
            · exact absurd (e.trans s2) ne2
            · exact hall2 j' (by omega) ne1 ne2
          · simp only [show (M2 + 0 = q) = False from eq_false (by omega), if_false]; exact hh q hq
        have s2' : ((j : Int) = (((i + 1) % l.length : Nat) : Int)) = False := eq_false (by omega)
        have s2b : (j = (i + 1) % l.length) = False := eq_false s2
        obtain ⟨k', off', blk', ea', hb', r1, r2⟩ := vert_at hx hi1
        cases ea'
        rw [hb] at hb'; cases hb'
        have hi1' : ((((i + 1) % l.length : Nat) : Int) < (l.length : Int)) = True := eq_true (by omega)
        have lf : spR8left [.agg ⟨P.cells⟩, .agg ⟨A.cells⟩, .agg ⟨(ptAt l ((i + 1) % l.length)).cells⟩, .agg ⟨X.cells⟩] = some (.int .i64 (lftZ P A (ptAt l ((i + 1) % l.length)) X).sign) :=
          if_pos ⟨⟨hs.1, eA ▸ hs.at c1, hs.at hi1, eX ▸ hs.at d1⟩, eA ▸ can_w (canAll i c1), can_w (canAll _ hi1), eX ▸ can_w (canAll j d1)⟩
        have aP := P.len8
        obtain ⟨z, ez⟩ : ∃ z, lftZ P A (ptAt l ((i + 1) % l.length)) X = z := ⟨_, rfl⟩
        rw [ez] at lf
        by_cases s3 : 0 < z
        · have s3' : (z.sign ≤ 0) = False := by rw [Int.sign_eq_one_of_pos s3]; decide
          simp only [↓R0, R1, simprocAttr, -Int.reduceAbs, t20, t21, t22, t9', t10, t11, t1, t3, t4, t5, b0, bM, d1, d1', nk, n0, nM, hbb, p1, p2, aX, oX, tX, stX, s1', s1b, s2', s2b, w2, g9, l9, c9, aP, aA, tA, hi1, hi1', r1, r2, lf, s3']
          refine ⟨n2 - 1, by omega, j + 1, M2 + 1, by omega, rfl, fun j' hj' ne1 ne2 => ?_, fun q hq => ?_, by omega, rfl⟩
          · by_cases e : j' = j
            · rw [e, eX, ez]; exact s3
            · exact hall2 j' (by omega) ne1 ne2
          · simp only [show (M2 + 0 = q) = False from eq_false (by omega), if_false]; exact hh q hq
        · have s3' : (z.sign ≤ 0) = True := eq_true (by
            rcases (by omega : z < 0 ∨ z = 0) with h | h
            · rw [Int.sign_eq_neg_one_of_neg h]; decide
            · rw [h]; decide)
          rw [if_neg (fun ht : turnsP P l => by
            have := ht i c1 j d1 s1 s2
            rw [eA, eX, ez] at this
            exact s3 this)]
          simp only [↓R0, R1, simprocAttr, -Int.reduceAbs, t20, t21, t22, t9', t10, t11, t1, t3, t4, t5, b0, bM, d1, d1', nk, n0, nM, hbb, p1, p2, aX, oX, tX, stX, s1', s1b, s2', s2b, w2, g9, l9, c9, aP, aA, tA, hi1, hi1', r1, r2, lf, s3', Fin, isEnd, resL, res1]
          refine ⟨_, rfl, rfl, fun q hq => ?_⟩
          simp only [show (M2 + 0 = q) = False from eq_false (by omega), if_false]; exact hh q hq
      · have ej : j = l.length := by omega
        subst ej
        have d1' : ((l.length : Int) < (l.length : Int)) = False := eq_false (by omega)
        simp only [↓R0, R1, simprocAttr, -Int.reduceAbs, t20, t21, t22, t9', t10, t11, t1, d1', w1]
        refine ⟨n - 1, by omega, i + 1, M2, by omega, rfl, b0, fun i' hi' j hj ne1 ne2 => ?_, hh, by omega, rfl⟩
        by_cases e : i' = i
        · subst e; rw [eA]; exact hall2 j hj ne1 ne2
        · exact hall i' (by omega) j hj ne1 ne2
    all_goals first | (simp only [↓R0, R1, simprocAttr, -Int.reduceAbs, t9', t10, t11, t1, b0, n0]; done) | (simp only [↓R0, R1, simprocAttr, -Int.reduceAbs, t9', t10, t11, t1, b0, n0]; rfl) | skip
    intro q hq
    have nb : ∀ j, (M + j = q) = False := fun j => eq_false (by omega)
    simp only [↓R0, R1, simprocAttr, -Int.reduceAbs, nb]
    exact hh q hq
  · have e : i = l.length := by omega
    subst e
    have c1' : ((l.length : Int) < (l.length : Int)) = False := eq_false (by omega)
    rw [if_pos (show turnsP P l from fun i hi => hall i hi)]
    simp only [↓R0, R1, simprocAttr, -Int.reduceAbs, t9', t10, t11, t1, c1', Fin, isEnd, resL, res1]
    exact ⟨_, rfl, rfl, hh⟩
end Go.Eng
end
section
set_option linter.unusedVariables false
set_option linter.unusedSimpArgs false
set_option linter.unusedSectionVars false
set_option maxRecDepth 20000
namespace Go.Eng
open Go Go.Proofs Go.IntWalk
end Go.Eng
end
section
set_option linter.unusedVariables false
set_option linter.unusedSimpArgs false
set_option linter.unusedSectionVars false
set_option maxRecDepth 20000
namespace Go.Eng
open Go Go.Proofs Go.IntWalk
def spXAbove : List Value → Option Value
  | [.agg ⟨[.bool s1, .string ⟨⟨l1⟩⟩, .bool s2, .string ⟨⟨l2⟩⟩, .bool s3, .string ⟨⟨l3⟩⟩, .bool s4, .string ⟨⟨l4⟩⟩]⟩, .agg ⟨[.bool t1, .string ⟨⟨m1⟩⟩, .bool t2, .string ⟨⟨m2⟩⟩, .bool t3, .string ⟨⟨m3⟩⟩, .bool t4, .string ⟨⟨m4⟩⟩]⟩] =>
    if l1.length ≤ 4294967296 ∧ l2.length ≤ 4294967296 ∧ l3.length ≤ 4294967296 ∧ l4.length ≤ 4294967296 ∧ m1.length ≤ 4294967296 ∧ m2.length ≤ 4294967296 ∧ m3.length ≤ 4294967296 ∧ m4.length ≤ 4294967296 then
      some (.agg ⟨iE (sv s1 l1 * sv t1 m1 + sv s2 l2 * sv t2 m2 + sv s3 l3 * sv t3 m3 - sv s4 l4 * sv t4 m4)⟩) else none
  | _ => none
def c88 : ICode :=
  (.seq (.reg [qq 2 (.box 25 8 (.t 0)), qq 3 (.box 41 8 (.t 1)), qq 4 (.alloc 23 2 [(.bool false), e0])]) (.seq (.dreg [qu 5 (.load true 8 (.t 2)), qu 6 (.call 122 [(.t 5)]), qu 7 (.faddr 0 (.t 3)), qv 8 [1] (.load true 2 (.t 7)), qu 9 (.faddr 2 (.t 3)), qv 10 [1] (.load true 2 (.t 9)), qu 11 (.faddr 4 (.t 3)), qv 12 [1] (.load true 2 (.t 11)), qu 13 (.build [(.bool false), e0, (.bool false), e0, (.bool false), e0] [(0, 2, (.t 8)), (2, 2, (.t 10)), (4, 2, (.t 12))]), qu 14 (.call 121 [(.t 6), (.t 13)]), qu 15 (.faddr 6 (.t 2)), qv 16 [1, 9] (.load true 2 (.t 15)), qu 17 (.faddr 6 (.t 3)), qv 18 [1, 9] (.load true 2 (.t 17)), qu 19 (.call 50 [(.t 16), (.t 18)]), qu 20 (.call 90 [(.t 14), (.t 19)]), qm (.store 2 (.t 4) (.t 20))]) .ret))
theorem tr88 : trFun Tryz.prog 88 = some ⟨21, [.cell 4 true 2], c88⟩ := by kernel_rfl
set_option maxHeartbeats 2000000 in
theorem ok_xAbove : SpecOK Tryz.prog 88 (flat spXAbove) := by
  refine flat_run (env_cons ok_xNormal (env_cons ok_xDot (env_cons ok_iMul (env_cons ok_iSub (env_nil _))))) mixed tr88 ?_
  intro args v h N hG
  unfold spXAbove at hG
  split at hG
  case h_2 => cases hG
  rename_i s1 l1 s2 l2 s3 l3 s4 l4 t1 m1 t2 m2 t3 m3 t4 m4
  split at hG
  case isFalse => cases hG
  rename_i hl
  obtain ⟨h1, h2, h3, h4, g1, g2, g3, g4⟩ := hl
  cases hG
  refine ⟨rfl, by simp, ?_⟩
  have a1 : l1.length ≤ 17179869184 := by omega
  have a2 : l2.length ≤ 17179869184 := by omega
  have a3 : l3.length ≤ 17179869184 := by omega
  have a4 : l4.length ≤ 34359738368 := by omega
  have b1 : m1.length ≤ 17179869184 := by omega
  have b2 : m2.length ≤ 17179869184 := by omega
  have b3 : m3.length ≤ 17179869184 := by omega
  have b4 : m4.length ≤ 34359738368 := by omega
  have p1 := lmul (k := 8589934592) (len_sv (s := s1) h1) (len_sv (s := t1) g1) (by omega)
  have p2 := lmul (k := 8589934592) (len_sv (s := s2) h2) (len_sv (s := t2) g2) (by omega)
  have p3 := lmul (k := 8589934592) (len_sv (s := s3) h3) (len_sv (s := t3) g3) (by omega)
  have p4 := lmul (k := 68719476736) (len_sv (s := s4) h4) (len_sv (s := t4) g4) (by omega)
  have q1 := ladd (k := 68719476736) (ladd (k := 8589934593) p1 p2 (by omega)) p3 (by omega)
  simp only [c88, G0, Nat.reduceAdd]
  simp only [↓R0, R1, simprocAttr, -Int.reduceAbs, spXNormal, spXDot, spIMul, spISub, a1, a2, a3, a4, b1, b2, b3, b4, p4, q1, Fin, isEnd, resL, res1, iE, rE]
  exact ⟨_, rfl, rfl, fun k hk => by simp only [ne_nb hk, if_false]⟩
def spXBetw : List Value → Heap → Option Value
  | [.agg ⟨[.bool s1, .string ⟨⟨l1⟩⟩]⟩, .agg ⟨[.bool s2, .string ⟨⟨l2⟩⟩]⟩, .pointer (some ⟨k, 0, none⟩), .pointer (some ⟨k', 0, none⟩)], h => match hget h k, hget h k' with
    | some ⟨_, _, _, [.bool t1, .string ⟨⟨m1⟩⟩]⟩, some ⟨_, _, _, [.bool t2, .string ⟨⟨m2⟩⟩]⟩ =>
      if l1.length ≤ 17179869184 ∧ l2.length ≤ 17179869184 ∧ m1.length ≤ 17179869184 ∧ m2.length ≤ 17179869184 then some (.agg ⟨iE (sv s1 l1 * sv t1 m1 - sv s2 l2 * sv t2 m2)⟩) else none
    | _, _ => none
  | _, _ => none
def c89 : ICode :=
  (.seq (.reg [qq 4 (.box 23 2 (.t 0)), qq 5 (.box 23 2 (.t 1)), qq 6 (.alloc 23 2 [(.bool false), e0])]) (.seq (.dreg [qu 7 (.load true 2 (.t 4)), qu 8 (.load true 2 (.t 2)), qu 9 (.call 50 [(.t 7), (.t 8)]), qv 10 [2] (.load true 2 (.t 5)), qv 11 [2] (.load true 2 (.t 3)), qu 12 (.call 50 [(.t 10), (.t 11)]), qu 13 (.call 90 [(.t 9), (.t 12)]), qm (.store 2 (.t 6) (.t 13))]) .ret))
theorem tr89 : trFun Tryz.prog 89 = some ⟨14, [.cell 6 true 2], c89⟩ := by kernel_rfl
theorem ok_xBetw : SpecOK Tryz.prog 89 (rdS spXBetw) := by
  refine rd_run (env_cons ok_iMul (env_cons ok_iSub (env_nil _))) mixed tr89 ?_ ?_
  · intro args h h' v hle e
    unfold spXBetw at e ⊢
    split at e
    · split at e
      · rename_i b1 b2
        simp only [hle _ _ b1, hle _ _ b2]; exact e
      · cases e
    · cases e
  intro args v h N hG hN
  unfold spXBetw at hG
  split at hG
  case h_2 => cases hG
  rename_i s1 l1 s2 l2 k k'
  split at hG
  case h_2 => cases hG
  rename_i e1 z1 x1 t1 m1 e2 z2 x2 t2 m2 hb1 hb2
  split at hG
  case isFalse => cases hG
  rename_i hl
  obtain ⟨h1, h2, h3, h4⟩ := hl
  cases hG
  refine ⟨rfl, by simp, ?_⟩
  have k1 := hN _ _ hb1
  have k2 := hN _ _ hb2
  have ne1 : ∀ j, (N + j = k) = False := fun j => eq_false (by omega)
  have ne2 : ∀ j, (N + j = k') = False := fun j => eq_false (by omega)
  have a1 : l1.length ≤ 34359738368 := by omega
  have a2 : l2.length ≤ 34359738368 := by omega
  have b1 : m1.length ≤ 34359738368 := by omega
  have b2 : m2.length ≤ 34359738368 := by omega
  have p1 := lmul (k := 68719476736) (len_sv (s := s1) h1) (len_sv (s := t1) h3) (by omega)
  have p2 := lmul (k := 68719476736) (len_sv (s := s2) h2) (len_sv (s := t2) h4) (by omega)
  simp only [c89, G0, Nat.reduceAdd]
  simp only [↓R0, R1, simprocAttr, -Int.reduceAbs, ne1, ne2, hb1, hb2, spIMul, spISub, a1, a2, b1, b2, p1, p2, Fin, isEnd, resL, res1, iE, rE]
  exact ⟨_, rfl, rfl, fun k hk => by simp only [ne_nb hk, if_false]⟩
def spXLine : List Value → Option Value
  | [.agg ⟨[.bool s1, .string ⟨⟨l1⟩⟩, .bool s2, .string ⟨⟨l2⟩⟩, .bool s3, .string ⟨⟨l3⟩⟩, .bool s4, .string ⟨⟨l4⟩⟩]⟩, .agg ⟨[.bool t1, .string ⟨⟨m1⟩⟩, .bool t2, .string ⟨⟨m2⟩⟩, .bool t3, .string ⟨⟨m3⟩⟩, .bool t4, .string ⟨⟨m4⟩⟩]⟩,
      .agg ⟨[.bool u1, .string ⟨⟨o1⟩⟩, .bool u2, .string ⟨⟨o2⟩⟩, .bool u3, .string ⟨⟨o3⟩⟩, .bool u4, .string ⟨⟨o4⟩⟩]⟩] =>
    if l1.length ≤ 2147483648 ∧ l2.length ≤ 2147483648 ∧ l3.length ≤ 2147483648 ∧ l4.length ≤ 2147483648 ∧ m1.length ≤ 2147483648 ∧ m2.length ≤ 2147483648 ∧ m3.length ≤ 2147483648 ∧ m4.length ≤ 2147483648 ∧
      o1.length ≤ 2147483648 ∧ o2.length ≤ 2147483648 ∧ o3.length ≤ 2147483648 ∧ o4.length ≤ 2147483648 then
      (if t1 = u1 ∧ m1 = o1 ∧ t2 = u2 ∧ m2 = o2 ∧ t3 = u3 ∧ m3 = o3 ∧ t4 = u4 ∧ m4 = o4 then some (.tuple ⟨[.agg ⟨pZ⟩, .bool false]⟩) else
      if sv t4 m4 * (sv s1 l1 * sv u1 o1 + sv s2 l2 * sv u2 o2 + sv s3 l3 * sv u3 o3 - sv s4 l4 * sv u4 o4) - sv u4 o4 * (sv s1 l1 * sv t1 m1 + sv s2 l2 * sv t2 m2 + sv s3 l3 * sv t3 m3 - sv s4 l4 * sv t4 m4) = 0 then some (.tuple ⟨[.agg ⟨pZ⟩, .bool false]⟩) else
      some (.tuple ⟨[.agg ⟨pE (sv t1 m1 * (sv s1 l1 * sv u1 o1 + sv s2 l2 * sv u2 o2 + sv s3 l3 * sv u3 o3 - sv s4 l4 * sv u4 o4) - sv u1 o1 * (sv s1 l1 * sv t1 m1 + sv s2 l2 * sv t2 m2 + sv s3 l3 * sv t3 m3 - sv s4 l4 * sv t4 m4))
        (sv t2 m2 * (sv s1 l1 * sv u1 o1 + sv s2 l2 * sv u2 o2 + sv s3 l3 * sv u3 o3 - sv s4 l4 * sv u4 o4) - sv u2 o2 * (sv s1 l1 * sv t1 m1 + sv s2 l2 * sv t2 m2 + sv s3 l3 * sv t3 m3 - sv s4 l4 * sv t4 m4))
        (sv t3 m3 * (sv s1 l1 * sv u1 o1 + sv s2 l2 * sv u2 o2 + sv s3 l3 * sv u3 o3 - sv s4 l4 * sv u4 o4) - sv u3 o3 * (sv s1 l1 * sv t1 m1 + sv s2 l2 * sv t2 m2 + sv s3 l3 * sv t3 m3 - sv s4 l4 * sv t4 m4))
        (sv t4 m4 * (sv s1 l1 * sv u1 o1 + sv s2 l2 * sv u2 o2 + sv s3 l3 * sv u3 o3 - sv s4 l4 * sv u4 o4) - sv u4 o4 * (sv s1 l1 * sv t1 m1 + sv s2 l2 * sv t2 m2 + sv s3 l3 * sv t3 m3 - sv s4 l4 * sv t4 m4))⟩, .bool true]⟩)) else none
  | _ => none
def c44 : ICode :=
  (.seq (.reg [qq 3 (.box 25 8 (.t 0)), qq 4 (.box 41 8 (.t 1)), qq 5 (.box 41 8 (.t 2)), qq 6 (.alloc 41 8 [(.bool false), e0, (.bool false), e0, (.bool false), e0, (.bool false), e0]), qq 7 (.mv (.c (.bool false)))]) (.seq (.seq (.reg [qq 11 (.load true 8 (.t 4)), qq 12 (.load true 8 (.t 5)), qq 13 (.eqa false [.b, .s, .b, .s, .b, .s, .b, .s] (.t 11) (.t 12))]) (.cond (.t 13) (.seq (.reg [qq 14 (.build [(.bool false), e0, (.bool false), e0, (.bool false), e0, (.bool false), e0] []), qn (.store 8 (.t 6) (.t 14)), qq 7 (.mv (.c (.bool false)))]) .ret) .skip)) (.seq (.dreg [qu 15 (.load true 8 (.t 3)), qu 16 (.load true 8 (.t 4)), qu 17 (.call 88 [(.t 15), (.t 16)]), qv 18 [2] (.load true 8 (.t 3)), qv 19 [2] (.load true 8 (.t 5)), qu 20 (.call 88 [(.t 18), (.t 19)]), qu 8 (.alloc 23 2 [(.bool false), e0]), qu 9 (.alloc 23 2 [(.bool false), e0]), qm (.store 2 (.t 8) (.t 17)), qm (.store 2 (.t 9) (.t 20))]) (.seq (.reg [qq 21 (.mkfn 89 [(.t 9), (.t 8)]), qq 10 (.mv (.t 21))]) (.seq (.dreg [qu 22 (.mv (.t 10)), qu 23 (.faddr 0 (.t 4)), qu 24 (.load true 2 (.t 23)), qu 25 (.faddr 0 (.t 5)), qu 26 (.load true 2 (.t 25)), qu 27 (.callv (.t 22) [(.t 24), (.t 26)]), qu 28 (.mv (.t 10)), qu 29 (.faddr 2 (.t 4)), qv 30 [5] (.load true 2 (.t 29)), qu 31 (.faddr 2 (.t 5)), qv 32 [5] (.load true 2 (.t 31)), qu 33 (.callv (.t 28) [(.t 30), (.t 32)]), qu 34 (.mv (.t 10)), qu 35 (.faddr 4 (.t 4)), qv 36 [5, 11] (.load true 2 (.t 35)), qu 37 (.faddr 4 (.t 5)), qv 38 [5, 11] (.load true 2 (.t 37)), qu 39 (.callv (.t 34) [(.t 36), (.t 38)]), qu 40 (.build [(.bool false), e0, (.bool false), e0, (.bool false), e0] [(0, 2, (.t 27)), (2, 2, (.t 33)), (4, 2, (.t 39))]), qu 41 (.mv (.t 10)), qu 42 (.faddr 6 (.t 4)), qv 43 [5, 11, 17] (.load true 2 (.t 42)), qu 44 (.faddr 6 (.t 5)), qv 45 [5, 11, 17] (.load true 2 (.t 44)), qu 46 (.callv (.t 41) [(.t 43), (.t 45)]), qu 47 (.call 91 [(.t 40), (.t 46)]), qu 48 (.ext (.t 47) 0), qu 49 (.ext (.t 47) 1), qm (.store 8 (.t 6) (.t 48)), qu 7 (.mv (.t 49))]) .ret)))))
theorem tr44 : trFun Tryz.prog 44 = some ⟨50, [.cell 6 true 8, .t 7], c44⟩ := by kernel_rfl
set_option maxHeartbeats 8000000 in
theorem ok_xLine : SpecOK Tryz.prog 44 (flat spXLine) := by
  refine flat_run (env_cons ok_xAbove (env_cons ok_xBetw (env_cons ok_xMade (env_nil _)))) mixed tr44 ?_
  intro args v h N hG
  unfold spXLine at hG
  split at hG
  case h_2 => cases hG
  rename_i s1 l1 s2 l2 s3 l3 s4 l4 t1 m1 t2 m2 t3 m3 t4 m4 u1 o1 u2 o2 u3 o3 u4 o4
  split at hG
  case isFalse => cases hG
  rename_i hl
  obtain ⟨h1, h2, h3, h4, g1, g2, g3, g4, j1, j2, j3, j4⟩ := hl
  split at hG
  · rename_i heq
    obtain ⟨rfl, rfl, rfl, rfl, rfl, rfl, rfl, rfl⟩ := heq
    cases hG
    refine ⟨rfl, by simp, ?_⟩
    simp only [c44, G0, Nat.reduceAdd]
    simp only [↓R0, R1, simprocAttr, -Int.reduceAbs, ceq, pZ, Fin, isEnd, resL, res1, iE, rE]
    exact ⟨_, rfl, rfl, fun k hk => by simp only [ne_nb hk, if_false]⟩
  rename_i hne
  have hc : (decide (t1 = u1) && (decide (m1 = o1) && (decide (t2 = u2) && (decide (m2 = o2) && (decide (t3 = u3) && (decide (m3 = o3) && (decide (t4 = u4) && decide (m4 = o4)))))))) = false := by
    cases hb : (decide (t1 = u1) && (decide (m1 = o1) && (decide (t2 = u2) && (decide (m2 = o2) && (decide (t3 = u3) && (decide (m3 = o3) && (decide (t4 = u4) && decide (m4 = o4)))))))) with
    | false => rfl
    | true => simp only [Bool.and_eq_true, decide_eq_true_eq] at hb; exact absurd hb hne
  have bS := lsub (k := 4294967299) (ladd (k := 4294967298) (ladd (k := 4294967297) (lmul (k := 4294967296) (len_sv (s := s1) h1) (len_sv (s := t1) g1) (by omega)) (lmul (k := 4294967296) (len_sv (s := s2) h2) (len_sv (s := t2) g2) (by omega)) (by omega)) (lmul (k := 4294967296) (len_sv (s := s3) h3) (len_sv (s := t3) g3) (by omega)) (by omega)) (lmul (k := 4294967296) (len_sv (s := s4) h4) (len_sv (s := t4) g4) (by omega)) (by omega)
  have bT := lsub (k := 4294967299) (ladd (k := 4294967298) (ladd (k := 4294967297) (lmul (k := 4294967296) (len_sv (s := s1) h1) (len_sv (s := u1) j1) (by omega)) (lmul (k := 4294967296) (len_sv (s := s2) h2) (len_sv (s := u2) j2) (by omega)) (by omega)) (lmul (k := 4294967296) (len_sv (s := s3) h3) (len_sv (s := u3) j3) (by omega)) (by omega)) (lmul (k := 4294967296) (len_sv (s := s4) h4) (len_sv (s := u4) j4) (by omega)) (by omega)
  obtain ⟨S, eS⟩ : ∃ z, sv s1 l1 * sv t1 m1 + sv s2 l2 * sv t2 m2 + sv s3 l3 * sv t3 m3 - sv s4 l4 * sv t4 m4 = z := ⟨_, rfl⟩
  obtain ⟨T, eT⟩ : ∃ z, sv s1 l1 * sv u1 o1 + sv s2 l2 * sv u2 o2 + sv s3 l3 * sv u3 o3 - sv s4 l4 * sv u4 o4 = z := ⟨_, rfl⟩
  rw [eS] at hG bS
  rw [eT] at hG bT
  have a1 : l1.length ≤ 4294967296 := by omega
  have a2 : l2.length ≤ 4294967296 := by omega
  have a3 : l3.length ≤ 4294967296 := by omega
  have a4 : l4.length ≤ 4294967296 := by omega
  have b1 : m1.length ≤ 4294967296 := by omega
  have b2 : m2.length ≤ 4294967296 := by omega
  have b3 : m3.length ≤ 4294967296 := by omega
  have b4 : m4.length ≤ 4294967296 := by omega
  have c1 : o1.length ≤ 4294967296 := by omega
  have c2 : o2.length ≤ 4294967296 := by omega
  have c3 : o3.length ≤ 4294967296 := by omega
  have c4 : o4.length ≤ 4294967296 := by omega
  have b1' : m1.length ≤ 17179869184 := by omega
  have b2' : m2.length ≤ 17179869184 := by omega
  have b3' : m3.length ≤ 17179869184 := by omega
  have b4' : m4.length ≤ 17179869184 := by omega
  have c1' : o1.length ≤ 17179869184 := by omega
  have c2' : o2.length ≤ 17179869184 := by omega
  have c3' : o3.length ≤ 17179869184 := by omega
  have c4' : o4.length ≤ 17179869184 := by omega
  have bS' := lle (k := 17179869184) bS (by omega)
  have bT' := lle (k := 17179869184) bT (by omega)
  have X1 := lsub (k := 34359738368) (lmul (k := 12884901888) (len_sv (s := t1) g1) bT (by omega)) (lmul (k := 12884901888) (len_sv (s := u1) j1) bS (by omega)) (by omega)
  have X2 := lsub (k := 34359738368) (lmul (k := 12884901888) (len_sv (s := t2) g2) bT (by omega)) (lmul (k := 12884901888) (len_sv (s := u2) j2) bS (by omega)) (by omega)
  have X3 := lsub (k := 34359738368) (lmul (k := 12884901888) (len_sv (s := t3) g3) bT (by omega)) (lmul (k := 12884901888) (len_sv (s := u3) j3) bS (by omega)) (by omega)
  have X4 := lsub (k := 34359738368) (lmul (k := 12884901888) (len_sv (s := t4) g4) bT (by omega)) (lmul (k := 12884901888) (len_sv (s := u4) j4) bS (by omega)) (by omega)
  have zl0 : (bl (Int.natAbs 0)).length ≤ 34359738368 := by rw [show Int.natAbs 0 = 0 from rfl, bl_zero]; exact Nat.zero_le _
  have zs0 : sv false (bl (Int.natAbs 0)) = 0 := by rw [sv_bl]; rfl
  split at hG
  · rename_i hw
    cases hG
    refine ⟨rfl, by simp, ?_⟩
    simp only [c44, G0, Nat.reduceAdd]
    simp only [↓R0, R1, simprocAttr, -Int.reduceAbs, ceq, hc, spXAbove, a1, a2, a3, a4, b1, b2, b3, b4, c1, c2, c3, c4, b1', b2', b3', b4', c1', c2', c3', c4', eS, eT, bS', bT', callF, rdS, spXBetw, X1, X2, X3, X4, spXMade, hw, zl0, zs0, Int.lt_irrefl, pZ, pE, Fin, isEnd, resL, res1, iE, rE]
    exact ⟨_, rfl, rfl, fun k hk => by simp only [ne_nb hk, if_false]⟩
  · rename_i hw
    cases hG
    refine ⟨rfl, by simp, ?_⟩
    simp only [c44, G0, Nat.reduceAdd]
    simp only [↓R0, R1, simprocAttr, -Int.reduceAbs, ceq, hc, spXAbove, a1, a2, a3, a4, b1, b2, b3, b4, c1, c2, c3, c4, b1', b2', b3', b4', c1', c2', c3', c4', eS, eT, bS', bT', callF, rdS, spXBetw, X1, X2, X3, X4, spXMade, hw, zl0, zs0, Int.lt_irrefl, pZ, pE, Fin, isEnd, resL, res1, iE, rE]
    exact ⟨_, rfl, rfl, fun k hk => by simp only [ne_nb hk, if_false]⟩
end Go.Eng
end
section
set_option linter.unusedVariables false
set_option linter.unusedSimpArgs false
set_option linter.unusedSectionVars false
set_option maxRecDepth 20000
namespace Go.Eng
open Go Go.Proofs Go.IntWalk
end Go.Eng
end
section
set_option linter.unusedVariables false
set_option linter.unusedSimpArgs false
set_option linter.unusedSectionVars false
set_option maxRecDepth 20000
namespace Go.Eng
open Go Go.Proofs Go.IntWalk
end Go.Eng
end
section
set_option linter.unusedVariables false
set_option linter.unusedSimpArgs false
set_option linter.unusedSectionVars false
set_option maxRecDepth 20000
namespace Go.Eng
open Go Go.Proofs Go.IntWalk
def spR4Great8 : List Value → Option Value
  | [.agg ⟨[.bool s1, .string ⟨⟨l1⟩⟩, .bool s2, .string ⟨⟨l2⟩⟩, .bool s3, .string ⟨⟨l3⟩⟩, .bool s4, .string ⟨⟨l4⟩⟩]⟩] => some (.int .i64 (if l1.length ≤ 6 ∧ l2.length ≤ 6 ∧ l3.length ≤ 6 ∧ l4.length ≤ 6 then 0 else 1))
  | _ => none
def c34 : ICode :=
  (.seq (.reg [qq 1 (.box 41 8 (.t 0)), qq 2 (.mv (ci 0))]) (.seq (.seq (.reg [qq 5 (.faddr 0 (.t 1)), qq 6 (.load true 2 (.t 5)), qq 7 (.faddr 2 (.t 1)), qq 8 (.load true 2 (.t 7)), qq 9 (.faddr 4 (.t 1)), qq 10 (.load true 2 (.t 9)), qq 11 (.faddr 6 (.t 1)), qq 12 (.load true 2 (.t 11)), qq 13 (.bslice 23 2 4 [(.bool false), e0, (.bool false), e0, (.bool false), e0, (.bool false), e0] [(0, 2, (.t 6)), (2, 2, (.t 8)), (4, 2, (.t 10)), (6, 2, (.t 12))]), qq 14 (.lensl (.t 13)), qq 15 (.mv (ci 0))]) (.block 0 (.loop (.seq (.reg [qq 16 (.bin .lss (.t 15) (.t 14))]) (.seq (.cond (.t 16) .skip (.exit 0)) (.seq (.block 1 (.seq (.reg [qq 17 (.ixsl 2 (.t 13) (.t 15)), qq 18 (.load true 2 (.t 17)), qq 4 (.alloc 23 2 [(.bool false), e0]), qn (.store 2 (.t 4) (.t 18))]) (.seq (.reg [qq 19 (.faddr 1 (.t 4)), qq 20 (.load false 1 (.t 19)), qq 21 (.lens (.t 20)), qq 22 (.bin .gtr (.t 21) (ci 6))]) (.cond (.t 22) (.seq (.reg [qq 2 (.mv (ci 1))]) .ret) .skip)))) (.reg [qq 23 (.bin .add (.t 15) (ci 1)), qq 15 (.mv (.t 23))]))))))) (.seq (.reg [qq 2 (.mv (ci 0))]) .ret)))
theorem tr34 : trFun Tryz.prog 34 = some ⟨24, [.t 2], c34⟩ := by kernel_rfl
set_option maxHeartbeats 2000000 in
theorem ok_r4Great8 : SpecOK Tryz.prog 34 (flat spR4Great8) := by
  refine flat_run (env_nil _) mixed tr34 ?_
  intro args v h N hG
  unfold spR4Great8 at hG
  split at hG
  case h_2 => cases hG
  rename_i s1 l1 s2 l2 s3 l3 s4 l4
  cases hG
  refine ⟨rfl, by simp, ?_⟩
  have tr : ∀ l : List UInt8, ¬ l.length ≤ 6 → ((l.length : Int) > 6) = True := fun l h => eq_true (by omega)
  have fl : ∀ l : List UInt8, l.length ≤ 6 → ((l.length : Int) > 6) = False := fun l h => eq_false (by omega)
  simp only [c34, G0, Nat.reduceAdd]
  simp only [↓R0, R1, simprocAttr, -Int.reduceAbs]
  refine lp_step ?_
  by_cases q1 : l1.length ≤ 6
  · have d1 := fl _ q1
    simp only [↓R0, R1, simprocAttr, -Int.reduceAbs, d1]
    refine lp_step ?_
    by_cases q2 : l2.length ≤ 6
    · have d2 := fl _ q2
      simp only [↓R0, R1, simprocAttr, -Int.reduceAbs, d2]
      refine lp_step ?_
      by_cases q3 : l3.length ≤ 6
      · have d3 := fl _ q3
        simp only [↓R0, R1, simprocAttr, -Int.reduceAbs, d3]
        refine lp_step ?_
        by_cases q4 : l4.length ≤ 6
        · have d4 := fl _ q4
          simp only [↓R0, R1, simprocAttr, -Int.reduceAbs, d4]
          refine lp_step ?_
          rw [if_pos ⟨q1, q2, q3, q4⟩]
          simp only [↓R0, R1, simprocAttr, -Int.reduceAbs, Fin, isEnd, resL, res1, iE, rE]
          exact ⟨_, rfl, rfl, fun k hk => by simp only [ne_nb hk, if_false]⟩
        · rw [if_neg (fun e => q4 e.2.2.2)]
          have d4 := tr _ q4
          simp only [↓R0, R1, simprocAttr, -Int.reduceAbs, d4, Fin, isEnd, resL, res1, iE, rE]
          exact ⟨_, rfl, rfl, fun k hk => by simp only [ne_nb hk, if_false]⟩
      · rw [if_neg (fun e => q3 e.2.2.1)]
        have d3 := tr _ q3
        simp only [↓R0, R1, simprocAttr, -Int.reduceAbs, d3, Fin, isEnd, resL, res1, iE, rE]
        exact ⟨_, rfl, rfl, fun k hk => by simp only [ne_nb hk, if_false]⟩
    · rw [if_neg (fun e => q2 e.2.1)]
      have d2 := tr _ q2
      simp only [↓R0, R1, simprocAttr, -Int.reduceAbs, d2, Fin, isEnd, resL, res1, iE, rE]
      exact ⟨_, rfl, rfl, fun k hk => by simp only [ne_nb hk, if_false]⟩
  · rw [if_neg (fun e => q1 e.1)]
    have d1 := tr _ q1
    simp only [↓R0, R1, simprocAttr, -Int.reduceAbs, d1, Fin, isEnd, resL, res1, iE, rE]
    exact ⟨_, rfl, rfl, fun k hk => by simp only [ne_nb hk, if_false]⟩
theorem r4great_of (p : Pt) : spR4Great8 [.agg ⟨p.cells⟩] = some (.int .i64 (if p.sz 6 then 0 else 1)) := rfl
theorem r5great_of (p : Pt) : spR5Great8 [.agg ⟨p.cells⟩] = some (.int .i64 (if p.sz 6 then 0 else 1)) := rfl
def smallP (P : Pt) (l : List Pt) : Prop := l.length ≤ 10 ∧ P.sz 6 ∧ ∀ p ∈ l, p.sz 6
instance {P : Pt} {l : List Pt} : Decidable (smallP P l) := by unfold smallP; infer_instance
theorem smallP.poly {P : Pt} {l : List Pt} (h : smallP P l) {k : Nat} (hk : 6 ≤ k) : polySz k P l := ⟨h.2.1.le hk, fun p hp => (h.2.2 p hp).le hk, by have := h.1; omega⟩
def spR8Great : List Value → Heap → Option Value
  | [.agg ⟨cs⟩], h => match decPoly h cs with
    | some (P, l) => some (.int .i64 (if smallP P l then 0 else 1))
    | none => none
  | _, _ => none
def c10 : ICode :=
  (.seq (.reg [qq 1 (.box 28 9 (.t 0)), qq 2 (.mv (ci 0))]) (.seq (.seq (.reg [qq 5 (.faddr 8 (.t 1)), qq 6 (.load false 1 (.t 5)), qq 7 (.lensl (.t 6)), qq 8 (.bin .gtr (.t 7) (ci 10)), qq 9 (.mv (.t 8)), ⟨(some 10), (some (9, false)), (.faddr 0 (.t 1))⟩, ⟨(some 11), (some (9, false)), (.load true 8 (.t 10))⟩, ⟨(some 12), (some (9, false)), (.call 33 [(.t 11)])⟩, ⟨(some 13), (some (9, false)), (.bin .eql (.t 12) (ci 1))⟩, qq 14 (.pick (.t 9) (.c (.bool true)) (.t 13))]) (.cond (.t 14) (.seq (.reg [qq 2 (.mv (ci 1))]) .ret) .skip)) (.seq (.seq (.reg [qq 15 (.faddr 8 (.t 1)), qq 16 (.load false 1 (.t 15)), qq 17 (.lensl (.t 16)), qq 18 (.mv (ci 0))]) (.block 0 (.loop (.seq (.reg [qq 19 (.bin .lss (.t 18) (.t 17))]) (.seq (.cond (.t 19) .skip (.exit 0)) (.seq (.block 1 (.seq (.reg [qq 20 (.ixsl 8 (.t 16) (.t 18)), qq 21 (.load true 8 (.t 20)), qq 4 (.alloc 41 8 [(.bool false), e0, (.bool false), e0, (.bool false), e0, (.bool false), e0]), qn (.store 8 (.t 4) (.t 21))]) (.seq (.reg [qq 22 (.load true 8 (.t 4)), qq 23 (.call 34 [(.t 22)]), qq 24 (.bin .eql (.t 23) (ci 1))]) (.cond (.t 24) (.seq (.reg [qq 2 (.mv (ci 1))]) .ret) .skip)))) (.reg [qq 25 (.bin .add (.t 18) (ci 1)), qq 18 (.mv (.t 25))]))))))) (.seq (.reg [qq 2 (.mv (ci 0))]) .ret))))
theorem tr10 : trFun Tryz.prog 10 = some ⟨26, [.t 2], c10⟩ := by kernel_rfl
set_option maxHeartbeats 2000000 in
theorem ok_r8Great : SpecOK Tryz.prog 10 (rdS spR8Great) := by
  refine rd_run (env_cons ok_r5Great8 (env_cons ok_r4Great8 (env_nil _))) mixed tr10 ?_ ?_
  · intro args h h' v hle e
    unfold spR8Great at e ⊢
    split at e
    · rename_i cs
      split at e
      · rename_i P l hb
        simp only [decPoly_mono hle hb]; exact e
      · cases e
    · cases e
  intro args v h N hG hN
  unfold spR8Great at hG
  split at hG
  case h_2 => cases hG
  rename_i cs
  split at hG
  case h_2 => cases hG
  rename_i P l hx
  cases hG
  obtain ⟨sl, rfl, hx'⟩ := decPoly_eq hx
  clear hx
  rename listAt 8 decP h sl = some l => hx
  obtain ⟨a, c, rfl⟩ := listAt_sl hx
  refine ⟨by rfl, by simp, ?_⟩
  have c9 := pc9_s P (.slice a l.length c)
  have l9 := pc9_len P (.slice a l.length c)
  have g9 := pc9_g P (.slice a l.length c)
  generalize pc9 P (.slice a l.length c) = C9 at *
  have lP := P.len8
  have gP := r5great_of P
  have e10 : ((0 : Int) = 1) = False := by decide
  by_cases k1 : l.length ≤ 10
  case neg =>
    rw [if_neg (fun e => k1 e.1)]
    have k1' : ((l.length : Int) > 10) = True := eq_true (by omega)
    simp only [c10, G0, Nat.reduceAdd]
    simp only [↓R0, R1, simprocAttr, -Int.reduceAbs, l9, c9, g9, lP, k1', Fin, isEnd, resL, res1, iE, rE]
    exact ⟨_, rfl, rfl, fun k hk => by simp only [ne_nb hk, if_false]⟩
  have k1' : ((l.length : Int) > 10) = False := eq_false (by omega)
  by_cases k2 : P.sz 6
  case neg =>
    rw [if_neg k2] at gP
    rw [if_neg (fun e => k2 e.2.1)]
    simp only [c10, G0, Nat.reduceAdd]
    simp only [↓R0, R1, simprocAttr, -Int.reduceAbs, l9, c9, g9, lP, k1', gP, Fin, isEnd, resL, res1, iE, rE]
    exact ⟨_, rfl, rfl, fun k hk => by simp only [ne_nb hk, if_false]⟩
  rw [if_pos k2] at gP
  simp only [c10, G0, Nat.reduceAdd]
  simp only [↓R0, R1, simprocAttr, -Int.reduceAbs, l9, c9, g9, lP, k1', gP, e10]
  refine lp_parts (fun n tm hp nx => ∃ (i M : Nat), n + i = l.length ∧ tmget tm 16 = .slice a l.length c ∧ tmget tm 17 = .int .i64 l.length ∧ tmget tm 18 = .int .i64 i ∧ (∀ j, j < i → (ptAt l j).sz 6) ∧ (∀ q, q < N → hget hp q = hget h q) ∧ N + 1 ≤ M ∧ nx = M + 0) ?_ l.length
    ⟨0, N + 1, by omega, ?_, ?_, ?_, fun i hi => by omega, ?_, Nat.le_refl _, rfl⟩
  · rintro n tm hp nx ⟨i, M, hn, tA, tB, tC, hall, hh, hM, hnx⟩
    rw [hnx]
    clear hnx nx
    by_cases c1 : i < l.length
    · obtain ⟨k, off, blk, ea, hb, q1, q2⟩ := vert_at hx c1
      subst ea
      have hk := hN _ _ hb
      have hbb : hget hp k = some blk := by rw [hh k hk]; exact hb
      have nk : ∀ j, (M + j = k) = False := fun j => eq_false (by omega)
      have c1' : ((i : Int) < (l.length : Int)) = True := eq_true (by omega)
      have w1 : IntKind.i64.wrap ((i : Int) + 1) = ((i + 1 : Nat) : Int) := by rw [i64_in _ (by omega)]; omega
      obtain ⟨X, eX⟩ : ∃ A, ptAt l i = A := ⟨_, rfl⟩
      rw [eX] at q2
      have aX := X.len8; have oX := X.ok8; have tX := X.tk8
      have stX : setR [.bool false, .string ⟨⟨[]⟩⟩, .bool false, .string ⟨⟨[]⟩⟩, .bool false, .string ⟨⟨[]⟩⟩, .bool false, .string ⟨⟨[]⟩⟩] 0 X.cells = X.cells := rfl
      have gX := r4great_of X
      by_cases s1 : X.sz 6
      · rw [if_pos s1] at gX
        simp only [↓R0, R1, simprocAttr, -Int.reduceAbs, tA, tB, tC, c1, c1', hbb, nk, q1, q2, w1, aX, oX, tX, stX, gX, e10]
        refine ⟨n - 1, by omega, i + 1, M + 1, by omega, rfl, fun j hj => ?_, fun q hq => ?_, by omega, rfl⟩
        · by_cases e : j = i
          · rw [e, eX]; exact s1
          · exact hall j (by omega)
        · simp only [show (M + 0 = q) = False from eq_false (by omega), if_false]; exact hh q hq
      · rw [if_neg s1] at gX
        rw [if_neg (fun e : smallP P l => s1 (eX ▸ e.2.2 _ (ptAt_mem c1)))]
        simp only [↓R0, R1, simprocAttr, -Int.reduceAbs, tA, tB, tC, c1, c1', hbb, nk, q1, q2, w1, aX, oX, tX, stX, gX, Fin, isEnd, resL, res1]
        refine ⟨_, rfl, rfl, fun q hq => ?_⟩
        simp only [show (M + 0 = q) = False from eq_false (by omega), if_false]; exact hh q hq
    · have e : i = l.length := by omega
      subst e
      have c1' : ((l.length : Int) < (l.length : Int)) = False := eq_false (by omega)
      rw [if_pos (show smallP P l from ⟨k1, k2, fun p hp => by
        obtain ⟨j, hj⟩ := List.getElem?_of_mem hp
        have := hall j (List.getElem?_eq_some_iff.1 hj).1
        rwa [ptAt_eq hj] at this⟩)]
      simp only [↓R0, R1, simprocAttr, -Int.reduceAbs, tA, tB, tC, c1', Fin, isEnd, resL, res1]
      exact ⟨_, rfl, rfl, hh⟩
  all_goals first | (simp only [↓R0, R1, simprocAttr, -Int.reduceAbs]; done) | (simp only [↓R0, R1, simprocAttr, -Int.reduceAbs]; rfl) | skip
  intro q hq
  have nb : ∀ j, (N + j = q) = False := fun j => eq_false (by omega)
  simp only [↓R0, R1, simprocAttr, -Int.reduceAbs, nb]
def spR8Same : List Value → Heap → Option Value
  | [.agg ⟨cs⟩, .agg ⟨ds⟩], h => match decPoly h cs, decPoly h ds with
    | some (P, l), some (Q, m) => if l.length ≤ 1000000 ∧ m.length ≤ 1000000 then some (.bool (decide (P = Q ∧ l = m))) else none
    | _, _ => none
  | _, _ => none
theorem list_pt {l m : List Pt} (h : l.length = m.length) (e : ∀ i, i < l.length → ptAt l i = ptAt m i) : l = m := by
  refine List.ext_getElem? fun i => ?_
  by_cases c : i < l.length
  · rw [ptAt_some c, ptAt_some (by omega), e i c]
  · rw [List.getElem?_eq_none (by omega), List.getElem?_eq_none (by omega)]
def c17 : ICode :=
  (.seq (.reg [qq 2 (.box 28 9 (.t 0)), qq 3 (.box 28 9 (.t 1)), qq 4 (.mv (.c (.bool false)))]) (.seq (.seq (.reg [qq 6 (.faddr 0 (.t 2)), qq 7 (.load true 8 (.t 6)), qq 8 (.faddr 0 (.t 3)), qq 9 (.load true 8 (.t 8)), qq 10 (.eqa true [.b, .s, .b, .s, .b, .s, .b, .s] (.t 7) (.t 9)), qq 11 (.mv (.t 10)), ⟨(some 12), (some (11, false)), (.faddr 8 (.t 2))⟩, ⟨(some 13), (some (11, false)), (.load false 1 (.t 12))⟩, ⟨(some 14), (some (11, false)), (.lensl (.t 13))⟩, ⟨(some 15), (some (11, false)), (.faddr 8 (.t 3))⟩, ⟨(some 16), (some (11, false)), (.load false 1 (.t 15))⟩, ⟨(some 17), (some (11, false)), (.lensl (.t 16))⟩, ⟨(some 18), (some (11, false)), (.bin .neq (.t 14) (.t 17))⟩, qq 19 (.pick (.t 11) (.c (.bool true)) (.t 18))]) (.cond (.t 19) (.seq (.reg [qq 4 (.mv (.c (.bool false)))]) .ret) .skip)) (.seq (.seq (.reg [qq 20 (.faddr 8 (.t 2)), qq 21 (.load false 1 (.t 20)), qq 22 (.lensl (.t 21)), qq 23 (.mv (ci 0))]) (.block 0 (.loop (.seq (.reg [qq 24 (.bin .lss (.t 23) (.t 22))]) (.seq (.cond (.t 24) .skip (.exit 0)) (.seq (.block 1 (.seq (.reg [qq 25 (.mv (.t 23)), qq 5 (.mv (.t 25))]) (.seq (.dreg [qu 26 (.faddr 8 (.t 2)), qu 27 (.load false 1 (.t 26)), qu 28 (.mv (.t 5)), qu 29 (.ixsl 8 (.t 27) (.t 28)), qu 30 (.load true 8 (.t 29)), qu 31 (.faddr 8 (.t 3)), qu 32 (.load false 1 (.t 31)), qu 33 (.mv (.t 5)), qu 34 (.ixsl 8 (.t 32) (.t 33)), qu 35 (.load true 8 (.t 34)), qu 36 (.eqa true [.b, .s, .b, .s, .b, .s, .b, .s] (.t 30) (.t 35))]) (.cond (.t 36) (.seq (.reg [qq 4 (.mv (.c (.bool false)))]) .ret) .skip)))) (.reg [qq 37 (.bin .add (.t 23) (ci 1)), qq 23 (.mv (.t 37))]))))))) (.seq (.reg [qq 4 (.mv (.c (.bool true)))]) .ret))))
theorem tr17 : trFun Tryz.prog 17 = some ⟨38, [.t 4], c17⟩ := by kernel_rfl
set_option maxHeartbeats 2000000 in
theorem ok_r8Same : SpecOK Tryz.prog 17 (rdS spR8Same) := by
  refine rd_run (env_nil _) mixed tr17 ?_ ?_
  · intro args h h' v hle e
    unfold spR8Same at e ⊢
    split at e
    · rename_i cs ds
      split at e
      · rename_i P l Q m hb hb'
        simp only [decPoly_mono hle hb, decPoly_mono hle hb']; exact e
      · cases e
    · cases e
  intro args v h N hG hN
  unfold spR8Same at hG
  split at hG
  case h_2 => cases hG
  rename_i cs ds
  split at hG
  case h_2 => cases hG
  rename_i P l Q m hx1 hy1
  split at hG
  case isFalse => cases hG
  rename_i hl
  obtain ⟨hl1, hl2⟩ := hl
  cases hG
  obtain ⟨sl, rfl, hx⟩ := decPoly_eq hx1
  obtain ⟨sm, rfl, hy⟩ := decPoly_eq hy1
  clear hx1 hy1
  obtain ⟨a, c, rfl⟩ := listAt_sl hx
  obtain ⟨b, d, rfl⟩ := listAt_sl hy
  refine ⟨by rfl, by simp, ?_⟩
  have c9 := pc9_s P (.slice a l.length c)
  have l9 := pc9_len P (.slice a l.length c)
  have g9 := pc9_g P (.slice a l.length c)
  have d9 := pc9_s Q (.slice b m.length d)
  have m9 := pc9_len Q (.slice b m.length d)
  have e9 := pc9_g Q (.slice b m.length d)
  generalize pc9 P (.slice a l.length c) = C9 at *
  generalize pc9 Q (.slice b m.length d) = D9 at *
  have lP := P.len8
  have lQ := Q.len8
  have cq := ceq_Pt P Q
  by_cases k1 : P = Q
  case neg =>
    rw [decide_eq_false k1] at cq
    rw [decide_eq_false (fun e => k1 e.1)]
    simp only [c17, G0, Nat.reduceAdd]
    simp only [↓R0, R1, simprocAttr, -Int.reduceAbs, l9, c9, g9, m9, d9, e9, lP, lQ, cq, Bool.not_false, Bool.not_true, Fin, isEnd, resL, res1, iE, rE]
    exact ⟨_, rfl, rfl, fun k hk => by simp only [ne_nb hk, if_false]⟩
  rw [decide_eq_true k1] at cq
  by_cases k2 : l.length = m.length
  case neg =>
    have k2' : ((l.length : Int) = (m.length : Int)) = False := eq_false (by omega)
    have k2b : (l.length = m.length) = False := eq_false k2
    rw [decide_eq_false (fun e => k2 (by rw [e.2]))]
    simp only [c17, G0, Nat.reduceAdd]
    simp only [↓R0, R1, simprocAttr, -Int.reduceAbs, l9, c9, g9, m9, d9, e9, lP, lQ, cq, k2', k2b, Bool.not_false, Bool.not_true, Fin, isEnd, resL, res1, iE, rE]
    exact ⟨_, rfl, rfl, fun k hk => by simp only [ne_nb hk, if_false]⟩
  have k2' : ((l.length : Int) = (m.length : Int)) = True := eq_true (by omega)
  have k2b : (l.length = m.length) = True := eq_true k2
  simp only [c17, G0, Nat.reduceAdd]
  simp only [↓R0, R1, simprocAttr, -Int.reduceAbs, l9, c9, g9, m9, d9, e9, lP, lQ, cq, k2', k2b, Bool.not_false, Bool.not_true]
  refine lp_parts (fun n tm hp nx => ∃ (i : Nat), n + i = l.length ∧ tmget tm 21 = .slice a l.length c ∧ tmget tm 22 = .int .i64 l.length ∧ tmget tm 23 = .int .i64 i ∧ tmget tm 2 = .pointer (some ⟨N + 0, 0, none⟩) ∧ tmget tm 3 = .pointer (some ⟨N + 1, 0, none⟩) ∧
      hget hp (N + 0) = some ⟨28, 9, true, C9⟩ ∧ hget hp (N + 1) = some ⟨28, 9, true, D9⟩ ∧ (∀ j, j < i → ptAt l j = ptAt m j) ∧ (∀ q, q < N → hget hp q = hget h q) ∧ nx = N + 2) ?_ l.length
    ⟨0, by omega, ?_, ?_, ?_, ?_, ?_, ?_, ?_, fun i hi => by omega, ?_, rfl⟩
  · rintro n tm hp nx ⟨i, hn, tA, tB, tC, t2, t3, b0, b1, hall, hh, hnx⟩
    rw [hnx]
    clear hnx nx
    by_cases c1 : i < l.length
    · obtain ⟨k, off, blk, ea, hb, q1, q2⟩ := vert_at hx c1
      obtain ⟨k', off', blk', ea', hb', p1, p2⟩ := vert_at hy (by omega : i < m.length)
      subst ea ea'
      have hbb : hget hp k = some blk := by rw [hh k (hN _ _ hb)]; exact hb
      have hbb' : hget hp k' = some blk' := by rw [hh k' (hN _ _ hb')]; exact hb'
      have c1' : ((i : Int) < (l.length : Int)) = True := eq_true (by omega)
      have c2' : ((i : Int) < (m.length : Int)) = True := eq_true (by omega)
      have c2 : (i < m.length) = True := eq_true (by omega)
      have w1 : IntKind.i64.wrap ((i : Int) + 1) = ((i + 1 : Nat) : Int) := by rw [i64_in _ (by omega)]; omega
      have cX := ceq_Pt (ptAt l i) (ptAt m i)
      by_cases s1 : ptAt l i = ptAt m i
      · rw [decide_eq_true s1] at cX
        simp only [↓R0, R1, simprocAttr, -Int.reduceAbs, tA, tB, tC, t2, t3, b0, b1, c1, c1', c2, c2', hbb, hbb', q1, q2, p1, p2, l9, c9, m9, d9, w1, cX, Bool.not_false, Bool.not_true]
        refine ⟨n - 1, by omega, i + 1, by omega, rfl, fun j hj => ?_, hh⟩
        by_cases e : j = i
        · rw [e]; exact s1
        · exact hall j (by omega)
      · rw [decide_eq_false s1] at cX
        rw [decide_eq_false (fun e => s1 (by rw [e.2]))]
        simp only [↓R0, R1, simprocAttr, -Int.reduceAbs, tA, tB, tC, t2, t3, b0, b1, c1, c1', c2, c2', hbb, hbb', q1, q2, p1, p2, l9, c9, m9, d9, w1, cX, Bool.not_false, Bool.not_true, Fin, isEnd, resL, res1]
        exact ⟨_, rfl, rfl, hh⟩
    · have e : i = l.length := by omega
      subst e
      have c1' : ((l.length : Int) < (l.length : Int)) = False := eq_false (by omega)
      rw [decide_eq_true ⟨k1, list_pt k2 hall⟩]
      simp only [↓R0, R1, simprocAttr, -Int.reduceAbs, tA, tB, tC, c1', Fin, isEnd, resL, res1]
      exact ⟨_, rfl, rfl, hh⟩
  all_goals first | (simp only [↓R0, R1, simprocAttr, -Int.reduceAbs]; done) | (simp only [↓R0, R1, simprocAttr, -Int.reduceAbs]; rfl) | skip
  intro q hq
  have nb : ∀ j, (N + j = q) = False := fun j => eq_false (by omega)
  simp only [↓R0, R1, simprocAttr, -Int.reduceAbs, nb]
end Go.Eng
end
section
set_option linter.unusedVariables false
set_option linter.unusedSimpArgs false
set_option linter.unusedSectionVars false
set_option maxRecDepth 20000
namespace Go.Eng
open Go Go.Proofs Go.IntWalk
end Go.Eng
end
section
set_option linter.unusedVariables false
set_option linter.unusedSimpArgs false
set_option linter.unusedSectionVars false
set_option maxRecDepth 20000
namespace Go.Eng
open Go Go.Proofs Go.IntWalk
def ptOf (X Y Z W : Int) : Pt := ptI (pQ X Y Z W X) (pQ X Y Z W Y) (pQ X Y Z W Z) (pQ X Y Z W (pW W))
theorem ptOf_cells (X Y Z W : Int) : (ptOf X Y Z W).cells = pE X Y Z W := rfl
def sgp (c p : Pt) : Int := (sdv c p).sign
def cutP (c a b : Pt) : Pt := ptOf (a.x * sdv c b - b.x * sdv c a) (a.y * sdv c b - b.y * sdv c a) (a.z * sdv c b - b.z * sdv c a) (a.w * sdv c b - b.w * sdv c a)
theorem sgp_val (c p : Pt) : sgp c p = -1 ∨ sgp c p = 0 ∨ sgp c p = 1 := by
  unfold sgp
  rcases Int.lt_trichotomy (sdv c p) 0 with h | h | h
  · exact .inl (Int.sign_eq_neg_one_of_neg h)
  · exact .inr (.inl (by rw [h]; rfl))
  · exact .inr (.inr (Int.sign_eq_one_of_pos h))
theorem opp_cases {c a b : Pt} (h : sgp c a * sgp c b < 0) : (sdv c a < 0 ∧ 0 < sdv c b) ∨ (0 < sdv c a ∧ sdv c b < 0) := by
  unfold sgp at h
  rcases Int.lt_trichotomy (sdv c a) 0 with x | x | x <;> rcases Int.lt_trichotomy (sdv c b) 0 with y | y | y
  · rw [Int.sign_eq_neg_one_of_neg x, Int.sign_eq_neg_one_of_neg y] at h; omega
  · rw [y] at h; simp at h
  · exact .inl ⟨x, y⟩
  · rw [x] at h; simp at h
  · rw [x] at h; simp at h
  · rw [x] at h; simp at h
  · exact .inr ⟨x, y⟩
  · rw [y] at h; simp at h
  · rw [Int.sign_eq_one_of_pos x, Int.sign_eq_one_of_pos y] at h; omega
theorem opp_w {c a b : Pt} (h : sgp c a * sgp c b < 0) (ha : 0 < a.w) (hb : 0 < b.w) : a.w * sdv c b - b.w * sdv c a ≠ 0 := by
  rcases opp_cases h with ⟨x, y⟩ | ⟨x, y⟩
  · have h1 := Int.mul_pos ha y
    have h2 := Int.mul_neg_of_pos_of_neg hb x
    omega
  · have h1 := Int.mul_neg_of_pos_of_neg ha y
    have h2 := Int.mul_pos hb x
    omega
theorem xline_of {c a b : Pt} (hc : c.sz 1000000) (ha : a.sz 1000000) (hb : b.sz 1000000) (wa : 0 < a.w) (wb : 0 < b.w) (h : sgp c a * sgp c b < 0) :
    spXLine [.agg ⟨c.cells⟩, .agg ⟨a.cells⟩, .agg ⟨b.cells⟩] = some (.tuple ⟨[.agg ⟨(cutP c a b).cells⟩, .bool true]⟩) := by
  have ne : ¬ (a.s1 = b.s1 ∧ a.l1 = b.l1 ∧ a.s2 = b.s2 ∧ a.l2 = b.l2 ∧ a.s3 = b.s3 ∧ a.l3 = b.l3 ∧ a.s4 = b.s4 ∧ a.l4 = b.l4) := by
    rintro ⟨e1, e2, e3, e4, e5, e6, e7, e8⟩
    have : a = b := by cases a; cases b; simp_all
    rw [this] at h
    rcases sgp_val c b with e | e | e <;> rw [e] at h <;> omega
  have k : ∀ {i j : Nat}, i ≤ j → j ≤ 2147483648 → i ≤ 2147483648 := fun h h' => Nat.le_trans h h'
  have sz : c.l1.length ≤ 2147483648 ∧ c.l2.length ≤ 2147483648 ∧ c.l3.length ≤ 2147483648 ∧ c.l4.length ≤ 2147483648 ∧ a.l1.length ≤ 2147483648 ∧ a.l2.length ≤ 2147483648 ∧ a.l3.length ≤ 2147483648 ∧ a.l4.length ≤ 2147483648 ∧ b.l1.length ≤ 2147483648 ∧ b.l2.length ≤ 2147483648 ∧ b.l3.length ≤ 2147483648 ∧ b.l4.length ≤ 2147483648 :=
    ⟨k hc.1 (by omega), k hc.2.1 (by omega), k hc.2.2.1 (by omega), k hc.2.2.2 (by omega), k ha.1 (by omega), k ha.2.1 (by omega), k ha.2.2.1 (by omega), k ha.2.2.2 (by omega), k hb.1 (by omega), k hb.2.1 (by omega), k hb.2.2.1 (by omega), k hb.2.2.2 (by omega)⟩
  exact (if_pos sz).trans ((if_neg ne).trans ((if_neg (opp_w h wa wb)).trans rfl))
def prtAt (c : Pt) (l : List Pt) (here : Int) (i : Nat) : List Pt :=
  (if sgp c (ptAt l i) ≠ -here then [ptAt l i] else []) ++ (if sgp c (ptAt l i) * sgp c (ptAt l ((i + 1) % l.length)) < 0 then [cutP c (ptAt l i) (ptAt l ((i + 1) % l.length))] else [])
def prtL (c : Pt) (l : List Pt) (here : Int) : Nat → List Pt
  | 0 => []
  | i + 1 => prtL c l here i ++ prtAt c l here i
def anyP (c : Pt) (l : List Pt) (here : Int) (n : Nat) : Prop := ∃ j, j < n ∧ sgp c (ptAt l j) = here
instance {c : Pt} {l : List Pt} {here : Int} {n : Nat} : Decidable (anyP c l here n) := by unfold anyP; infer_instance
theorem anyP_succ {c : Pt} {l : List Pt} {here : Int} {n : Nat} : anyP c l here (n + 1) ↔ anyP c l here n ∨ sgp c (ptAt l n) = here := by
  constructor
  · rintro ⟨j, h1, h2⟩
    by_cases e : j = n
    · subst e; exact .inr h2
    · exact .inl ⟨j, by omega, h2⟩
  · rintro (⟨j, h1, h2⟩ | h)
    · exact ⟨j, by omega, h2⟩
    · exact ⟨n, by omega, h⟩
theorem any_ne {c : Pt} {l : List Pt} {here : Int} (hh : here ≠ 0) : ∀ {n : Nat}, anyP c l here n → prtL c l here n ≠ []
  | 0, ⟨j, h, _⟩ => by omega
  | n + 1, h => by
    rcases anyP_succ.1 h with h | h
    · intro e
      simp only [prtL, List.append_eq_nil_iff] at e
      exact any_ne hh h e.1
    · intro e
      simp only [prtL, prtAt, List.append_eq_nil_iff] at e
      have := e.2.1
      rw [if_pos (by omega)] at this
      cases this
theorem prtL_len {c : Pt} {l : List Pt} {here : Int} : ∀ n, (prtL c l here n).length ≤ 2 * n
  | 0 => Nat.le_refl _
  | n + 1 => by
    have := prtL_len (c := c) (l := l) (here := here) n
    simp only [prtL, prtAt, List.length_append]
    split <;> split <;> simp <;> omega
def ptsC (l : List Pt) : List Value := l.flatMap Pt.cells
theorem ptsC_len : ∀ l : List Pt, (ptsC l).length = l.length * 8
  | [] => rfl
  | p :: r => by
    have := ptsC_len r
    unfold ptsC at this ⊢
    rw [List.flatMap_cons, List.length_append, this, p.len8, List.length_cons, Nat.succ_mul]; omega
theorem ptsC_add (l : List Pt) (p : Pt) : ptsC l ++ p.cells = ptsC (l ++ [p]) := by unfold ptsC; simp
theorem ptsC_one (p : Pt) : p.cells = ptsC [p] := by unfold ptsC; simp
theorem ptsC_base (l : List Pt) : (ptsC l).all isBase = true := by
  rw [List.all_eq_true]
  intro v hv
  unfold ptsC at hv
  rw [List.mem_flatMap] at hv
  obtain ⟨p, _, h⟩ := hv
  exact List.all_eq_true.1 p.base8 v h
theorem ptsC_at : ∀ (l : List Pt) (i : Nat) (p : Pt), l[i]? = some p → ((ptsC l).drop (i * 8)).take 8 = p.cells
  | [], i, p, h => by simp at h
  | x :: l, 0, p, h => by
    simp at h; subst h
    unfold ptsC
    rw [List.flatMap_cons, Nat.zero_mul, List.drop_zero, List.take_append_of_le_length (by rw [x.len8]; omega), x.tk8]
  | x :: l, i + 1, p, h => by
    have := ptsC_at l i p (by simpa using h)
    unfold ptsC at this ⊢
    rw [List.flatMap_cons, Nat.succ_mul, Nat.add_comm (i * 8) 8, ← List.drop_drop]
    have e : (x.cells ++ l.flatMap Pt.cells).drop 8 = l.flatMap Pt.cells := List.drop_left' x.len8
    rw [e]; exact this
theorem ptsC_list {h : Heap} {k c : Nat} {e s : Nat} {x : Bool} {l : List Pt} (hb : hget h k = some ⟨e, s, x, ptsC l⟩) (hn : l ≠ []) (hc : l.length ≤ c) : listAt 8 decP h (.slice (some ⟨k, 0, none⟩) l.length c) = some l := by
  obtain ⟨n, hl⟩ : ∃ n, l.length = n + 1 := ⟨l.length - 1, by have := List.length_pos_iff.2 hn; omega⟩
  unfold listAt
  have la : lay 8 h (.slice (some ⟨k, 0, none⟩) l.length c) = some (ptsC l) := by
    rw [hl]
    unfold lay
    simp only [hb]
    rw [if_pos ⟨by omega, by rw [ptsC_len]; omega⟩, List.drop_zero, List.take_of_length_le (by rw [ptsC_len]; omega)]
  rw [la]
  exact many_some rfl (fun i p hp => by rw [ptsC_at l i p hp]; exact decP_cells p)
end Go.Eng
end
section
set_option linter.unusedVariables false
set_option linter.unusedSimpArgs false
set_option linter.unusedSectionVars false
set_option maxRecDepth 20000
namespace Go.Eng
open Go Go.Proofs Go.IntWalk
theorem ovf96 {n : Nat} (h : n ≤ 2000) : (n + 1) * 96 ≤ 140737488355328 ∧ (n + 1 + 1) * 96 ≤ 140737488355328 := ⟨by omega, by omega⟩
theorem nleS (n : Nat) : (n + 1 ≤ n) = False := eq_false (by omega)
def OutS (E : Nat) (hp : Heap) (sl : Value) (out : List Pt) (N M : Nat) : Prop :=
  (out = [] ∧ sl = .slice none 0 0) ∨ (out ≠ [] ∧ ∃ kk x, N ≤ kk ∧ kk < M ∧ sl = .slice (some ⟨kk, 0, none⟩) out.length out.length ∧ hget hp kk = some ⟨E, 8, x, ptsC out⟩)
def z9 : List Value := [.bool false, .string ⟨⟨[]⟩⟩, .bool false, .string ⟨⟨[]⟩⟩, .bool false, .string ⟨⟨[]⟩⟩, .bool false, .string ⟨⟨[]⟩⟩, .slice none 0 0]
theorem z9_len : z9.length = 9 := rfl
theorem z9_ok : z9.all okCell = true := rfl
theorem z9_st : setR z9 0 z9 = z9 := rfl
theorem pc9_ok (P : Pt) (a : Option Addr) (n c : Nat) : (pc9 P (.slice a n c)).all okCell = true := rfl
theorem pc9_bld (P : Pt) : setR z9 0 P.cells = pc9 P (.slice none 0 0) := rfl
theorem pc9_st (P : Pt) (sl : Value) : setR z9 0 (pc9 P sl) = pc9 P sl := rfl
theorem pc9_set (P : Pt) (sl sl' : Value) : setR (pc9 P sl) 8 [sl'] = pc9 P sl' := rfl
theorem z9_dflt : z9 = pc9 Pt.dflt (.slice none 0 0) := rfl
structure PartOK (P c : Pt) (l : List Pt) (here : Int) : Prop where
  hr : here = 1 ∨ here = -1
  sz : polySz 1000 P l
  cs : c.sz 1000
  w : ∀ p ∈ l, 0 < p.w
instance {P c : Pt} {l : List Pt} {here : Int} : Decidable (PartOK P c l here) :=
  decidable_of_iff ((here = 1 ∨ here = -1) ∧ polySz 1000 P l ∧ c.sz 1000 ∧ ∀ p ∈ l, 0 < p.w) ⟨fun ⟨a, b, c, d⟩ => ⟨a, b, c, d⟩, fun ⟨a, b, c, d⟩ => ⟨a, b, c, d⟩⟩
def partNL (P c : Pt) (l : List Pt) (here : Int) : NewL :=
  if anyP c l here l.length then ⟨1, fun σ => .agg ⟨pc9 P (.slice (some ⟨σ 0, 0, none⟩) (prtL c l here l.length).length (prtL c l here l.length).length)⟩, fun _ => 41, fun _ => 8, fun _ _ => ptsC (prtL c l here l.length)⟩
  else ⟨0, fun _ => .agg ⟨z9⟩, fun _ => 0, fun _ => 0, fun _ _ => []⟩
theorem partNL_par (P c : Pt) (l : List Pt) (here : Int) (h : Heap) : (partNL P c l here).Par h := by
  unfold partNL
  split
  · refine ⟨fun β σ σ' b1 _ => ?_, fun β σ σ' b1 _ i hi => VRs.of_base (ptsC_base _)⟩
    refine .agg _ _ (VRs.append (VRs.of_base P.base8) (.cons _ _ _ _ ?_ .nil))
    have := b1 0 (by simp)
    exact VR.sl (σ 0) 0 _ _ ⟨σ' 0, 0, []⟩ this
  · exact ⟨fun β σ σ' _ _ => .agg _ _ (VRs.of_base rfl), fun β σ σ' _ _ i hi => absurd hi (by simp)⟩
end Go.Eng
end
section
set_option linter.unusedVariables false
set_option linter.unusedSimpArgs false
set_option linter.unusedSectionVars false
set_option maxRecDepth 20000
namespace Go.Eng
open Go Go.Proofs Go.IntWalk
def decI : Value → Option Int
  | .int .i64 z => some z
  | _ => none
theorem decI_eq {v : Value} {z : Int} (h : decI v = some z) : v = .int .i64 z := by
  unfold decI at h
  split at h
  · cases h; rfl
  · cases h
def spPart1 : List Value → Heap → Option NewL
  | [.int .i64 here, .pointer (some ⟨kp, 0, none⟩), .pointer (some ⟨ks, 0, none⟩), .pointer (some ⟨kb, 0, none⟩)], h => match hget h kp, hget h ks, hget h kb with
    | some ⟨_, _, _, cs⟩, some ⟨_, _, _, [.slice (some ⟨kq, 0, none⟩) ns nc]⟩, some ⟨_, _, _, cb⟩ => match decPoly h cs, decP cb, hget h kq with
      | some (P, l), some c, some blk => if PartOK P c l here ∧ ns = l.length ∧ (∀ i, i < l.length → (blk.cells[i]?).bind decI = some (sgp c (ptAt l i))) then some (partNL P c l here) else none
      | _, _, _ => none
    | _, _, _ => none
  | _, _ => none
def c42 : ICode :=
  (.seq (.reg [qq 5 (.alloc 28 9 [(.bool false), e0, (.bool false), e0, (.bool false), e0, (.bool false), e0, (.slice none 0 0)])]) (.seq (.reg [qq 13 (.faddr 0 (.t 1)), qq 14 (.load true 8 (.t 13)), qq 15 (.build [(.bool false), e0, (.bool false), e0, (.bool false), e0, (.bool false), e0, (.slice none 0 0)] [(0, 8, (.t 14))]), qq 6 (.alloc 28 9 [(.bool false), e0, (.bool false), e0, (.bool false), e0, (.bool false), e0, (.slice none 0 0)]), qn (.store 9 (.t 6) (.t 15))]) (.seq (.reg [qq 7 (.mv (.c (.bool false)))]) (.seq (.seq (.reg [qq 16 (.faddr 8 (.t 1)), qq 17 (.load false 1 (.t 16)), qq 18 (.lensl (.t 17)), qq 19 (.mv (ci 0))]) (.block 0 (.loop (.seq (.reg [qq 20 (.bin .lss (.t 19) (.t 18))]) (.seq (.cond (.t 20) .skip (.exit 0)) (.seq (.block 1 (.seq (.reg [qq 21 (.mv (.t 19)), qq 22 (.ixsl 8 (.t 17) (.t 19)), qq 23 (.load true 8 (.t 22)), qq 9 (.alloc 41 8 [(.bool false), e0, (.bool false), e0, (.bool false), e0, (.bool false), e0]), qq 8 (.mv (.t 21)), qn (.store 8 (.t 9) (.t 23))]) (.seq (.reg [qq 24 (.load true 9 (.t 1)), qq 25 (.mv (.t 8)), qq 26 (.call 43 [(.t 24), (.t 25)]), qq 10 (.mv (.t 26))]) (.seq (.reg [qq 27 (.mv (.t 7)), qq 28 (.mv (.t 27)), ⟨(some 29), (some (28, false)), (.load false 1 (.t 2))⟩, ⟨(some 30), (some (28, false)), (.mv (.t 8))⟩, ⟨(some 31), (some (28, false)), (.ixsl 1 (.t 29) (.t 30))⟩, ⟨(some 32), (some (28, false)), (.load false 1 (.t 31))⟩, ⟨(some 33), (some (28, false)), (.mv (.t 0))⟩, ⟨(some 34), (some (28, false)), (.bin .eql (.t 32) (.t 33))⟩, qq 35 (.pick (.t 28) (.c (.bool true)) (.t 34)), qq 7 (.mv (.t 35))]) (.seq (.seq (.reg [qq 36 (.load false 1 (.t 2)), qq 37 (.mv (.t 8)), qq 38 (.ixsl 1 (.t 36) (.t 37)), qq 39 (.load false 1 (.t 38)), qq 40 (.mv (.t 0)), qq 41 (.un .neg (.t 40)), qq 42 (.bin .neq (.t 39) (.t 41))]) (.cond (.t 42) (.reg [qq 43 (.faddr 8 (.t 6)), qq 44 (.load false 1 (.t 43)), qq 45 (.load true 8 (.t 9)), qq 46 (.bslice 41 8 1 [(.bool false), e0, (.bool false), e0, (.bool false), e0, (.bool false), e0] [(0, 8, (.t 45))]), qq 47 (.app 41 8 96 (.t 44) (.t 46)), qq 48 (.faddr 8 (.t 6)), qn (.store 1 (.t 48) (.t 47))]) .skip)) (.seq (.dreg [qu 49 (.load false 1 (.t 2)), qu 50 (.mv (.t 8)), qu 51 (.ixsl 1 (.t 49) (.t 50)), qu 52 (.load false 1 (.t 51)), qu 53 (.load false 1 (.t 2)), qu 54 (.mv (.t 10)), qu 55 (.ixsl 1 (.t 53) (.t 54)), qu 56 (.load false 1 (.t 55)), qu 57 (.bin .mul (.t 52) (.t 56)), qu 58 (.bin .lss (.t 57) (ci 0))]) (.cond (.t 58) (.seq (.dreg [qu 60 (.load true 8 (.t 3)), qu 61 (.load true 8 (.t 9)), qu 62 (.faddr 8 (.t 1)), qu 63 (.load false 1 (.t 62)), qu 64 (.mv (.t 10)), qu 65 (.ixsl 8 (.t 63) (.t 64)), qu 66 (.load true 8 (.t 65)), qu 67 (.call 44 [(.t 60), (.t 61), (.t 66)]), qu 59 (.mv (.t 67)), qu 68 (.ext (.t 59) 0), qu 69 (.ext (.t 59) 1), qu 11 (.alloc 41 8 [(.bool false), e0, (.bool false), e0, (.bool false), e0, (.bool false), e0]), qm (.store 8 (.t 11) (.t 68)), qu 12 (.mv (.t 69))]) (.seq (.reg [qq 70 (.mv (.t 12))]) (.cond (.t 70) (.reg [qq 71 (.faddr 8 (.t 6)), qq 72 (.load false 1 (.t 71)), qq 73 (.load true 8 (.t 11)), qq 74 (.bslice 41 8 1 [(.bool false), e0, (.bool false), e0, (.bool false), e0, (.bool false), e0] [(0, 8, (.t 73))]), qq 75 (.app 41 8 96 (.t 72) (.t 74)), qq 76 (.faddr 8 (.t 6)), qn (.store 1 (.t 76) (.t 75))]) .skip))) .skip))))))) (.reg [qq 77 (.bin .add (.t 19) (ci 1)), qq 19 (.mv (.t 77))]))))))) (.seq (.seq (.reg [qq 78 (.mv (.t 7)), qq 79 (.un .not (.t 78))]) (.cond (.t 79) (.seq (.reg [qq 80 (.build [(.bool false), e0, (.bool false), e0, (.bool false), e0, (.bool false), e0, (.slice none 0 0)] []), qn (.store 9 (.t 5) (.t 80))]) .ret) .skip)) (.seq (.reg [qq 81 (.load true 9 (.t 6)), qn (.store 9 (.t 5) (.t 81))]) .ret))))))
theorem tr42 : trFun Tryz.prog 42 = some ⟨82, [.cell 5 true 9], c42⟩ := by kernel_rfl
set_option maxHeartbeats 40000000 in
theorem ok_Part1 : SpecOK Tryz.prog 42 (nwL spPart1) := by
  refine newL_run (env_cons ok_Pnext (env_cons ok_xLine (env_nil _))) mixed tr42 ?_ ?_
  · intro args h h' v hle e
    unfold spPart1 at e ⊢
    split at e
    · rename_i here kp ks kb
      split at e
      · rename_i cs kq ns nc cb b1 b2 b3
        simp only [hle _ _ b1, hle _ _ b2, hle _ _ b3]
        split at e
        · rename_i P l c blk d1 d2 d3
          simp only [decPoly_mono hle d1, d2, hle _ _ d3]; exact e
        · cases e
      · cases e
    · cases e
  intro args h N v hG hN
  unfold spPart1 at hG
  split at hG
  case h_2 => cases hG
  rename_i here kp ks kb
  split at hG
  case h_2 => cases hG
  rename_i ep zp xp cs es zs xs kq ns nc eb zb xb cb hbp hbs hbb
  split at hG
  case h_2 => cases hG
  rename_i P l c blkq hx hc hbq
  split at hG
  case isFalse => cases hG
  rename_i hl
  obtain ⟨hs, rfl, hsd⟩ := hl
  cases hG
  obtain ⟨sl, rfl, hx'⟩ := decPoly_eq hx
  clear hx
  rename listAt 8 decP h sl = some l => hx
  obtain ⟨a, cc, rfl⟩ := listAt_sl hx
  have ec := decP_eq hc
  subst ec
  have np := hN _ _ hbp
  have ns := hN _ _ hbs
  have nb := hN _ _ hbb
  have nq := hN _ _ hbq
  have sd : ∀ i, i < l.length → blkq.cells[i]? = some (.int .i64 (sgp c (ptAt l i))) := fun i hi => by
    have := hsd i hi
    rw [Option.bind_eq_some_iff] at this
    obtain ⟨v, h1, h2⟩ := this
    rw [h1, decI_eq h2]
  clear hsd
  have Np : ∀ j, (N + j = kp) = False := fun j => eq_false (by omega)
  have Ns : ∀ j, (N + j = ks) = False := fun j => eq_false (by omega)
  have Nb : ∀ j, (N + j = kb) = False := fun j => eq_false (by omega)
  have Nq : ∀ j, (N + j = kq) = False := fun j => eq_false (by omega)
  refine ⟨partNL_par _ _ _ _ _, by simp, ?_⟩
  have hn3 := hs.sz.2.2
  have c9 := pc9_s P (.slice a l.length cc)
  have l9 := pc9_len P (.slice a l.length cc)
  have t9 := pc9_tk P (.slice a l.length cc)
  have g9 := pc9_g P (.slice a l.length cc)
  have nx9 : ∀ i, i < l.length → spPnext [.agg ⟨pc9 P (.slice a l.length cc)⟩, .int .i64 (i : Nat)] = some (.int .i64 (((i + 1) % l.length : Nat) : Int)) := fun i hi => next_of hi (by omega)
  generalize pc9 P (.slice a l.length cc) = C9 at *
  have lP := P.len8
  have lC := c.len8
  have tC := c.tk8
  have ez : z9 = [.bool false, .string ⟨⟨[]⟩⟩, .bool false, .string ⟨⟨[]⟩⟩, .bool false, .string ⟨⟨[]⟩⟩, .bool false, .string ⟨⟨[]⟩⟩, .slice none 0 0] := rfl
  have bld := pc9_bld P
  have pst := pc9_st P
  have pset := pc9_set P
  have plen := pc9_len P
  have pok := pc9_ok P
  have psl := pc9_s P
  have ptk := pc9_tk P
  have zlen := z9_len
  have zok := z9_ok
  have zst := z9_st
  have wn : IntKind.i64.wrap (0 - here) = -here := by rw [i64_in _ (by have := hs.hr; omega)]; omega
  have hne0 : here ≠ 0 := by have := hs.hr; omega
  simp only [c42, G0, Nat.reduceAdd]
  simp only [↓R0, R1, simprocAttr, -Int.reduceAbs, ← ez, l9, c9, g9, t9, lP, bld, plen, pok, pst, zlen, Np, hbp]
  refine lp_parts (fun n tm hp nx => ∃ (i M : Nat) (sl : Value), n + i = l.length ∧ tmget tm 17 = .slice a l.length cc ∧ tmget tm 18 = .int .i64 l.length ∧ tmget tm 19 = .int .i64 i ∧ tmget tm 0 = .int .i64 here ∧ tmget tm 1 = .pointer (some ⟨kp, 0, none⟩) ∧ tmget tm 2 = .pointer (some ⟨ks, 0, none⟩) ∧ tmget tm 3 = .pointer (some ⟨kb, 0, none⟩) ∧ tmget tm 5 = .pointer (some ⟨N + 0, 0, none⟩) ∧ tmget tm 6 = .pointer (some ⟨N + 1, 0, none⟩) ∧ tmget tm 7 = .bool (decide (anyP c l here i)) ∧ hget hp (N + 0) = some ⟨28, 9, true, z9⟩ ∧ hget hp (N + 1) = some ⟨28, 9, true, pc9 P sl⟩ ∧ OutS 41 hp sl (prtL c l here i) (N + 2) M ∧ (∀ q, q < N → hget hp q = hget h q) ∧ N + 2 ≤ M ∧ nx = M + 0) ?_ l.length
    ⟨0, N + 2, .slice none 0 0, by omega, ?_, ?_, ?_, ?_, ?_, ?_, ?_, ?_, ?_, ?_, ?_, ?_, .inl ⟨rfl, rfl⟩, ?_, Nat.le_refl _, rfl⟩
  rotate_left
  all_goals first | (simp only [↓R0, R1, simprocAttr, -Int.reduceAbs]; done) | (simp only [↓R0, R1, simprocAttr, -Int.reduceAbs]; rfl) | skip
  · intro q hq
    have nb : ∀ j, (N + j = q) = False := fun j => eq_false (by omega)
    simp only [↓R0, R1, simprocAttr, -Int.reduceAbs, nb]
  rintro n tm hp nx ⟨i, M, sl, hn, tA, tB, tC', t0x, t1x, t2x, t3x, t5x, t6x, tF, b0, b1, hO, hh, hM, hnx⟩
  rw [hnx]
  clear hnx nx
  have M0 : ∀ j, (M + j = N + 0) = False := fun j => eq_false (by omega)
  have M1 : ∀ j, (M + j = N + 1) = False := fun j => eq_false (by omega)
  have Q0 : ∀ j, (N + 0 = M + j) = False := fun j => eq_false (by omega)
  have Q1 : ∀ j, (N + 1 = M + j) = False := fun j => eq_false (by omega)
  have R0x : ∀ d, (N = M + d) = False := fun d => eq_false (by omega)
  have R1x : (N + 1 = M) = False := eq_false (by omega)
  have R4x : (N = M) = False := eq_false (by omega)
  have hbp' : hget hp kp = some ⟨ep, zp, xp, C9⟩ := by rw [hh kp np]; exact hbp
  have hbs' : hget hp ks = some ⟨es, zs, xs, [.slice (some ⟨kq, 0, none⟩) l.length nc]⟩ := by rw [hh ks ns]; exact hbs
  have hbb' : hget hp kb = some ⟨eb, zb, xb, c.cells⟩ := by rw [hh kb nb]; exact hbb
  have hbq' : hget hp kq = some blkq := by rw [hh kq nq]; exact hbq
  have Mp : ∀ j, (M + j = kp) = False := fun j => eq_false (by omega)
  have Ms : ∀ j, (M + j = ks) = False := fun j => eq_false (by omega)
  have Mb : ∀ j, (M + j = kb) = False := fun j => eq_false (by omega)
  have Mq : ∀ j, (M + j = kq) = False := fun j => eq_false (by omega)
  by_cases c1 : i < l.length
  case neg =>
    have e : i = l.length := by omega
    subst e
    have c1' : ((l.length : Int) < (l.length : Int)) = False := eq_false (by omega)
    unfold partNL
    by_cases hF : anyP c l here l.length
    · rw [decide_eq_true hF] at tF
      rw [if_pos hF]
      rcases hO with ⟨hnil, _⟩ | ⟨hne, kk, x, k1, k2, hsl, hkk⟩
      · exact absurd hnil (any_ne hne0 hF)
      subst hsl
      have kr : (N + 0 = kk) = False := eq_false (by omega)
      simp only [↓R0, R1, simprocAttr, -Int.reduceAbs, tA, tB, tC', t0x, t1x, t2x, t3x, t5x, t6x, tF, b0, b1, c1', plen, ptk, pok, pst, zlen, zok, zst, Bool.not_false, Bool.not_true, FinL, isEnd, resL, res1]
      refine ⟨fun _ => kk, _, fun _ _ => (by omega : N ≤ kk), fun i j (hi : i < 1) (hj : j < 1) _ => by omega, rfl, rfl, fun i hi => ⟨x, ?_⟩, fun q hq => ?_⟩
      · simp only [↓R0, R1, simprocAttr, -Int.reduceAbs, kr]
        exact hkk
      · simp only [show (N + 0 = q) = False from eq_false (by omega), if_false]; exact hh q hq
    · rw [decide_eq_false hF] at tF
      rw [if_neg hF]
      simp only [↓R0, R1, simprocAttr, -Int.reduceAbs, ← ez, tA, tB, tC', t0x, t1x, t2x, t3x, t5x, t6x, tF, b0, b1, c1', plen, ptk, pok, pst, zlen, zok, zst, Bool.not_false, Bool.not_true, FinL, isEnd, resL, res1]
      refine ⟨fun _ => 0, _, fun i (h : i < 0) => by omega, fun i j (hi : i < 0) hj _ => by omega, rfl, rfl, fun i (hi : i < 0) => by omega, fun q hq => ?_⟩
      simp only [show (N + 0 = q) = False from eq_false (by omega), if_false]; exact hh q hq
  obtain ⟨k, off, blk, ea, hb, q1, q2⟩ := vert_at hx c1
  subst ea
  have hk := hN _ _ hb
  have hbv : hget hp k = some blk := by rw [hh k hk]; exact hb
  have hi1 : (i + 1) % l.length < l.length := Nat.mod_lt _ (by omega)
  obtain ⟨k', off', blk', ea', hb', r1, r2⟩ := vert_at hx hi1
  cases ea'
  rw [hb] at hb'; cases hb'
  have Mk : ∀ j, (M + j = k) = False := fun j => eq_false (by omega)
  have Nk : ∀ j, (N + j = k) = False := fun j => eq_false (by omega)
  have c1' : ((i : Int) < (l.length : Int)) = True := eq_true (by omega)
  have hi1' : ((((i + 1) % l.length : Nat) : Int) < (l.length : Int)) = True := eq_true (by omega)
  have w1 : IntKind.i64.wrap ((i : Int) + 1) = ((i + 1 : Nat) : Int) := by rw [i64_in _ (by omega)]; omega
  have z1 : ((l.length : Int) = 0) = False := eq_false (by omega)
  have z2 : (l.length = 0) = False := eq_false (by omega)
  have m1 : Int.tmod ((i + 1 : Nat) : Int) (l.length : Int) = (((i + 1) % l.length : Nat) : Int) := by rw [Int.tmod_eq_emod_of_nonneg (by omega)]; rfl
  have en := nx9 i c1
  have si := sd i c1
  have sj := sd _ hi1
  have ol := prtL_len (c := c) (l := l) (here := here) i
  have ep : prtL c l here (i + 1) = prtL c l here i ++ prtAt c l here i := rfl
  unfold prtAt at ep
  have sa := (hs.sz.at c1).le (k := 1000000) (by omega)
  have sb := (hs.sz.at hi1).le (k := 1000000) (by omega)
  have sc := hs.cs.le (k := 1000000) (by omega)
  have wa := hs.w _ (ptAt_mem c1)
  have wb := hs.w _ (ptAt_mem hi1)
  have fs := anyP_succ (c := c) (l := l) (here := here) (n := i)
  generalize prtL c l here i = out at *
  generalize ptAt l i = A at *
  generalize ptAt l ((i + 1) % l.length) = B at *
  have s5 := side_of sc sa
  have s6 := side_of sc sb
  have xl := fun h => xline_of sc sa sb wa wb h
  have vs := sgp_val c A
  have vt := sgp_val c B
  have es : (sdv c A).sign = sgp c A := rfl
  have et : (sdv c B).sign = sgp c B := rfl
  rw [es] at s5
  rw [et] at s6
  clear es et
  generalize cutP c A B = Q at *
  generalize sgp c A = s at *
  generalize sgp c B = t at *
  have ws : IntKind.i64.wrap (s * t) = s * t := by
    rcases vs with rfl | rfl | rfl <;> rcases vt with rfl | rfl | rfl <;> decide
  have aA := A.len8; have oA := A.ok8; have tkA := A.tk8
  have aB := B.len8; have oB := B.ok8; have tkB := B.tk8
  have aQ := Q.len8; have oQ := Q.ok8; have tkQ := Q.tk8
  have stA : setR [.bool false, .string ⟨⟨[]⟩⟩, .bool false, .string ⟨⟨[]⟩⟩, .bool false, .string ⟨⟨[]⟩⟩, .bool false, .string ⟨⟨[]⟩⟩] 0 A.cells = A.cells := rfl
  have stB : setR [.bool false, .string ⟨⟨[]⟩⟩, .bool false, .string ⟨⟨[]⟩⟩, .bool false, .string ⟨⟨[]⟩⟩, .bool false, .string ⟨⟨[]⟩⟩] 0 B.cells = B.cells := rfl
  have stQ : setR [.bool false, .string ⟨⟨[]⟩⟩, .bool false, .string ⟨⟨[]⟩⟩, .bool false, .string ⟨⟨[]⟩⟩, .bool false, .string ⟨⟨[]⟩⟩] 0 Q.cells = Q.cells := rfl
  have lo := ptsC_len out
  have ol2 : out.length ≤ 2000 := by omega
  have ovf1 := (ovf96 ol2).1
  have ovf2 := (ovf96 ol2).2
  have nle1 := nleS out.length
  have nle2 := nleS (out.length + 1)
  clear ol
  have lo2 := ptsC_len (out ++ [A])
  have la2 : (out ++ [A]).length = out.length + 1 := by simp
  rw [la2] at lo2
  have pa := ptsC_add out A
  have pq := ptsC_add out Q
  have paq := ptsC_add (out ++ [A]) Q
  have p1 := ptsC_one A
  have p1q := ptsC_one Q
  rcases hO with ⟨hnil, hsl⟩ | ⟨hne, kk, x, k1, k2, hsl, hkk⟩
  · subst hsl
    by_cases hF : anyP c l here i
    case neg =>
      rw [decide_eq_false hF] at tF
      by_cases hA : s = -here
      case pos =>
        have hA' : (s = -here) = True := eq_true hA
        have hE : ¬ s = here := by omega
        have hE' : (s = here) = False := eq_false hE
        by_cases hB : s * t < 0
        case neg =>
          have hB' : (s * t < 0) = False := eq_false hB
          have ff : decide (anyP c l here (i + 1)) = false := decide_eq_false (fun e => (fs.1 e).elim hF hE)
          have eo : prtL c l here (i + 1) = out := by rw [ep, if_neg (fun e => e hA), if_neg hB]; simp
          simp only [↓R0, R1, simprocAttr, -Int.reduceAbs, ← ez, tA, tB, tC', t0x, t1x, t2x, t3x, t5x, t6x, tF, b0, b1, M0, M1, Q0, Q1, R0x, R4x, R1x, c1, c1', hbv, Mk, Nk, q1, q2, hi1, hi1', r1, r2, w1, z1, z2, m1, l9, c9, t9, g9, lC, tC, en, si, sj, aA, oA, tkA, stA, aB, oB, tkB, stB, wn, ws, plen, ptk, psl, pset, pok, Bool.not_false, Bool.not_true, hbp', hbs', hbb', hbq', Mp, Ms, Mb, Mq, Np, Ns, Nb, Nq, hE', hA', hB', lo, ovf1, ovf2, nle1, nle2, lo2, la2, pa, pq, paq, ff]
          refine ⟨n - 1, by omega, i + 1, M + 1, .slice none 0 0, by omega, rfl, ?_⟩
          simp only [ff, true_and, and_true]
          refine ⟨?_, fun q hq => ?_, by omega⟩
          · rw [eo]
            exact .inl ⟨hnil, rfl⟩
          · have nb : ∀ j, (M + j = q) = False := fun j => eq_false (by omega)
            have nc : ∀ j, (N + j = q) = False := fun j => eq_false (by omega)
            simp only [↓R0, R1, simprocAttr, -Int.reduceAbs, nb, nc]
            exact hh q hq
        have hB' : (s * t < 0) = True := eq_true hB
        have xl' := xl hB
        have ff : decide (anyP c l here (i + 1)) = false := decide_eq_false (fun e => (fs.1 e).elim hF hE)
        have eo : prtL c l here (i + 1) = out ++ [Q] := by rw [ep, if_neg (fun e => e hA), if_pos hB]; simp
        simp only [↓R0, R1, simprocAttr, -Int.reduceAbs, ← ez, tA, tB, tC', t0x, t1x, t2x, t3x, t5x, t6x, tF, b0, b1, M0, M1, Q0, Q1, R0x, R4x, R1x, c1, c1', hbv, Mk, Nk, q1, q2, hi1, hi1', r1, r2, w1, z1, z2, m1, l9, c9, t9, g9, lC, tC, en, si, sj, aA, oA, tkA, stA, aB, oB, tkB, stB, wn, ws, plen, ptk, psl, pset, pok, Bool.not_false, Bool.not_true, hbp', hbs', hbb', hbq', Mp, Ms, Mb, Mq, Np, Ns, Nb, Nq, hE', hA', hB', xl', aQ, oQ, tkQ, stQ, lo, ovf1, ovf2, nle1, nle2, lo2, la2, pa, pq, paq, ff]
        refine ⟨n - 1, by omega, i + 1, M + 4, .slice (some ⟨M + 3, 0, none⟩) 1 1, by omega, rfl, ?_⟩
        simp only [ff, true_and, and_true]
        refine ⟨?_, fun q hq => ?_, by omega⟩
        · rw [eo]
          rw [hnil]
          refine .inr ⟨by simp, M + 3, false, by omega, by omega, rfl, ?_⟩
          simp only [↓R0, R1, simprocAttr, -Int.reduceAbs, M0, M1, Q0, Q1, R0x, R4x, R1x]
          rfl
        · have nb : ∀ j, (M + j = q) = False := fun j => eq_false (by omega)
          have nc : ∀ j, (N + j = q) = False := fun j => eq_false (by omega)
          simp only [↓R0, R1, simprocAttr, -Int.reduceAbs, nb, nc]
          exact hh q hq
      have hA' : (s = -here) = False := eq_false hA
      by_cases hE : s = here
      case pos =>
        have hE' : (s = here) = True := eq_true hE
        by_cases hB : s * t < 0
        case neg =>
          have hB' : (s * t < 0) = False := eq_false hB
          have ff : decide (anyP c l here (i + 1)) = true := decide_eq_true (fs.2 (.inr hE))
          have eo : prtL c l here (i + 1) = out ++ [A] := by rw [ep, if_pos hA, if_neg hB]; simp
          simp only [↓R0, R1, simprocAttr, -Int.reduceAbs, ← ez, tA, tB, tC', t0x, t1x, t2x, t3x, t5x, t6x, tF, b0, b1, M0, M1, Q0, Q1, R0x, R4x, R1x, c1, c1', hbv, Mk, Nk, q1, q2, hi1, hi1', r1, r2, w1, z1, z2, m1, l9, c9, t9, g9, lC, tC, en, si, sj, aA, oA, tkA, stA, aB, oB, tkB, stB, wn, ws, plen, ptk, psl, pset, pok, Bool.not_false, Bool.not_true, hbp', hbs', hbb', hbq', Mp, Ms, Mb, Mq, Np, Ns, Nb, Nq, hE', hA', hB', lo, ovf1, ovf2, nle1, nle2, lo2, la2, pa, pq, paq, ff]
          refine ⟨n - 1, by omega, i + 1, M + 3, .slice (some ⟨M + 2, 0, none⟩) 1 1, by omega, rfl, ?_⟩
          simp only [ff, true_and, and_true]
          refine ⟨?_, fun q hq => ?_, by omega⟩
          · rw [eo]
            rw [hnil]
            refine .inr ⟨by simp, M + 2, false, by omega, by omega, rfl, ?_⟩
            simp only [↓R0, R1, simprocAttr, -Int.reduceAbs, M0, M1, Q0, Q1, R0x, R4x, R1x]
            rfl
          · have nb : ∀ j, (M + j = q) = False := fun j => eq_false (by omega)
            have nc : ∀ j, (N + j = q) = False := fun j => eq_false (by omega)
            simp only [↓R0, R1, simprocAttr, -Int.reduceAbs, nb, nc]
            exact hh q hq
        have hB' : (s * t < 0) = True := eq_true hB
        have xl' := xl hB
        have ff : decide (anyP c l here (i + 1)) = true := decide_eq_true (fs.2 (.inr hE))
        have eo : prtL c l here (i + 1) = (out ++ [A]) ++ [Q] := by rw [ep, if_pos hA, if_pos hB]; simp
        simp only [↓R0, R1, simprocAttr, -Int.reduceAbs, ← ez, tA, tB, tC', t0x, t1x, t2x, t3x, t5x, t6x, tF, b0, b1, M0, M1, Q0, Q1, R0x, R4x, R1x, c1, c1', hbv, Mk, Nk, q1, q2, hi1, hi1', r1, r2, w1, z1, z2, m1, l9, c9, t9, g9, lC, tC, en, si, sj, aA, oA, tkA, stA, aB, oB, tkB, stB, wn, ws, plen, ptk, psl, pset, pok, Bool.not_false, Bool.not_true, hbp', hbs', hbb', hbq', Mp, Ms, Mb, Mq, Np, Ns, Nb, Nq, hE', hA', hB', xl', aQ, oQ, tkQ, stQ, lo, ovf1, ovf2, nle1, nle2, lo2, la2, pa, pq, paq, ff]
        refine ⟨n - 1, by omega, i + 1, M + 6, .slice (some ⟨M + 5, 0, none⟩) 2 2, by omega, rfl, ?_⟩
        simp only [ff, true_and, and_true]
        refine ⟨?_, fun q hq => ?_, by omega⟩
        · rw [eo]
          rw [hnil]
          refine .inr ⟨by simp, M + 5, false, by omega, by omega, rfl, ?_⟩
          simp only [↓R0, R1, simprocAttr, -Int.reduceAbs, M0, M1, Q0, Q1, R0x, R4x, R1x]
          rfl
        · have nb : ∀ j, (M + j = q) = False := fun j => eq_false (by omega)
          have nc : ∀ j, (N + j = q) = False := fun j => eq_false (by omega)
          simp only [↓R0, R1, simprocAttr, -Int.reduceAbs, nb, nc]
          exact hh q hq
      have hE' : (s = here) = False := eq_false hE
      by_cases hB : s * t < 0
      case neg =>
        have hB' : (s * t < 0) = False := eq_false hB
        have ff : decide (anyP c l here (i + 1)) = false := decide_eq_false (fun e => (fs.1 e).elim hF hE)
        have eo : prtL c l here (i + 1) = out ++ [A] := by rw [ep, if_pos hA, if_neg hB]; simp
        simp only [↓R0, R1, simprocAttr, -Int.reduceAbs, ← ez, tA, tB, tC', t0x, t1x, t2x, t3x, t5x, t6x, tF, b0, b1, M0, M1, Q0, Q1, R0x, R4x, R1x, c1, c1', hbv, Mk, Nk, q1, q2, hi1, hi1', r1, r2, w1, z1, z2, m1, l9, c9, t9, g9, lC, tC, en, si, sj, aA, oA, tkA, stA, aB, oB, tkB, stB, wn, ws, plen, ptk, psl, pset, pok, Bool.not_false, Bool.not_true, hbp', hbs', hbb', hbq', Mp, Ms, Mb, Mq, Np, Ns, Nb, Nq, hE', hA', hB', lo, ovf1, ovf2, nle1, nle2, lo2, la2, pa, pq, paq, ff]
        refine ⟨n - 1, by omega, i + 1, M + 3, .slice (some ⟨M + 2, 0, none⟩) 1 1, by omega, rfl, ?_⟩
        simp only [ff, true_and, and_true]
        refine ⟨?_, fun q hq => ?_, by omega⟩
        · rw [eo]
          rw [hnil]
          refine .inr ⟨by simp, M + 2, false, by omega, by omega, rfl, ?_⟩
          simp only [↓R0, R1, simprocAttr, -Int.reduceAbs, M0, M1, Q0, Q1, R0x, R4x, R1x]
          rfl
        · have nb : ∀ j, (M + j = q) = False := fun j => eq_false (by omega)
          have nc : ∀ j, (N + j = q) = False := fun j => eq_false (by omega)
          simp only [↓R0, R1, simprocAttr, -Int.reduceAbs, nb, nc]
          exact hh q hq
      have hB' : (s * t < 0) = True := eq_true hB
      have xl' := xl hB
      have ff : decide (anyP c l here (i + 1)) = false := decide_eq_false (fun e => (fs.1 e).elim hF hE)
      have eo : prtL c l here (i + 1) = (out ++ [A]) ++ [Q] := by rw [ep, if_pos hA, if_pos hB]; simp
      simp only [↓R0, R1, simprocAttr, -Int.reduceAbs, ← ez, tA, tB, tC', t0x, t1x, t2x, t3x, t5x, t6x, tF, b0, b1, M0, M1, Q0, Q1, R0x, R4x, R1x, c1, c1', hbv, Mk, Nk, q1, q2, hi1, hi1', r1, r2, w1, z1, z2, m1, l9, c9, t9, g9, lC, tC, en, si, sj, aA, oA, tkA, stA, aB, oB, tkB, stB, wn, ws, plen, ptk, psl, pset, pok, Bool.not_false, Bool.not_true, hbp', hbs', hbb', hbq', Mp, Ms, Mb, Mq, Np, Ns, Nb, Nq, hE', hA', hB', xl', aQ, oQ, tkQ, stQ, lo, ovf1, ovf2, nle1, nle2, lo2, la2, pa, pq, paq, ff]
      refine ⟨n - 1, by omega, i + 1, M + 6, .slice (some ⟨M + 5, 0, none⟩) 2 2, by omega, rfl, ?_⟩
      simp only [ff, true_and, and_true]
      refine ⟨?_, fun q hq => ?_, by omega⟩
      · rw [eo]
        rw [hnil]
        refine .inr ⟨by simp, M + 5, false, by omega, by omega, rfl, ?_⟩
        simp only [↓R0, R1, simprocAttr, -Int.reduceAbs, M0, M1, Q0, Q1, R0x, R4x, R1x]
        rfl
      · have nb : ∀ j, (M + j = q) = False := fun j => eq_false (by omega)
        have nc : ∀ j, (N + j = q) = False := fun j => eq_false (by omega)
        simp only [↓R0, R1, simprocAttr, -Int.reduceAbs, nb, nc]
        exact hh q hq
    rw [decide_eq_true hF] at tF
    by_cases hA : s = -here
    case pos =>
      have hA' : (s = -here) = True := eq_true hA
      have hE : ¬ s = here := by omega
      have hE' : (s = here) = False := eq_false hE
      by_cases hB : s * t < 0
      case neg =>
        have hB' : (s * t < 0) = False := eq_false hB
        have ff : decide (anyP c l here (i + 1)) = true := decide_eq_true (fs.2 (.inl hF))
        have eo : prtL c l here (i + 1) = out := by rw [ep, if_neg (fun e => e hA), if_neg hB]; simp
        simp only [↓R0, R1, simprocAttr, -Int.reduceAbs, ← ez, tA, tB, tC', t0x, t1x, t2x, t3x, t5x, t6x, tF, b0, b1, M0, M1, Q0, Q1, R0x, R4x, R1x, c1, c1', hbv, Mk, Nk, q1, q2, hi1, hi1', r1, r2, w1, z1, z2, m1, l9, c9, t9, g9, lC, tC, en, si, sj, aA, oA, tkA, stA, aB, oB, tkB, stB, wn, ws, plen, ptk, psl, pset, pok, Bool.not_false, Bool.not_true, hbp', hbs', hbb', hbq', Mp, Ms, Mb, Mq, Np, Ns, Nb, Nq, hA', hB', lo, ovf1, ovf2, nle1, nle2, lo2, la2, pa, pq, paq, ff]
        refine ⟨n - 1, by omega, i + 1, M + 1, .slice none 0 0, by omega, rfl, ?_⟩
        simp only [ff, true_and, and_true]
        refine ⟨?_, fun q hq => ?_, by omega⟩
        · rw [eo]
          exact .inl ⟨hnil, rfl⟩
        · have nb : ∀ j, (M + j = q) = False := fun j => eq_false (by omega)
          have nc : ∀ j, (N + j = q) = False := fun j => eq_false (by omega)
          simp only [↓R0, R1, simprocAttr, -Int.reduceAbs, nb, nc]
          exact hh q hq
      have hB' : (s * t < 0) = True := eq_true hB
      have xl' := xl hB
      have ff : decide (anyP c l here (i + 1)) = true := decide_eq_true (fs.2 (.inl hF))
      have eo : prtL c l here (i + 1) = out ++ [Q] := by rw [ep, if_neg (fun e => e hA), if_pos hB]; simp
      simp only [↓R0, R1, simprocAttr, -Int.reduceAbs, ← ez, tA, tB, tC', t0x, t1x, t2x, t3x, t5x, t6x, tF, b0, b1, M0, M1, Q0, Q1, R0x, R4x, R1x, c1, c1', hbv, Mk, Nk, q1, q2, hi1, hi1', r1, r2, w1, z1, z2, m1, l9, c9, t9, g9, lC, tC, en, si, sj, aA, oA, tkA, stA, aB, oB, tkB, stB, wn, ws, plen, ptk, psl, pset, pok, Bool.not_false, Bool.not_true, hbp', hbs', hbb', hbq', Mp, Ms, Mb, Mq, Np, Ns, Nb, Nq, hA', hB', xl', aQ, oQ, tkQ, stQ, lo, ovf1, ovf2, nle1, nle2, lo2, la2, pa, pq, paq, ff]
      refine ⟨n - 1, by omega, i + 1, M + 4, .slice (some ⟨M + 3, 0, none⟩) 1 1, by omega, rfl, ?_⟩
      simp only [ff, true_and, and_true]
      refine ⟨?_, fun q hq => ?_, by omega⟩
      · rw [eo]
        rw [hnil]
        refine .inr ⟨by simp, M + 3, false, by omega, by omega, rfl, ?_⟩
        simp only [↓R0, R1, simprocAttr, -Int.reduceAbs, M0, M1, Q0, Q1, R0x, R4x, R1x]
        rfl
      · have nb : ∀ j, (M + j = q) = False := fun j => eq_false (by omega)
        have nc : ∀ j, (N + j = q) = False := fun j => eq_false (by omega)
        simp only [↓R0, R1, simprocAttr, -Int.reduceAbs, nb, nc]
        exact hh q hq
    have hA' : (s = -here) = False := eq_false hA
    by_cases hB : s * t < 0
    case neg =>
      have hB' : (s * t < 0) = False := eq_false hB
      have ff : decide (anyP c l here (i + 1)) = true := decide_eq_true (fs.2 (.inl hF))
      have eo : prtL c l here (i + 1) = out ++ [A] := by rw [ep, if_pos hA, if_neg hB]; simp
      simp only [↓R0, R1, simprocAttr, -Int.reduceAbs, ← ez, tA, tB, tC', t0x, t1x, t2x, t3x, t5x, t6x, tF, b0, b1, M0, M1, Q0, Q1, R0x, R4x, R1x, c1, c1', hbv, Mk, Nk, q1, q2, hi1, hi1', r1, r2, w1, z1, z2, m1, l9, c9, t9, g9, lC, tC, en, si, sj, aA, oA, tkA, stA, aB, oB, tkB, stB, wn, ws, plen, ptk, psl, pset, pok, Bool.not_false, Bool.not_true, hbp', hbs', hbb', hbq', Mp, Ms, Mb, Mq, Np, Ns, Nb, Nq, hA', hB', lo, ovf1, ovf2, nle1, nle2, lo2, la2, pa, pq, paq, ff]
      refine ⟨n - 1, by omega, i + 1, M + 3, .slice (some ⟨M + 2, 0, none⟩) 1 1, by omega, rfl, ?_⟩
      simp only [ff, true_and, and_true]
      refine ⟨?_, fun q hq => ?_, by omega⟩
      · rw [eo]
        rw [hnil]
        refine .inr ⟨by simp, M + 2, false, by omega, by omega, rfl, ?_⟩
        simp only [↓R0, R1, simprocAttr, -Int.reduceAbs, M0, M1, Q0, Q1, R0x, R4x, R1x]
        rfl
      · have nb : ∀ j, (M + j = q) = False := fun j => eq_false (by omega)
        have nc : ∀ j, (N + j = q) = False := fun j => eq_false (by omega)
        simp only [↓R0, R1, simprocAttr, -Int.reduceAbs, nb, nc]
        exact hh q hq
    have hB' : (s * t < 0) = True := eq_true hB
    have xl' := xl hB
    have ff : decide (anyP c l here (i + 1)) = true := decide_eq_true (fs.2 (.inl hF))
    have eo : prtL c l here (i + 1) = (out ++ [A]) ++ [Q] := by rw [ep, if_pos hA, if_pos hB]; simp
    simp only [↓R0, R1, simprocAttr, -Int.reduceAbs, ← ez, tA, tB, tC', t0x, t1x, t2x, t3x, t5x, t6x, tF, b0, b1, M0, M1, Q0, Q1, R0x, R4x, R1x, c1, c1', hbv, Mk, Nk, q1, q2, hi1, hi1', r1, r2, w1, z1, z2, m1, l9, c9, t9, g9, lC, tC, en, si, sj, aA, oA, tkA, stA, aB, oB, tkB, stB, wn, ws, plen, ptk, psl, pset, pok, Bool.not_false, Bool.not_true, hbp', hbs', hbb', hbq', Mp, Ms, Mb, Mq, Np, Ns, Nb, Nq, hA', hB', xl', aQ, oQ, tkQ, stQ, lo, ovf1, ovf2, nle1, nle2, lo2, la2, pa, pq, paq, ff]
    refine ⟨n - 1, by omega, i + 1, M + 6, .slice (some ⟨M + 5, 0, none⟩) 2 2, by omega, rfl, ?_⟩
    simp only [ff, true_and, and_true]
    refine ⟨?_, fun q hq => ?_, by omega⟩
    · rw [eo]
      rw [hnil]
      refine .inr ⟨by simp, M + 5, false, by omega, by omega, rfl, ?_⟩
      simp only [↓R0, R1, simprocAttr, -Int.reduceAbs, M0, M1, Q0, Q1, R0x, R4x, R1x]
      rfl
    · have nb : ∀ j, (M + j = q) = False := fun j => eq_false (by omega)
      have nc : ∀ j, (N + j = q) = False := fun j => eq_false (by omega)
      simp only [↓R0, R1, simprocAttr, -Int.reduceAbs, nb, nc]
      exact hh q hq
  · subst hsl
    have kM : ∀ j, (kk = M + j) = False := fun j => eq_false (by omega)
    have Mkk : ∀ j, (M + j = kk) = False := fun j => eq_false (by omega)
    have kk_k : (kk = k) = False := eq_false (by omega)
    have kold : ∀ q, q < N → (kk = q) = False := fun q hq => eq_false (by omega)
    have kkp : (kk = kp) = False := eq_false (by omega)
    have kks : (kk = ks) = False := eq_false (by omega)
    have kkb : (kk = kb) = False := eq_false (by omega)
    have kkq : (kk = kq) = False := eq_false (by omega)
    have k0n : (kk = N + 0) = False := eq_false (by omega)
    have Nk0 : (N + 0 = kk) = False := eq_false (by omega)
    have k1n : (kk = N + 1) = False := eq_false (by omega)
    have Nk1 : (N + 1 = kk) = False := eq_false (by omega)
    by_cases hF : anyP c l here i
    case neg =>
      rw [decide_eq_false hF] at tF
      by_cases hA : s = -here
      case pos =>
        have hA' : (s = -here) = True := eq_true hA
        have hE : ¬ s = here := by omega
        have hE' : (s = here) = False := eq_false hE
        by_cases hB : s * t < 0
        case neg =>
          have hB' : (s * t < 0) = False := eq_false hB
          have ff : decide (anyP c l here (i + 1)) = false := decide_eq_false (fun e => (fs.1 e).elim hF hE)
          have eo : prtL c l here (i + 1) = out := by rw [ep, if_neg (fun e => e hA), if_neg hB]; simp
          simp only [↓R0, R1, simprocAttr, -Int.reduceAbs, ← ez, tA, tB, tC', t0x, t1x, t2x, t3x, t5x, t6x, tF, b0, b1, M0, M1, Q0, Q1, R0x, R4x, R1x, c1, c1', hbv, Mk, Nk, q1, q2, hi1, hi1', r1, r2, w1, z1, z2, m1, l9, c9, t9, g9, lC, tC, en, si, sj, aA, oA, tkA, stA, aB, oB, tkB, stB, wn, ws, plen, ptk, psl, pset, pok, Bool.not_false, Bool.not_true, hbp', hbs', hbb', hbq', Mp, Ms, Mb, Mq, Np, Ns, Nb, Nq, hE', hA', hB', hkk, kM, kk_k, kkp, kks, kkb, kkq, k0n, k1n, Nk0, Nk1, Mkk, lo, ovf1, ovf2, nle1, nle2, lo2, la2, pa, pq, paq, ff]
          refine ⟨n - 1, by omega, i + 1, M + 1, .slice (some ⟨kk, 0, none⟩) out.length out.length, by omega, rfl, ?_⟩
          simp only [ff, true_and, and_true]
          refine ⟨?_, fun q hq => ?_, by omega⟩
          · rw [eo]
            refine .inr ⟨hne, kk, x, by omega, by omega, rfl, ?_⟩
            simp only [↓R0, R1, simprocAttr, -Int.reduceAbs, Mkk, hkk]
          · have nb : ∀ j, (M + j = q) = False := fun j => eq_false (by omega)
            have nc : ∀ j, (N + j = q) = False := fun j => eq_false (by omega)
            have nd := kold q hq
            simp only [↓R0, R1, simprocAttr, -Int.reduceAbs, nb, nc, nd]
            exact hh q hq
        have hB' : (s * t < 0) = True := eq_true hB
        have xl' := xl hB
        have ff : decide (anyP c l here (i + 1)) = false := decide_eq_false (fun e => (fs.1 e).elim hF hE)
        have eo : prtL c l here (i + 1) = out ++ [Q] := by rw [ep, if_neg (fun e => e hA), if_pos hB]; simp
        simp only [↓R0, R1, simprocAttr, -Int.reduceAbs, ← ez, tA, tB, tC', t0x, t1x, t2x, t3x, t5x, t6x, tF, b0, b1, M0, M1, Q0, Q1, R0x, R4x, R1x, c1, c1', hbv, Mk, Nk, q1, q2, hi1, hi1', r1, r2, w1, z1, z2, m1, l9, c9, t9, g9, lC, tC, en, si, sj, aA, oA, tkA, stA, aB, oB, tkB, stB, wn, ws, plen, ptk, psl, pset, pok, Bool.not_false, Bool.not_true, hbp', hbs', hbb', hbq', Mp, Ms, Mb, Mq, Np, Ns, Nb, Nq, hE', hA', hB', xl', aQ, oQ, tkQ, stQ, hkk, kM, kk_k, kkp, kks, kkb, kkq, k0n, k1n, Nk0, Nk1, Mkk, lo, ovf1, ovf2, nle1, nle2, lo2, la2, pa, pq, paq, ff]
        refine ⟨n - 1, by omega, i + 1, M + 4, .slice (some ⟨M + 3, 0, none⟩) (out.length + 1) (out.length + 1), by omega, rfl, ?_⟩
        simp only [ff, true_and, and_true]
        refine ⟨?_, fun q hq => ?_, by omega⟩
        · rw [eo]
          refine .inr ⟨by simp, M + 3, false, by omega, by omega, by simp, ?_⟩
          simp only [↓R0, R1, simprocAttr, -Int.reduceAbs, M0, M1, Q0, Q1, R0x, R4x, R1x, kM, Mkk, kk_k]
        · have nb : ∀ j, (M + j = q) = False := fun j => eq_false (by omega)
          have nc : ∀ j, (N + j = q) = False := fun j => eq_false (by omega)
          have nd := kold q hq
          simp only [↓R0, R1, simprocAttr, -Int.reduceAbs, nb, nc, nd]
          exact hh q hq
      have hA' : (s = -here) = False := eq_false hA
      by_cases hE : s = here
      case pos =>
        have hE' : (s = here) = True := eq_true hE
        by_cases hB : s * t < 0
        case neg =>
          have hB' : (s * t < 0) = False := eq_false hB
          have ff : decide (anyP c l here (i + 1)) = true := decide_eq_true (fs.2 (.inr hE))
          have eo : prtL c l here (i + 1) = out ++ [A] := by rw [ep, if_pos hA, if_neg hB]; simp
          simp only [↓R0, R1, simprocAttr, -Int.reduceAbs, ← ez, tA, tB, tC', t0x, t1x, t2x, t3x, t5x, t6x, tF, b0, b1, M0, M1, Q0, Q1, R0x, R4x, R1x, c1, c1', hbv, Mk, Nk, q1, q2, hi1, hi1', r1, r2, w1, z1, z2, m1, l9, c9, t9, g9, lC, tC, en, si, sj, aA, oA, tkA, stA, aB, oB, tkB, stB, wn, ws, plen, ptk, psl, pset, pok, Bool.not_false, Bool.not_true, hbp', hbs', hbb', hbq', Mp, Ms, Mb, Mq, Np, Ns, Nb, Nq, hE', hA', hB', hkk, kM, kk_k, kkp, kks, kkb, kkq, k0n, k1n, Nk0, Nk1, Mkk, lo, ovf1, ovf2, nle1, nle2, lo2, la2, pa, pq, paq, ff]
          refine ⟨n - 1, by omega, i + 1, M + 3, .slice (some ⟨M + 2, 0, none⟩) (out.length + 1) (out.length + 1), by omega, rfl, ?_⟩
          simp only [ff, true_and, and_true]
          refine ⟨?_, fun q hq => ?_, by omega⟩
          · rw [eo]
            refine .inr ⟨by simp, M + 2, false, by omega, by omega, by simp, ?_⟩
            simp only [↓R0, R1, simprocAttr, -Int.reduceAbs, M0, M1, Q0, Q1, R0x, R4x, R1x, kM, Mkk, kk_k]
          · have nb : ∀ j, (M + j = q) = False := fun j => eq_false (by omega)
            have nc : ∀ j, (N + j = q) = False := fun j => eq_false (by omega)
            have nd := kold q hq
            simp only [↓R0, R1, simprocAttr, -Int.reduceAbs, nb, nc, nd]
            exact hh q hq
        have hB' : (s * t < 0) = True := eq_true hB
        have xl' := xl hB
        have ff : decide (anyP c l here (i + 1)) = true := decide_eq_true (fs.2 (.inr hE))
        have eo : prtL c l here (i + 1) = (out ++ [A]) ++ [Q] := by rw [ep, if_pos hA, if_pos hB]; simp
        simp only [↓R0, R1, simprocAttr, -Int.reduceAbs, ← ez, tA, tB, tC', t0x, t1x, t2x, t3x, t5x, t6x, tF, b0, b1, M0, M1, Q0, Q1, R0x, R4x, R1x, c1, c1', hbv, Mk, Nk, q1, q2, hi1, hi1', r1, r2, w1, z1, z2, m1, l9, c9, t9, g9, lC, tC, en, si, sj, aA, oA, tkA, stA, aB, oB, tkB, stB, wn, ws, plen, ptk, psl, pset, pok, Bool.not_false, Bool.not_true, hbp', hbs', hbb', hbq', Mp, Ms, Mb, Mq, Np, Ns, Nb, Nq, hE', hA', hB', xl', aQ, oQ, tkQ, stQ, hkk, kM, kk_k, kkp, kks, kkb, kkq, k0n, k1n, Nk0, Nk1, Mkk, lo, ovf1, ovf2, nle1, nle2, lo2, la2, pa, pq, paq, ff]
        refine ⟨n - 1, by omega, i + 1, M + 6, .slice (some ⟨M + 5, 0, none⟩) (out.length + 1 + 1) (out.length + 1 + 1), by omega, rfl, ?_⟩
        simp only [ff, true_and, and_true]
        refine ⟨?_, fun q hq => ?_, by omega⟩
        · rw [eo]
          refine .inr ⟨by simp, M + 5, false, by omega, by omega, by simp, ?_⟩
          simp only [↓R0, R1, simprocAttr, -Int.reduceAbs, M0, M1, Q0, Q1, R0x, R4x, R1x, kM, Mkk, kk_k]
        · have nb : ∀ j, (M + j = q) = False := fun j => eq_false (by omega)
          have nc : ∀ j, (N + j = q) = False := fun j => eq_false (by omega)
          have nd := kold q hq
          simp only [↓R0, R1, simprocAttr, -Int.reduceAbs, nb, nc, nd]
          exact hh q hq
      have hE' : (s = here) = False := eq_false hE
      by_cases hB : s * t < 0
      case neg =>
        have hB' : (s * t < 0) = False := eq_false hB
        have ff : decide (anyP c l here (i + 1)) = false := decide_eq_false (fun e => (fs.1 e).elim hF hE)
        have eo : prtL c l here (i + 1) = out ++ [A] := by rw [ep, if_pos hA, if_neg hB]; simp
        simp only [↓R0, R1, simprocAttr, -Int.reduceAbs, ← ez, tA, tB, tC', t0x, t1x, t2x, t3x, t5x, t6x, tF, b0, b1, M0, M1, Q0, Q1, R0x, R4x, R1x, c1, c1', hbv, Mk, Nk, q1, q2, hi1, hi1', r1, r2, w1, z1, z2, m1, l9, c9, t9, g9, lC, tC, en, si, sj, aA, oA, tkA, stA, aB, oB, tkB, stB, wn, ws, plen, ptk, psl, pset, pok, Bool.not_false, Bool.not_true, hbp', hbs', hbb', hbq', Mp, Ms, Mb, Mq, Np, Ns, Nb, Nq, hE', hA', hB', hkk, kM, kk_k, kkp, kks, kkb, kkq, k0n, k1n, Nk0, Nk1, Mkk, lo, ovf1, ovf2, nle1, nle2, lo2, la2, pa, pq, paq, ff]
        refine ⟨n - 1, by omega, i + 1, M + 3, .slice (some ⟨M + 2, 0, none⟩) (out.length + 1) (out.length + 1), by omega, rfl, ?_⟩
        simp only [ff, true_and, and_true]
        refine ⟨?_, fun q hq => ?_, by omega⟩
        · rw [eo]
          refine .inr ⟨by simp, M + 2, false, by omega, by omega, by simp, ?_⟩
          simp only [↓R0, R1, simprocAttr, -Int.reduceAbs, M0, M1, Q0, Q1, R0x, R4x, R1x, kM, Mkk, kk_k]
        · have nb : ∀ j, (M + j = q) = False := fun j => eq_false (by omega)
          have nc : ∀ j, (N + j = q) = False := fun j => eq_false (by omega)
          have nd := kold q hq
          simp only [↓R0, R1, simprocAttr, -Int.reduceAbs, nb, nc, nd]
          exact hh q hq
      have hB' : (s * t < 0) = True := eq_true hB
      have xl' := xl hB
      have ff : decide (anyP c l here (i + 1)) = false := decide_eq_false (fun e => (fs.1 e).elim hF hE)
      have eo : prtL c l here (i + 1) = (out ++ [A]) ++ [Q] := by rw [ep, if_pos hA, if_pos hB]; simp
      simp only [↓R0, R1, simprocAttr, -Int.reduceAbs, ← ez, tA, tB, tC', t0x, t1x, t2x, t3x, t5x, t6x, tF, b0, b1, M0, M1, Q0, Q1, R0x, R4x, R1x, c1, c1', hbv, Mk, Nk, q1, q2, hi1, hi1', r1, r2, w1, z1, z2, m1, l9, c9, t9, g9, lC, tC, en, si, sj, aA, oA, tkA, stA, aB, oB, tkB, stB, wn, ws, plen, ptk, psl, pset, pok, Bool.not_false, Bool.not_true, hbp', hbs', hbb', hbq', Mp, Ms, Mb, Mq, Np, Ns, Nb, Nq, hE', hA', hB', xl', aQ, oQ, tkQ, stQ, hkk, kM, kk_k, kkp, kks, kkb, kkq, k0n, k1n, Nk0, Nk1, Mkk, lo, ovf1, ovf2, nle1, nle2, lo2, la2, pa, pq, paq, ff]
      refine ⟨n - 1, by omega, i + 1, M + 6, .slice (some ⟨M + 5, 0, none⟩) (out.length + 1 + 1) (out.length + 1 + 1), by omega, rfl, ?_⟩
      simp only [ff, true_and, and_true]
      refine ⟨?_, fun q hq => ?_, by omega⟩
      · rw [eo]
        refine .inr ⟨by simp, M + 5, false, by omega, by omega, by simp, ?_⟩
        simp only [↓R0, R1, simprocAttr, -Int.reduceAbs, M0, M1, Q0, Q1, R0x, R4x, R1x, kM, Mkk, kk_k]
      · have nb : ∀ j, (M + j = q) = False := fun j => eq_false (by omega)
        have nc : ∀ j, (N + j = q) = False := fun j => eq_false (by omega)
        have nd := kold q hq
        simp only [↓R0, R1, simprocAttr, -Int.reduceAbs, nb, nc, nd]
        exact hh q hq
    rw [decide_eq_true hF] at tF
    by_cases hA : s = -here
    case pos =>
      have hA' : (s = -here) = True := eq_true hA
      have hE : ¬ s = here := by omega
      have hE' : (s = here) = False := eq_false hE
      by_cases hB : s * t < 0
      case neg =>
        have hB' : (s * t < 0) = False := eq_false hB
        have ff : decide (anyP c l here (i + 1)) = true := decide_eq_true (fs.2 (.inl hF))
        have eo : prtL c l here (i + 1) = out := by rw [ep, if_neg (fun e => e hA), if_neg hB]; simp
        simp only [↓R0, R1, simprocAttr, -Int.reduceAbs, ← ez, tA, tB, tC', t0x, t1x, t2x, t3x, t5x, t6x, tF, b0, b1, M0, M1, Q0, Q1, R0x, R4x, R1x, c1, c1', hbv, Mk, Nk, q1, q2, hi1, hi1', r1, r2, w1, z1, z2, m1, l9, c9, t9, g9, lC, tC, en, si, sj, aA, oA, tkA, stA, aB, oB, tkB, stB, wn, ws, plen, ptk, psl, pset, pok, Bool.not_false, Bool.not_true, hbp', hbs', hbb', hbq', Mp, Ms, Mb, Mq, Np, Ns, Nb, Nq, hA', hB', hkk, kM, kk_k, kkp, kks, kkb, kkq, k0n, k1n, Nk0, Nk1, Mkk, lo, ovf1, ovf2, nle1, nle2, lo2, la2, pa, pq, paq, ff]
        refine ⟨n - 1, by omega, i + 1, M + 1, .slice (some ⟨kk, 0, none⟩) out.length out.length, by omega, rfl, ?_⟩
        simp only [ff, true_and, and_true]
        refine ⟨?_, fun q hq => ?_, by omega⟩
        · rw [eo]
          refine .inr ⟨hne, kk, x, by omega, by omega, rfl, ?_⟩
          simp only [↓R0, R1, simprocAttr, -Int.reduceAbs, Mkk, hkk]
        · have nb : ∀ j, (M + j = q) = False := fun j => eq_false (by omega)
          have nc : ∀ j, (N + j = q) = False := fun j => eq_false (by omega)
          have nd := kold q hq
          simp only [↓R0, R1, simprocAttr, -Int.reduceAbs, nb, nc, nd]
          exact hh q hq
      have hB' : (s * t < 0) = True := eq_true hB
      have xl' := xl hB
      have ff : decide (anyP c l here (i + 1)) = true := decide_eq_true (fs.2 (.inl hF))
      have eo : prtL c l here (i + 1) = out ++ [Q] := by rw [ep, if_neg (fun e => e hA), if_pos hB]; simp
      simp only [↓R0, R1, simprocAttr, -Int.reduceAbs, ← ez, tA, tB, tC', t0x, t1x, t2x, t3x, t5x, t6x, tF, b0, b1, M0, M1, Q0, Q1, R0x, R4x, R1x, c1, c1', hbv, Mk, Nk, q1, q2, hi1, hi1', r1, r2, w1, z1, z2, m1, l9, c9, t9, g9, lC, tC, en, si, sj, aA, oA, tkA, stA, aB, oB, tkB, stB, wn, ws, plen, ptk, psl, pset, pok, Bool.not_false, Bool.not_true, hbp', hbs', hbb', hbq', Mp, Ms, Mb, Mq, Np, Ns, Nb, Nq, hA', hB', xl', aQ, oQ, tkQ, stQ, hkk, kM, kk_k, kkp, kks, kkb, kkq, k0n, k1n, Nk0, Nk1, Mkk, lo, ovf1, ovf2, nle1, nle2, lo2, la2, pa, pq, paq, ff]
      refine ⟨n - 1, by omega, i + 1, M + 4, .slice (some ⟨M + 3, 0, none⟩) (out.length + 1) (out.length + 1), by omega, rfl, ?_⟩
      simp only [ff, true_and, and_true]
      refine ⟨?_, fun q hq => ?_, by omega⟩
      · rw [eo]
        refine .inr ⟨by simp, M + 3, false, by omega, by omega, by simp, ?_⟩
        simp only [↓R0, R1, simprocAttr, -Int.reduceAbs, M0, M1, Q0, Q1, R0x, R4x, R1x, kM, Mkk, kk_k]
      · have nb : ∀ j, (M + j = q) = False := fun j => eq_false (by omega)
        have nc : ∀ j, (N + j = q) = False := fun j => eq_false (by omega)
        have nd := kold q hq
        simp only [↓R0, R1, simprocAttr, -Int.reduceAbs, nb, nc, nd]
        exact hh q hq
    have hA' : (s = -here) = False := eq_false hA
    by_cases hB : s * t < 0
    case neg =>
      have hB' : (s * t < 0) = False := eq_false hB
      have ff : decide (anyP c l here (i + 1)) = true := decide_eq_true (fs.2 (.inl hF))
      have eo : prtL c l here (i + 1) = out ++ [A] := by rw [ep, if_pos hA, if_neg hB]; simp
      simp only [↓R0, R1, simprocAttr, -Int.reduceAbs, ← ez, tA, tB, tC', t0x, t1x, t2x, t3x, t5x, t6x, tF, b0, b1, M0, M1, Q0, Q1, R0x, R4x, R1x, c1, c1', hbv, Mk, Nk, q1, q2, hi1, hi1', r1, r2, w1, z1, z2, m1, l9, c9, t9, g9, lC, tC, en, si, sj, aA, oA, tkA, stA, aB, oB, tkB, stB, wn, ws, plen, ptk, psl, pset, pok, Bool.not_false, Bool.not_true, hbp', hbs', hbb', hbq', Mp, Ms, Mb, Mq, Np, Ns, Nb, Nq, hA', hB', hkk, kM, kk_k, kkp, kks, kkb, kkq, k0n, k1n, Nk0, Nk1, Mkk, lo, ovf1, ovf2, nle1, nle2, lo2, la2, pa, pq, paq, ff]
      refine ⟨n - 1, by omega, i + 1, M + 3, .slice (some ⟨M + 2, 0, none⟩) (out.length + 1) (out.length + 1), by omega, rfl, ?_⟩
      simp only [ff, true_and, and_true]
      refine ⟨?_, fun q hq => ?_, by omega⟩
      · rw [eo]
        refine .inr ⟨by simp, M + 2, false, by omega, by omega, by simp, ?_⟩
        simp only [↓R0, R1, simprocAttr, -Int.reduceAbs, M0, M1, Q0, Q1, R0x, R4x, R1x, kM, Mkk, kk_k]
      · have nb : ∀ j, (M + j = q) = False := fun j => eq_false (by omega)
        have nc : ∀ j, (N + j = q) = False := fun j => eq_false (by omega)
        have nd := kold q hq
        simp only [↓R0, R1, simprocAttr, -Int.reduceAbs, nb, nc, nd]
        exact hh q hq
    have hB' : (s * t < 0) = True := eq_true hB
    have xl' := xl hB
    have ff : decide (anyP c l here (i + 1)) = true := decide_eq_true (fs.2 (.inl hF))
    have eo : prtL c l here (i + 1) = (out ++ [A]) ++ [Q] := by rw [ep, if_pos hA, if_pos hB]; simp
    simp only [↓R0, R1, simprocAttr, -Int.reduceAbs, ← ez, tA, tB, tC', t0x, t1x, t2x, t3x, t5x, t6x, tF, b0, b1, M0, M1, Q0, Q1, R0x, R4x, R1x, c1, c1', hbv, Mk, Nk, q1, q2, hi1, hi1', r1, r2, w1, z1, z2, m1, l9, c9, t9, g9, lC, tC, en, si, sj, aA, oA, tkA, stA, aB, oB, tkB, stB, wn, ws, plen, ptk, psl, pset, pok, Bool.not_false, Bool.not_true, hbp', hbs', hbb', hbq', Mp, Ms, Mb, Mq, Np, Ns, Nb, Nq, hA', hB', xl', aQ, oQ, tkQ, stQ, hkk, kM, kk_k, kkp, kks, kkb, kkq, k0n, k1n, Nk0, Nk1, Mkk, lo, ovf1, ovf2, nle1, nle2, lo2, la2, pa, pq, paq, ff]
    refine ⟨n - 1, by omega, i + 1, M + 6, .slice (some ⟨M + 5, 0, none⟩) (out.length + 1 + 1) (out.length + 1 + 1), by omega, rfl, ?_⟩
    simp only [ff, true_and, and_true]
    refine ⟨?_, fun q hq => ?_, by omega⟩
    · rw [eo]
      refine .inr ⟨by simp, M + 5, false, by omega, by omega, by simp, ?_⟩
      simp only [↓R0, R1, simprocAttr, -Int.reduceAbs, M0, M1, Q0, Q1, R0x, R4x, R1x, kM, Mkk, kk_k]
    · have nb : ∀ j, (M + j = q) = False := fun j => eq_false (by omega)
      have nc : ∀ j, (N + j = q) = False := fun j => eq_false (by omega)
      have nd := kold q hq
      simp only [↓R0, R1, simprocAttr, -Int.reduceAbs, nb, nc, nd]
      exact hh q hq
end Go.Eng
end
section
set_option linter.unusedVariables false
set_option linter.unusedSimpArgs false
set_option linter.unusedSectionVars false
set_option maxRecDepth 20000
namespace Go.Eng
open Go Go.Proofs Go.IntWalk
structure SplitOK (P c : Pt) (l : List Pt) : Prop where
  sz : polySz 1000 P l
  cs : c.sz 1000
  w : ∀ p ∈ l, 0 < p.w
instance {P c : Pt} {l : List Pt} : Decidable (SplitOK P c l) :=
  decidable_of_iff (polySz 1000 P l ∧ c.sz 1000 ∧ ∀ p ∈ l, 0 < p.w) ⟨fun ⟨b, c, d⟩ => ⟨b, c, d⟩, fun ⟨b, c, d⟩ => ⟨b, c, d⟩⟩
theorem SplitOK.part {P c : Pt} {l : List Pt} (h : SplitOK P c l) {here : Int} (hr : here = 1 ∨ here = -1) : PartOK P c l here := ⟨hr, h.sz, h.cs, h.w⟩
def prt (c : Pt) (l : List Pt) (here : Int) : List Pt := prtL c l here l.length
def pSl (k : Nat) (n : Nat) : Value := .slice (some ⟨k, 0, none⟩) n n
def splitNL (P c : Pt) (l : List Pt) : NewL :=
  if anyP c l (-1) l.length then
    (if anyP c l 1 l.length then ⟨2, fun σ => .tuple ⟨[.agg ⟨pc9 P (pSl (σ 0) (prt c l (-1)).length)⟩, .agg ⟨pc9 P (pSl (σ 1) (prt c l 1).length)⟩]⟩, fun _ => 41, fun _ => 8, fun _ i => if i = 0 then ptsC (prt c l (-1)) else ptsC (prt c l 1)⟩
    else ⟨1, fun σ => .tuple ⟨[.agg ⟨pc9 P (pSl (σ 0) (prt c l (-1)).length)⟩, .agg ⟨z9⟩]⟩, fun _ => 41, fun _ => 8, fun _ _ => ptsC (prt c l (-1))⟩)
  else
    (if anyP c l 1 l.length then ⟨1, fun σ => .tuple ⟨[.agg ⟨z9⟩, .agg ⟨pc9 P (pSl (σ 0) (prt c l 1).length)⟩]⟩, fun _ => 41, fun _ => 8, fun _ _ => ptsC (prt c l 1)⟩
    else ⟨0, fun _ => .tuple ⟨[.agg ⟨z9⟩, .agg ⟨z9⟩]⟩, fun _ => 0, fun _ => 0, fun _ _ => []⟩)
theorem vr_pc9 {β : Emb} {P : Pt} {k k' n : Nat} (h : β k = some ⟨k', 0, []⟩) : VR β (.agg ⟨pc9 P (pSl k n)⟩) (.agg ⟨pc9 P (pSl k' n)⟩) :=
  .agg _ _ (VRs.append (VRs.of_base P.base8) (.cons _ _ _ _ (VR.sl k 0 _ _ ⟨k', 0, []⟩ h) .nil))
theorem splitNL_par (P c : Pt) (l : List Pt) (h : Heap) : (splitNL P c l).Par h := by
  have z : ∀ β : Emb, VR β (.agg ⟨z9⟩) (.agg ⟨z9⟩) := fun β => .agg _ _ (VRs.of_base rfl)
  unfold splitNL
  split
  · split
    · exact ⟨fun β σ σ' b1 _ => .tup _ _ (.cons _ _ _ _ (vr_pc9 (b1 0 (show 0 < 2 by omega))) (.cons _ _ _ _ (vr_pc9 (b1 1 (show 1 < 2 by omega))) .nil)), fun β σ σ' b1 _ i hi => by
        simp only; split <;> exact VRs.of_base (ptsC_base _)⟩
    · exact ⟨fun β σ σ' b1 _ => .tup _ _ (.cons _ _ _ _ (vr_pc9 (b1 0 (show 0 < 1 by omega))) (.cons _ _ _ _ (z β) .nil)), fun β σ σ' b1 _ i hi => VRs.of_base (ptsC_base _)⟩
  · split
    · exact ⟨fun β σ σ' b1 _ => .tup _ _ (.cons _ _ _ _ (z β) (.cons _ _ _ _ (vr_pc9 (b1 0 (show 0 < 1 by omega))) .nil)), fun β σ σ' b1 _ i hi => VRs.of_base (ptsC_base _)⟩
    · exact ⟨fun β σ σ' _ _ => .tup _ _ (.cons _ _ _ _ (z β) (.cons _ _ _ _ (z β) .nil)), fun β σ σ' _ _ i hi => absurd (show i < 0 from hi) (by omega)⟩
theorem newH0 (v e s c) (σ : Nat → Nat) : newH ⟨0, v, e, s, c⟩ σ 0 = [] := rfl
theorem newH1 (v e s c) (σ : Nat → Nat) : newH ⟨1, v, e, s, c⟩ σ 1 = [(σ 0, some ⟨e 0, s 0, false, c σ 0⟩)] := rfl
theorem newH2 (v e s c) (σ : Nat → Nat) : newH ⟨2, v, e, s, c⟩ σ 2 = [(σ 1, some ⟨e 1, s 1, false, c σ 1⟩), (σ 0, some ⟨e 0, s 0, false, c σ 0⟩)] := rfl
def spR8split : List Value → Heap → Option NewL
  | [.agg ⟨cs⟩, .agg ⟨cb⟩], h => match decPoly h cs, decP cb with
    | some (P, l), some c => if SplitOK P c l then some (splitNL P c l) else none
    | _, _ => none
  | _, _ => none
end Go.Eng
end
section
set_option linter.unusedVariables false
set_option linter.unusedSimpArgs false
set_option linter.unusedSectionVars false
set_option maxRecDepth 20000
namespace Go.Eng
open Go Go.Proofs Go.IntWalk
def sC (c : Pt) (l : List Pt) (i : Nat) : List Value := (List.range l.length).map fun j => .int .i64 (if j < i then sgp c (ptAt l j) else 0)
theorem sC_len (c : Pt) (l : List Pt) (i : Nat) : (sC c l i).length = l.length := by unfold sC; simp
theorem sC_zero (c : Pt) (l : List Pt) : (List.replicate l.length ([.int .i64 0] : List Value)).flatten = sC c l 0 := by
  refine List.ext_getElem? fun j => ?_
  have e : (List.replicate l.length ([.int .i64 0] : List Value)).flatten = List.replicate l.length (.int .i64 0) := by
    induction l.length with
    | zero => rfl
    | succ n ih => rw [List.replicate_succ, List.flatten_cons, ih, List.replicate_succ]; rfl
  rw [e]
  unfold sC
  by_cases h : j < l.length
  · rw [List.getElem?_replicate, if_pos h, List.getElem?_map, List.getElem?_range h]; rfl
  · rw [List.getElem?_replicate, if_neg h, List.getElem?_eq_none (by simp; omega)]
theorem sC_set (c : Pt) (l : List Pt) (i : Nat) (h : i < l.length) : setR (sC c l i) i [.int .i64 (sgp c (ptAt l i))] = sC c l (i + 1) := by
  show (sC c l i).set i _ = _
  refine List.ext_getElem? fun j => ?_
  rw [List.getElem?_set]
  by_cases e : i = j
  · subst e
    rw [if_pos rfl, if_pos (by rw [sC_len]; exact h)]
    unfold sC
    rw [List.getElem?_map, List.getElem?_range h]
    simp
  · rw [if_neg e]
    unfold sC
    by_cases hj : j < l.length
    · rw [List.getElem?_map, List.getElem?_map, List.getElem?_range hj]
      simp only [Option.map_some]
      have : (j < i + 1) = (j < i) := propext ⟨fun h => by omega, fun h => by omega⟩
      simp only [this]
    · rw [List.getElem?_eq_none (by simp; omega), List.getElem?_eq_none (by simp; omega)]
theorem sC_get (c : Pt) (l : List Pt) (i : Nat) (h : i < l.length) : (sC c l l.length)[i]? = some (.int .i64 (sgp c (ptAt l i))) := by
  unfold sC
  rw [List.getElem?_map, List.getElem?_range h]
  simp [h]
def c15 : ICode :=
  (.seq (.reg [qq 2 (.box 28 9 (.t 0)), qq 3 (.box 25 8 (.t 1)), qq 4 (.alloc 28 9 [(.bool false), e0, (.bool false), e0, (.bool false), e0, (.bool false), e0, (.slice none 0 0)]), qq 5 (.alloc 28 9 [(.bool false), e0, (.bool false), e0, (.bool false), e0, (.bool false), e0, (.slice none 0 0)])]) (.seq (.reg [qq 10 (.faddr 8 (.t 2)), qq 11 (.load false 1 (.t 10)), qq 12 (.lensl (.t 11)), qq 13 (.mkslice 3 1 8 [(.int .i64 0)] (.t 12) (.t 12)), qq 6 (.alloc 66 1 [(.slice none 0 0)]), qn (.store 1 (.t 6) (.t 13))]) (.seq (.seq (.reg [qq 14 (.faddr 8 (.t 2)), qq 15 (.load false 1 (.t 14)), qq 16 (.lensl (.t 15)), qq 17 (.mv (ci 0))]) (.block 0 (.loop (.seq (.reg [qq 18 (.bin .lss (.t 17) (.t 16))]) (.seq (.cond (.t 18) .skip (.exit 0)) (.seq (.block 1 (.seq (.reg [qq 19 (.mv (.t 17)), qq 20 (.ixsl 8 (.t 15) (.t 17)), qq 21 (.load true 8 (.t 20)), qq 8 (.alloc 41 8 [(.bool false), e0, (.bool false), e0, (.bool false), e0, (.bool false), e0]), qq 7 (.mv (.t 19)), qn (.store 8 (.t 8) (.t 21))]) (.dreg [qu 22 (.load false 1 (.t 6)), qu 23 (.mv (.t 7)), qu 24 (.load true 8 (.t 3)), qu 25 (.load true 8 (.t 8)), qu 26 (.call 20 [(.t 24), (.t 25)]), qu 27 (.ixsl 1 (.t 22) (.t 23)), qm (.store 1 (.t 27) (.t 26))]))) (.reg [qq 28 (.bin .add (.t 17) (ci 1)), qq 17 (.mv (.t 28))]))))))) (.seq (.reg [qq 29 (.mkfn 42 [(.t 2), (.t 6), (.t 3)]), qq 9 (.mv (.t 29))]) (.seq (.reg [qq 30 (.mv (.t 9)), qq 31 (.callv (.t 30) [(ci (-1))]), qq 32 (.mv (.t 9)), qq 33 (.callv (.t 32) [(ci 1)]), qn (.store 9 (.t 4) (.t 31)), qn (.store 9 (.t 5) (.t 33))]) .ret)))))
theorem tr15 : trFun Tryz.prog 15 = some ⟨34, [.cell 4 true 9, .cell 5 true 9], c15⟩ := by kernel_rfl
set_option maxHeartbeats 8000000 in
theorem ok_Psplit : SpecOK Tryz.prog 15 (nwL spR8split) := by
  refine newL_run (env_cons ok_lnSide (env_cons ok_Part1 (env_nil _))) mixed tr15 ?_ ?_
  · intro args h h' v hle e
    unfold spR8split at e ⊢
    split at e
    · rename_i cs cb
      split at e
      · rename_i P l c hb hc
        simp only [decPoly_mono hle hb, hc]; exact e
      · cases e
    · cases e
  intro args h N v hG hN
  unfold spR8split at hG
  split at hG
  case h_2 => cases hG
  rename_i cs cb
  split at hG
  case h_2 => cases hG
  rename_i P l c hx hc
  split at hG
  case isFalse => cases hG
  rename_i hs
  cases hG
  obtain ⟨sl, rfl, hx'⟩ := decPoly_eq hx
  clear hx
  rename listAt 8 decP h sl = some l => hx
  obtain ⟨a, cc, rfl⟩ := listAt_sl hx
  have ec := decP_eq hc
  subst ec
  refine ⟨splitNL_par _ _ _ _, by simp, ?_⟩
  have hn3 := hs.sz.2.2
  have c9 := pc9_s P (.slice a l.length cc)
  have l9 := pc9_len P (.slice a l.length cc)
  have t9 := pc9_tk P (.slice a l.length cc)
  have f : ∀ hp here, (here = 1 ∨ here = -1) → (∀ k, k < N → hget hp k = hget h k) → hget hp (N + 0) = some ⟨28, 9, true, pc9 P (.slice a l.length cc)⟩ → hget hp (N + 1) = some ⟨25, 8, true, c.cells⟩ →
      hget hp (N + 5) = some ⟨66, 1, true, [.slice (some ⟨N + 4, 0, none⟩) l.length l.length]⟩ → (∃ x, hget hp (N + 4) = some ⟨3, 1, x, sC c l l.length⟩) →
      spPart1 [.int .i64 here, .pointer (some ⟨N + 0, 0, none⟩), .pointer (some ⟨N + 5, 0, none⟩), .pointer (some ⟨N + 1, 0, none⟩)] hp = some (partNL P c l here) := by
    intro hp here hr hh h0 h1 h5 ⟨x, h4⟩
    have hl : hle h hp := fun k b e => by rw [hh k (hN _ _ e)]; exact e
    unfold spPart1
    simp only [h0, h1, h5, h4, decPoly_mono hl (decPoly_of hx), decP_cells]
    exact if_pos ⟨hs.part hr, trivial, fun i hi => by rw [sC_get c l i hi]; rfl⟩
  generalize pc9 P (.slice a l.length cc) = C9 at *
  have lC := c.len8
  have tC := c.tk8
  have ez : z9 = [.bool false, .string ⟨⟨[]⟩⟩, .bool false, .string ⟨⟨[]⟩⟩, .bool false, .string ⟨⟨[]⟩⟩, .bool false, .string ⟨⟨[]⟩⟩, .slice none 0 0] := rfl
  have pst := pc9_st P
  have plen := pc9_len P
  have pok := pc9_ok P
  have zlen := z9_len
  have zok := z9_ok
  have zst := z9_st
  have nb : ∀ k, k < N → ∀ j, (N + j = k) = False := fun k hk j => eq_false (by omega)
  have mk1 : 8 * (l.length : Int) ≤ 281474976710656 := by omega
  have mk2 : (l.length : Int) ≤ 9223372036854775807 := by omega
  have mk3 : (0 : Int) ≤ (l.length : Int) := by omega
  have mk4 : (l.length : Int) ≤ (l.length : Int) := Int.le_refl _
  have mkz := sC_zero c l
  simp only [c15, G0, Nat.reduceAdd]
  simp only [↓R0, R1, simprocAttr, -Int.reduceAbs, ← ez, l9, t9, c9, lC, tC, zlen, zok, zst, mk1, mk2, mk3, mk4, mkz]
  refine lp_parts (fun n tm hp nx => ∃ (i M : Nat), n + i = l.length ∧ tmget tm 15 = .slice a l.length cc ∧ tmget tm 16 = .int .i64 l.length ∧ tmget tm 17 = .int .i64 i ∧ tmget tm 2 = .pointer (some ⟨N + 0, 0, none⟩) ∧ tmget tm 3 = .pointer (some ⟨N + 1, 0, none⟩) ∧ tmget tm 4 = .pointer (some ⟨N + 2, 0, none⟩) ∧ tmget tm 5 = .pointer (some ⟨N + 3, 0, none⟩) ∧ tmget tm 6 = .pointer (some ⟨N + 5, 0, none⟩) ∧
      hget hp (N + 0) = some ⟨28, 9, true, C9⟩ ∧ hget hp (N + 1) = some ⟨25, 8, true, c.cells⟩ ∧ hget hp (N + 2) = some ⟨28, 9, true, z9⟩ ∧ hget hp (N + 3) = some ⟨28, 9, true, z9⟩ ∧ hget hp (N + 4) = some ⟨3, 1, false, sC c l i⟩ ∧ hget hp (N + 5) = some ⟨66, 1, true, [.slice (some ⟨N + 4, 0, none⟩) l.length l.length]⟩ ∧
      (∀ q, q < N → hget hp q = hget h q) ∧ N + 6 ≤ M ∧ nx = M + 0) ?_ l.length
    ⟨0, N + 6, by omega, ?_, ?_, ?_, ?_, ?_, ?_, ?_, ?_, ?_, ?_, ?_, ?_, ?_, ?_, ?_, Nat.le_refl _, rfl⟩
  rotate_left
  all_goals first | (simp only [↓R0, R1, simprocAttr, -Int.reduceAbs]; done) | (simp only [↓R0, R1, simprocAttr, -Int.reduceAbs]; rfl) | skip
  · intro q hq
    simp only [↓R0, R1, simprocAttr, -Int.reduceAbs, nb q hq]
  rintro n tm hp nx ⟨i, M, hn, tA, tB, tC', t2, t3, t4, t5, t6, b0, b1, b2, b3, b4, b5, hh, hM, hnx⟩
  rw [hnx]
  clear hnx nx
  by_cases c1 : i < l.length
  · obtain ⟨k, off, blk, ea, hb, q1, q2⟩ := vert_at hx c1
    subst ea
    have hk := hN _ _ hb
    have hbb : hget hp k = some blk := by rw [hh k hk]; exact hb
    have nk : ∀ j, (M + j = k) = False := fun j => eq_false (by omega)
    have Nk : ∀ j, (N + j = k) = False := fun j => eq_false (by omega)
    have c1' : ((i : Int) < (l.length : Int)) = True := eq_true (by omega)
    have w1 : IntKind.i64.wrap ((i : Int) + 1) = ((i + 1 : Nat) : Int) := by rw [i64_in _ (by omega)]; omega
    have sX := (hs.sz.at c1).le (k := 1000000) (by omega)
    have sc := hs.cs.le (k := 1000000) (by omega)
    have set1 := sC_set c l i c1
    have slen := sC_len c l i
    have sd := side_of sc sX
    have e9 : (sdv c (ptAt l i)).sign = sgp c (ptAt l i) := rfl
    rw [e9] at sd
    clear e9
    generalize ptAt l i = X at *
    have aX := X.len8; have oX := X.ok8; have tX := X.tk8
    have stX : setR [.bool false, .string ⟨⟨[]⟩⟩, .bool false, .string ⟨⟨[]⟩⟩, .bool false, .string ⟨⟨[]⟩⟩, .bool false, .string ⟨⟨[]⟩⟩] 0 X.cells = X.cells := rfl
    have i1 : i + 1 ≤ l.length := c1
    have M0 : ∀ j, (M + j = N + 0) = False := fun j => eq_false (by omega)
    have Q0 : ∀ j, (N + 0 = M + j) = False := fun j => eq_false (by omega)
    have M1 : ∀ j, (M + j = N + 1) = False := fun j => eq_false (by omega)
    have Q1 : ∀ j, (N + 1 = M + j) = False := fun j => eq_false (by omega)
    have M2 : ∀ j, (M + j = N + 2) = False := fun j => eq_false (by omega)
    have Q2 : ∀ j, (N + 2 = M + j) = False := fun j => eq_false (by omega)
    have M3 : ∀ j, (M + j = N + 3) = False := fun j => eq_false (by omega)
    have Q3 : ∀ j, (N + 3 = M + j) = False := fun j => eq_false (by omega)
    have M4 : ∀ j, (M + j = N + 4) = False := fun j => eq_false (by omega)
    have Q4 : ∀ j, (N + 4 = M + j) = False := fun j => eq_false (by omega)
    have M5 : ∀ j, (M + j = N + 5) = False := fun j => eq_false (by omega)
    have Q5 : ∀ j, (N + 5 = M + j) = False := fun j => eq_false (by omega)
    have R0x : ∀ d, (N = M + d) = False := fun d => eq_false (by omega)
    have R9x : (N = M) = False := eq_false (by omega)
    have R1x : (N + 1 = M) = False := eq_false (by omega)
    have R2x : (N + 2 = M) = False := eq_false (by omega)
    have R3x : (N + 3 = M) = False := eq_false (by omega)
    have R4x : (N + 4 = M) = False := eq_false (by omega)
    have R5x : (N + 5 = M) = False := eq_false (by omega)
    simp only [↓R0, R1, simprocAttr, -Int.reduceAbs, tA, tB, tC', t2, t3, t4, t5, t6, b0, b1, b2, b3, b4, b5, c1, c1', hbb, nk, Nk, q1, q2, w1, aX, oX, tX, stX, lC, tC, sd, slen, set1, i1, M0, Q0, M1, Q1, M2, Q2, M3, Q3, M4, Q4, M5, Q5, R0x, R9x, R1x, R2x, R3x, R4x, R5x]
    refine ⟨n - 1, by omega, i + 1, M + 1, by omega, rfl, rfl, fun q hq => ?_, by omega, rfl⟩
    have nc : ∀ j, (M + j = q) = False := fun j => eq_false (by omega)
    simp only [↓R0, R1, simprocAttr, -Int.reduceAbs, nb q hq, nc]
    exact hh q hq
  have e : i = l.length := by omega
  subst e
  have c1' : ((l.length : Int) < (l.length : Int)) = False := eq_false (by omega)
  have M0 : ∀ j, (M + j = N + 0) = False := fun j => eq_false (by omega)
  have Q0 : ∀ j, (N + 0 = M + j) = False := fun j => eq_false (by omega)
  have M1 : ∀ j, (M + j = N + 1) = False := fun j => eq_false (by omega)
  have Q1 : ∀ j, (N + 1 = M + j) = False := fun j => eq_false (by omega)
  have M2 : ∀ j, (M + j = N + 2) = False := fun j => eq_false (by omega)
  have Q2 : ∀ j, (N + 2 = M + j) = False := fun j => eq_false (by omega)
  have M3 : ∀ j, (M + j = N + 3) = False := fun j => eq_false (by omega)
  have Q3 : ∀ j, (N + 3 = M + j) = False := fun j => eq_false (by omega)
  have M4 : ∀ j, (M + j = N + 4) = False := fun j => eq_false (by omega)
  have Q4 : ∀ j, (N + 4 = M + j) = False := fun j => eq_false (by omega)
  have M5 : ∀ j, (M + j = N + 5) = False := fun j => eq_false (by omega)
  have Q5 : ∀ j, (N + 5 = M + j) = False := fun j => eq_false (by omega)
  have R0x : ∀ d, (N = M + d) = False := fun d => eq_false (by omega)
  have R9x : (N = M) = False := eq_false (by omega)
  have R1x : (N + 1 = M) = False := eq_false (by omega)
  have R2x : (N + 2 = M) = False := eq_false (by omega)
  have R3x : (N + 3 = M) = False := eq_false (by omega)
  have R4x : (N + 4 = M) = False := eq_false (by omega)
  have R5x : (N + 5 = M) = False := eq_false (by omega)
  have pok2 : ∀ k n, (pc9 P (pSl k n)).all okCell = true := fun _ _ => rfl
  have m00 : M + 0 + 0 = M + 0 := rfl
  have m10 : M + 1 + 0 = M + 1 := rfl
  have e1 : spPart1 [.int .i64 (-1), .pointer (some ⟨N + 0, 0, none⟩), .pointer (some ⟨N + 5, 0, none⟩), .pointer (some ⟨N + 1, 0, none⟩)] hp = some (partNL P c l (-1)) := f _ _ (.inr rfl) hh b0 b1 b5 ⟨_, b4⟩
  unfold splitNL
  by_cases hA : anyP c l (-1) l.length
  · rw [if_pos hA]
    rw [show partNL P c l (-1) = ⟨1, fun σ => .agg ⟨pc9 P (pSl (σ 0) (prt c l (-1)).length)⟩, fun _ => 41, fun _ => 8, fun _ _ => ptsC (prt c l (-1))⟩ from if_pos hA] at e1
    by_cases hB : anyP c l 1 l.length
    · have nM : ∀ k, k < M → (M + 0 = k) = False := fun k hk => eq_false (by omega)
      have hg : ∀ k, k < M → hget ((M + 0, some ⟨41, 8, false, ptsC (prt c l (-1))⟩) :: hp) k = hget hp k := fun k hk => by simp only [hget, nM k hk, if_false]
      have e2 : spPart1 [.int .i64 1, .pointer (some ⟨N + 0, 0, none⟩), .pointer (some ⟨N + 5, 0, none⟩), .pointer (some ⟨N + 1, 0, none⟩)] ((M + 0, some ⟨41, 8, false, ptsC (prt c l (-1))⟩) :: hp) = some (partNL P c l 1) := f _ _ (.inl rfl) (fun k hk => (hg k (by omega)).trans (hh k hk)) ((hg _ (by omega)).trans b0) ((hg _ (by omega)).trans b1) ((hg _ (by omega)).trans b5) ⟨_, (hg _ (by omega)).trans b4⟩
      clear nM hg
      rw [show partNL P c l 1 = ⟨1, fun σ => .agg ⟨pc9 P (pSl (σ 0) (prt c l 1).length)⟩, fun _ => 41, fun _ => 8, fun _ _ => ptsC (prt c l 1)⟩ from if_pos hB] at e2
      rw [if_pos hB]
      simp only [↓R0, R1, simprocAttr, -Int.reduceAbs, ← ez, tA, tB, tC', t2, t3, t4, t5, t6, b0, b1, b2, b3, b4, b5, c1', l9, t9, lC, tC, callF, nwL, e1, e2, newH0, newH1, m00, m10, pst, plen, pok, pok2, zlen, zok, zst, M0, Q0, M1, Q1, M2, Q2, M3, Q3, M4, Q4, M5, Q5, R0x, R9x, R1x, R2x, R3x, R4x, R5x, FinL, isEnd, resL, res1]
      refine ⟨fun i => M + 0 + i, _, fun i _ => (by omega : N ≤ M + 0 + i), fun i j _ _ (e : M + 0 + i = M + 0 + j) => by omega, rfl, rfl, fun i (hi : i < 2) => ?_, fun q hq => ?_⟩
      · rcases (by omega : i = 0 ∨ i = 1) with rfl | rfl
        · exact ⟨false, by simp [hget, M0, Q0, M1, Q1, M2, Q2, M3, Q3, M4, Q4, M5, Q5, R0x, R9x, R1x, R2x, R3x, R4x, R5x]⟩
        · exact ⟨false, by simp [hget, M0, Q0, M1, Q1, M2, Q2, M3, Q3, M4, Q4, M5, Q5, R0x, R9x, R1x, R2x, R3x, R4x, R5x]⟩
      · have nc : ∀ j, (M + j = q) = False := fun j => eq_false (by omega)
        simp only [↓R0, R1, simprocAttr, -Int.reduceAbs, nb q hq, nc]
        exact hh q hq
    · have nM : ∀ k, k < M → (M + 0 = k) = False := fun k hk => eq_false (by omega)
      have hg : ∀ k, k < M → hget ((M + 0, some ⟨41, 8, false, ptsC (prt c l (-1))⟩) :: hp) k = hget hp k := fun k hk => by simp only [hget, nM k hk, if_false]
      have e2 : spPart1 [.int .i64 1, .pointer (some ⟨N + 0, 0, none⟩), .pointer (some ⟨N + 5, 0, none⟩), .pointer (some ⟨N + 1, 0, none⟩)] ((M + 0, some ⟨41, 8, false, ptsC (prt c l (-1))⟩) :: hp) = some (partNL P c l 1) := f _ _ (.inl rfl) (fun k hk => (hg k (by omega)).trans (hh k hk)) ((hg _ (by omega)).trans b0) ((hg _ (by omega)).trans b1) ((hg _ (by omega)).trans b5) ⟨_, (hg _ (by omega)).trans b4⟩
      clear nM hg
      rw [show partNL P c l 1 = ⟨0, fun _ => .agg ⟨z9⟩, fun _ => 0, fun _ => 0, fun _ _ => []⟩ from if_neg hB] at e2
      rw [if_neg hB]
      simp only [↓R0, R1, simprocAttr, -Int.reduceAbs, ← ez, tA, tB, tC', t2, t3, t4, t5, t6, b0, b1, b2, b3, b4, b5, c1', l9, t9, lC, tC, callF, nwL, e1, e2, newH0, newH1, m00, m10, pst, plen, pok, pok2, zlen, zok, zst, M0, Q0, M1, Q1, M2, Q2, M3, Q3, M4, Q4, M5, Q5, R0x, R9x, R1x, R2x, R3x, R4x, R5x, FinL, isEnd, resL, res1]
      refine ⟨fun i => M + 0 + i, _, fun i _ => (by omega : N ≤ M + 0 + i), fun i j _ _ (e : M + 0 + i = M + 0 + j) => by omega, rfl, rfl, fun i (hi : i < 1) => ?_, fun q hq => ?_⟩
      · obtain rfl : i = 0 := by omega
        exact ⟨false, by simp [hget, M0, Q0, M1, Q1, M2, Q2, M3, Q3, M4, Q4, M5, Q5, R0x, R9x, R1x, R2x, R3x, R4x, R5x]⟩
      · have nc : ∀ j, (M + j = q) = False := fun j => eq_false (by omega)
        simp only [↓R0, R1, simprocAttr, -Int.reduceAbs, nb q hq, nc]
        exact hh q hq
  · rw [if_neg hA]
    rw [show partNL P c l (-1) = ⟨0, fun _ => .agg ⟨z9⟩, fun _ => 0, fun _ => 0, fun _ _ => []⟩ from if_neg hA] at e1
    by_cases hB : anyP c l 1 l.length
    · have e2 : spPart1 [.int .i64 1, .pointer (some ⟨N + 0, 0, none⟩), .pointer (some ⟨N + 5, 0, none⟩), .pointer (some ⟨N + 1, 0, none⟩)] hp = some (partNL P c l 1) := f _ _ (.inl rfl) hh b0 b1 b5 ⟨_, b4⟩
      rw [show partNL P c l 1 = ⟨1, fun σ => .agg ⟨pc9 P (pSl (σ 0) (prt c l 1).length)⟩, fun _ => 41, fun _ => 8, fun _ _ => ptsC (prt c l 1)⟩ from if_pos hB] at e2
      rw [if_pos hB]
      simp only [↓R0, R1, simprocAttr, -Int.reduceAbs, ← ez, tA, tB, tC', t2, t3, t4, t5, t6, b0, b1, b2, b3, b4, b5, c1', l9, t9, lC, tC, callF, nwL, e1, e2, newH0, newH1, m00, m10, pst, plen, pok, pok2, zlen, zok, zst, M0, Q0, M1, Q1, M2, Q2, M3, Q3, M4, Q4, M5, Q5, R0x, R9x, R1x, R2x, R3x, R4x, R5x, FinL, isEnd, resL, res1]
      refine ⟨fun i => M + 0 + i, _, fun i _ => (by omega : N ≤ M + 0 + i), fun i j _ _ (e : M + 0 + i = M + 0 + j) => by omega, rfl, rfl, fun i (hi : i < 1) => ?_, fun q hq => ?_⟩
      · obtain rfl : i = 0 := by omega
        exact ⟨false, by simp [hget, M0, Q0, M1, Q1, M2, Q2, M3, Q3, M4, Q4, M5, Q5, R0x, R9x, R1x, R2x, R3x, R4x, R5x]⟩
      · have nc : ∀ j, (M + j = q) = False := fun j => eq_false (by omega)
        simp only [↓R0, R1, simprocAttr, -Int.reduceAbs, nb q hq, nc]
        exact hh q hq
    · have e2 : spPart1 [.int .i64 1, .pointer (some ⟨N + 0, 0, none⟩), .pointer (some ⟨N + 5, 0, none⟩), .pointer (some ⟨N + 1, 0, none⟩)] hp = some (partNL P c l 1) := f _ _ (.inl rfl) hh b0 b1 b5 ⟨_, b4⟩
      rw [show partNL P c l 1 = ⟨0, fun _ => .agg ⟨z9⟩, fun _ => 0, fun _ => 0, fun _ _ => []⟩ from if_neg hB] at e2
      rw [if_neg hB]
      simp only [↓R0, R1, simprocAttr, -Int.reduceAbs, ← ez, tA, tB, tC', t2, t3, t4, t5, t6, b0, b1, b2, b3, b4, b5, c1', l9, t9, lC, tC, callF, nwL, e1, e2, newH0, newH1, m00, m10, pst, plen, pok, pok2, zlen, zok, zst, M0, Q0, M1, Q1, M2, Q2, M3, Q3, M4, Q4, M5, Q5, R0x, R9x, R1x, R2x, R3x, R4x, R5x, FinL, isEnd, resL, res1]
      refine ⟨fun i => M + 0 + i, _, fun i _ => (by omega : N ≤ M + 0 + i), fun i j _ _ (e : M + 0 + i = M + 0 + j) => by omega, rfl, rfl, fun i (hi : i < 0) => ?_, fun q hq => ?_⟩
      · omega
      · have nc : ∀ j, (M + j = q) = False := fun j => eq_false (by omega)
        simp only [↓R0, R1, simprocAttr, -Int.reduceAbs, nb q hq, nc]
        exact hh q hq
end Go.Eng
end
section
set_option linter.unusedVariables false
set_option linter.unusedSimpArgs false
set_option linter.unusedSectionVars false
set_option maxRecDepth 8000
namespace Go.Eng
open Go Go.Proofs Go.IntWalk
def spQParts : List Value → Option Value
  | [.agg ⟨[.bool s, .string ⟨⟨n⟩⟩, .string ⟨⟨d⟩⟩]⟩] => if n.length ≤ 1099511627776 ∧ d.length ≤ 1099511627776 then some (.tuple ⟨[.agg ⟨iE (sv s n)⟩, .agg ⟨iE (dv d)⟩]⟩) else none
  | _ => none
def c99 : ICode :=
  (.seq (.reg [qq 1 (.box 49 3 (.t 0)), qq 2 (.alloc 23 2 [(.bool false), e0]), qq 3 (.alloc 23 2 [(.bool false), e0])]) (.seq (.reg [qq 5 (.faddr 2 (.t 1)), qq 6 (.load false 1 (.t 5)), qq 7 (.call 112 [(.t 6)]), qq 8 (.build [(.bool false), e0] [(1, 1, (.t 7))]), qq 4 (.alloc 23 2 [(.bool false), e0]), qn (.store 2 (.t 4) (.t 8))]) (.seq (.seq (.reg [qq 9 (.faddr 1 (.t 4)), qq 10 (.load false 1 (.t 9)), qq 11 (.bin .eql (.t 10) (.c e0))]) (.cond (.t 11) (.reg [qq 12 (.call 76 [(ci 1)]), qn (.store 2 (.t 4) (.t 12))]) .skip)) (.seq (.dreg [qu 13 (.faddr 0 (.t 1)), qu 14 (.load false 1 (.t 13)), qu 15 (.faddr 1 (.t 1)), qu 16 (.load false 1 (.t 15)), qu 17 (.build [(.bool false), e0] [(0, 1, (.t 14)), (1, 1, (.t 16))]), qu 18 (.call 75 [(.t 17)]), qv 19 [5] (.load true 2 (.t 4)), ⟨none, none, [1006], (.store 2 (.t 2) (.t 18))⟩, qm (.store 2 (.t 3) (.t 19))]) .ret))))
theorem tr99 : trFun Tryz.prog 99 = some ⟨20, [.cell 2 true 2, .cell 3 true 2], c99⟩ := by kernel_rfl
theorem ok_qParts : SpecOK Tryz.prog 99 (flat spQParts) := by
  refine flat_run (env_cons ok_nNorm (env_cons ok_iFrom (env_cons ok_iNorm (env_nil _)))) mixed tr99 ?_
  intro args v h N hG
  unfold spQParts at hG
  split at hG
  case h_2 => cases hG
  rename_i s n d
  split at hG
  case isFalse => cases hG
  rename_i hl
  obtain ⟨h1, h2⟩ := hl
  cases hG
  refine ⟨rfl, by simp, ?_⟩
  by_cases h0 : nl d = 0
  · have e1 : bl (nl d) = [] := by rw [h0, bl_zero]
    have e2 : dv d = 1 := by unfold dv; rw [if_pos h0]
    simp only [c99, G0, Nat.reduceAdd]
    simp only [↓R0, R1, simprocAttr, -Int.reduceAbs, spNNorm, h1, h2, e1, e2, spIFrom, spINorm, iE, Fin, isEnd, resL, res1, iE, rE]
    exact ⟨_, rfl, rfl, fun k hk => by simp only [ne_nb hk, if_false]⟩
  · have e1 : (bl (nl d) = []) = False := eq_false (fun e => h0 (bl_eq_nil.1 e))
    have e2 : dv d = (nl d : Int) := by unfold dv; rw [if_neg h0]
    have e3 : ¬ ((nl d : Int) < 0) := by omega
    simp only [c99, G0, Nat.reduceAdd]
    simp only [↓R0, R1, simprocAttr, -Int.reduceAbs, spNNorm, h1, h2, e1, e2, e3, spIFrom, spINorm, iE, Int.natAbs_natCast, Fin, isEnd, resL, res1, iE, rE]
    exact ⟨_, rfl, rfl, fun k hk => by simp only [ne_nb hk, if_false]⟩
def spQLeast : List Value → Heap → Option Value
  | [.string ⟨⟨l⟩⟩, .pointer (some ⟨k, 0, none⟩)], h => match hget h k with
    | some ⟨_, _, _, [.string ⟨⟨m⟩⟩]⟩ => if l.length ≤ 34359738368 ∧ m.length ≤ 34359738368 ∧ nl m ≠ 0 then some (.string ⟨⟨bl (nl l / nl m)⟩⟩) else none
    | _ => none
  | _, _ => none
def c134 : ICode :=
  (.seq (.reg [qq 3 (.mv (.c e0))]) (.seq (.reg [qq 8 (.mv (.t 0)), qq 9 (.load false 1 (.t 1)), qq 10 (.call 110 [(.t 8), (.t 9)]), qq 7 (.mv (.t 10)), qq 11 (.ext (.t 7) 0), qq 12 (.ext (.t 7) 1), qq 13 (.ext (.t 7) 2), qq 4 (.mv (.t 11)), qq 5 (.mv (.t 12)), qq 6 (.mv (.t 13))]) (.seq (.reg [qq 14 (.mv (.t 4)), qq 3 (.mv (.t 14))]) .ret)))
theorem tr134 : trFun Tryz.prog 134 = some ⟨15, [.t 3], c134⟩ := by kernel_rfl
theorem ok_qLeast : SpecOK Tryz.prog 134 (rdS spQLeast) := by
  refine rd_run (env_cons ok_nDiv (env_nil _)) mixed tr134 ?_ ?_
  · intro args h h' v hle e
    unfold spQLeast at e ⊢
    split at e
    · split at e
      · rename_i b1
        simp only [hle _ _ b1]; exact e
      · cases e
    · cases e
  intro args v h N hG hN
  unfold spQLeast at hG
  split at hG
  case h_2 => cases hG
  rename_i l k
  split at hG
  case h_2 => cases hG
  rename_i e1 z1 x1 m hb1
  split at hG
  case isFalse => cases hG
  rename_i hl
  obtain ⟨h1, h2, h3⟩ := hl
  have h4 := eq_false h3
  cases hG
  refine ⟨rfl, by simp, ?_⟩
  simp only [c134, G0, Nat.reduceAdd]
  simp only [↓R0, R1, simprocAttr, -Int.reduceAbs, hb1, spNDiv, h1, h2, h4, Fin, isEnd, resL, res1, iE, rE]
  exact ⟨_, rfl, rfl, fun k hk => by simp only [ne_nb hk, if_false]⟩
def spQMake : List Value → Option Value
  | [.agg ⟨[.bool s, .string ⟨⟨l⟩⟩]⟩, .agg ⟨[.bool t, .string ⟨⟨m⟩⟩]⟩] => if l.length ≤ 34359738368 ∧ m.length ≤ 34359738368 then
      (if nl m = 0 then some (.tuple ⟨[.agg ⟨[.bool false, .string ⟨⟨[]⟩⟩, .string ⟨⟨[]⟩⟩]⟩, .bool false]⟩) else
        some (.tuple ⟨[.agg ⟨rE (Rat.divInt (sv s l) (sv t m))⟩, .bool true]⟩)) else none
  | _ => none
def c98 : ICode :=
  (.seq (.reg [qq 2 (.box 23 2 (.t 0)), qq 3 (.box 23 2 (.t 1)), qq 4 (.alloc 49 3 [(.bool false), e0, e0]), qq 5 (.mv (.c (.bool false)))]) (.seq (.seq (.reg [qq 9 (.load true 2 (.t 3)), qq 10 (.call 72 [(.t 9)]), qq 11 (.bin .eql (.t 10) (ci 0))]) (.cond (.t 11) (.seq (.reg [qq 12 (.build [(.bool false), e0, e0] []), qn (.store 3 (.t 4) (.t 12)), qq 5 (.mv (.c (.bool false)))]) .ret) .skip)) (.seq (.seq (.reg [qq 13 (.load true 2 (.t 2)), qq 14 (.call 72 [(.t 13)]), qq 15 (.bin .eql (.t 14) (ci 0))]) (.cond (.t 15) (.seq (.reg [qq 16 (.build [(.bool false), e0, e0] []), qn (.store 3 (.t 4) (.t 16)), qq 5 (.mv (.c (.bool true)))]) .ret) .skip)) (.seq (.reg [qq 17 (.faddr 1 (.t 2)), qq 18 (.load false 1 (.t 17)), qq 19 (.faddr 1 (.t 3)), qq 20 (.load false 1 (.t 19)), qq 21 (.call 109 [(.t 18), (.t 20)]), qq 6 (.alloc 9 1 [e0]), qn (.store 1 (.t 6) (.t 21))]) (.seq (.reg [qq 22 (.mkfn 134 [(.t 6)]), qq 7 (.mv (.t 22))]) (.seq (.dreg [qu 23 (.faddr 0 (.t 2)), qu 24 (.load false 1 (.t 23)), qu 25 (.faddr 0 (.t 3)), qu 26 (.load false 1 (.t 25)), qu 27 (.eqb true (.t 24) (.t 26)), qu 28 (.mv (.t 7)), qu 29 (.faddr 1 (.t 2)), qu 30 (.load false 1 (.t 29)), qu 31 (.callv (.t 28) [(.t 30)]), qu 32 (.mv (.t 7)), qu 33 (.faddr 1 (.t 3)), qv 34 [8] (.load false 1 (.t 33)), qu 35 (.callv (.t 32) [(.t 34)]), qu 36 (.build [(.bool false), e0, e0] [(0, 1, (.t 27)), (1, 1, (.t 31)), (2, 1, (.t 35))]), qu 8 (.alloc 49 3 [(.bool false), e0, e0]), qm (.store 3 (.t 8) (.t 36))]) (.seq (.seq (.reg [qq 37 (.faddr 2 (.t 8)), qq 38 (.load false 1 (.t 37)), qq 39 (.bin .eql (.t 38) (.c (.string ⟨⟨[1]⟩⟩)))]) (.cond (.t 39) (.reg [qq 40 (.faddr 2 (.t 8)), qn (.store 1 (.t 40) (.c e0))]) .skip)) (.seq (.reg [qq 41 (.load true 3 (.t 8)), qn (.store 3 (.t 4) (.t 41)), qq 5 (.mv (.c (.bool true)))]) .ret))))))))
theorem tr98 : trFun Tryz.prog 98 = some ⟨42, [.cell 4 true 3, .t 5], c98⟩ := by kernel_rfl
theorem sv_neg_iff {s : Bool} {l : List UInt8} (h : nl l ≠ 0) : decide (sv s l < 0) = s := by
  unfold sv; cases s <;> simp <;> omega
set_option maxHeartbeats 1000000 in
theorem ok_qMake : SpecOK Tryz.prog 98 (flat spQMake) := by
  refine flat_run (env_cons ok_iSign (env_cons ok_nGcd (env_cons ok_qLeast (env_nil _)))) mixed tr98 ?_
  intro args v h N hG
  unfold spQMake at hG
  split at hG
  case h_2 => cases hG
  rename_i s l t m
  split at hG
  case isFalse => cases hG
  rename_i hl
  obtain ⟨hl, hm⟩ := hl
  have l2 : l.length ≤ 1099511627776 := by omega
  have m2 : m.length ≤ 1099511627776 := by omega
  split at hG
  · rename_i h0
    have e0 : sv t m = 0 := (sv_eq_zero t m).2 h0
    cases hG
    refine ⟨rfl, by simp, ?_⟩
    simp only [c98, G0, Nat.reduceAdd]
    simp only [↓R0, R1, simprocAttr, -Int.reduceAbs, spISign, l2, m2, e0, Int.sign_zero, Fin, isEnd, resL, res1, iE, rE]
    exact ⟨_, rfl, rfl, fun k hk => by simp only [ne_nb hk, if_false]⟩
  rename_i h0
  have hD : sv t m ≠ 0 := fun e => h0 ((sv_eq_zero t m).1 e)
  have hD' : ((sv t m).sign = 0) = False := eq_false (fun e => hD (Int.sign_eq_zero_iff_zero.1 e))
  by_cases hn : nl l = 0
  · have e0 : sv s l = 0 := (sv_eq_zero s l).2 hn
    have rz : rE 0 = [.bool false, .string ⟨⟨[]⟩⟩, .string ⟨⟨[]⟩⟩] := by simp [rE, bl_zero]
    rw [e0, Rat.zero_divInt, rz] at hG
    cases hG
    refine ⟨rfl, by simp, ?_⟩
    simp only [c98, G0, Nat.reduceAdd]
    simp only [↓R0, R1, simprocAttr, -Int.reduceAbs, spISign, l2, m2, e0, hD', Int.sign_zero, Fin, isEnd, resL, res1, iE, rE]
    exact ⟨_, rfl, rfl, fun k hk => by simp only [ne_nb hk, if_false]⟩
  have hN : sv s l ≠ 0 := fun e => hn ((sv_eq_zero s l).1 e)
  have hN' : ((sv s l).sign = 0) = False := eq_false (fun e => hN (Int.sign_eq_zero_iff_zero.1 e))
  cases hG
  refine ⟨rfl, by simp, ?_⟩
  obtain ⟨d1, d2, d3⟩ := divInt_cells (N := sv s l) hD
  rw [sv_natAbs, sv_natAbs] at d1 d2
  have hst : decide ((Rat.divInt (sv s l) (sv t m)).num < 0) = decide (s ≠ t) := by
    rw [Bool.eq_iff_iff]
    simp only [decide_eq_true_eq, d3, sv_neg_iff hn, sv_neg_iff h0, and_iff_left hN]
  unfold rE
  rw [hst, d1, d2]
  clear hst d1 d2 d3
  have hG0 : 0 < (nl l).gcd (nl m) := Nat.gcd_pos_of_pos_right _ (by omega)
  have lG : (bl ((nl l).gcd (nl m))).length ≤ 34359738368 := Nat.le_trans (bl_length_mono (Nat.gcd_le_right _ (by omega))) (Nat.le_trans (bl_length_nl m) hm)
  generalize hGG : (nl l).gcd (nl m) = G at *
  have f2 : ¬ (G = 0) := by omega
  have f10 : (bl (nl m / G) = [1]) = (nl m / G = 1) := propext ⟨fun e => bl_inj (e.trans (by decide +kernel : ([1] : List UInt8) = bl 1)), fun e => by rw [e]; decide +kernel⟩
  simp only [c98, G0, Nat.reduceAdd]
  simp only [↓R0, R1, simprocAttr, -Int.reduceAbs, spISign, l2, m2, hD', hN', spNGcd, hl, hm, hGG, rdS, callF, spQLeast, nl_bl, lG, f2, f10]
  by_cases c3 : nl m / G = 1
  · simp only [↓R0, R1, simprocAttr, -Int.reduceAbs, c3, Fin, isEnd, resL, res1, iE, rE]
    exact ⟨_, rfl, rfl, fun k hk => by simp only [ne_nb hk, if_false]⟩
  · simp only [↓R0, R1, simprocAttr, -Int.reduceAbs, c3, Fin, isEnd, resL, res1, iE, rE]
    exact ⟨_, rfl, rfl, fun k hk => by simp only [ne_nb hk, if_false]⟩
def c100 : ICode :=
  (.seq (.reg [qq 2 (.box 23 2 (.t 0)), qq 3 (.box 23 2 (.t 1)), qq 4 (.alloc 49 3 [(.bool false), e0, e0])]) (.seq (.reg [qq 8 (.load true 2 (.t 2)), qq 9 (.load true 2 (.t 3)), qq 10 (.call 98 [(.t 8), (.t 9)]), qq 7 (.mv (.t 10)), qq 11 (.ext (.t 7) 0), qq 12 (.ext (.t 7) 1), qq 5 (.alloc 49 3 [(.bool false), e0, e0]), qn (.store 3 (.t 5) (.t 11)), qq 6 (.mv (.t 12))]) (.seq (.reg [qq 13 (.load true 3 (.t 5)), qn (.store 3 (.t 4) (.t 13))]) .ret)))
theorem tr100 : trFun Tryz.prog 100 = some ⟨14, [.cell 4 true 3], c100⟩ := by kernel_rfl
def spQMade : List Value → Option Value
  | [.agg ⟨[.bool s, .string ⟨⟨l⟩⟩]⟩, .agg ⟨[.bool t, .string ⟨⟨m⟩⟩]⟩] => if l.length ≤ 34359738368 ∧ m.length ≤ 34359738368 ∧ nl m ≠ 0 then
      some (.agg ⟨rE (Rat.divInt (sv s l) (sv t m))⟩) else none
  | _ => none
theorem ok_qMade : SpecOK Tryz.prog 100 (flat spQMade) := by
  refine flat_run (env_cons ok_qMake (env_nil _)) mixed tr100 ?_
  intro args v h N hG
  unfold spQMade at hG
  split at hG
  case h_2 => cases hG
  rename_i s l t m
  split at hG
  case isFalse => cases hG
  rename_i hl
  obtain ⟨h1, h2, h3⟩ := hl
  have h4 := eq_false h3
  cases hG
  refine ⟨rfl, by simp, ?_⟩
  simp only [c100, G0, Nat.reduceAdd]
  simp only [↓R0, R1, simprocAttr, -Int.reduceAbs, spQMake, h1, h2, h4, Fin, isEnd, resL, res1, iE, rE]
  exact ⟨_, rfl, rfl, fun k hk => by simp only [ne_nb hk, if_false]⟩
end Go.Eng
end
