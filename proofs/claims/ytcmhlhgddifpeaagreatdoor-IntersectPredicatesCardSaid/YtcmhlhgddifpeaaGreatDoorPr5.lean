/-
  A part of the proof: the machine, the contracts of the functions and the plain laws, merged from smaller texts.
-/
import Derived.Test.YtcmhlhgddifpeaaGreatDoorPr4
section
set_option linter.unusedVariables false
set_option linter.unusedSimpArgs false
set_option linter.unusedSectionVars false
set_option maxRecDepth 20000
namespace Go.Eng
open Go Go.Proofs Go.IntWalk
theorem rv_zero : rv false [] [] = 0 := by unfold rv; rw [show sv false [] = 0 from rfl]; exact Rat.zero_divInt _
def spR5Less : List Value → Option Value
  | [.agg ⟨[.bool s1, .string ⟨⟨n1⟩⟩, .string ⟨⟨d1⟩⟩, .bool s2, .string ⟨⟨n2⟩⟩, .string ⟨⟨d2⟩⟩, .bool s3, .string ⟨⟨n3⟩⟩, .string ⟨⟨d3⟩⟩]⟩, .agg ⟨[.bool s4, .string ⟨⟨n4⟩⟩, .string ⟨⟨d4⟩⟩, .bool s5, .string ⟨⟨n5⟩⟩, .string ⟨⟨d5⟩⟩, .bool s6, .string ⟨⟨n6⟩⟩, .string ⟨⟨d6⟩⟩]⟩] =>
    if n1.length ≤ 1073741824 ∧ d1.length ≤ 1073741824 ∧ n2.length ≤ 1073741824 ∧ d2.length ≤ 1073741824 ∧ n3.length ≤ 1073741824 ∧ d3.length ≤ 1073741824 ∧ n4.length ≤ 1073741824 ∧ d4.length ≤ 1073741824 ∧ n5.length ≤ 1073741824 ∧ d5.length ≤ 1073741824 ∧ n6.length ≤ 1073741824 ∧ d6.length ≤ 1073741824 then some (.agg ⟨r3E (rv s1 n1 d1 - rv s4 n4 d4) (rv s2 n2 d2 - rv s5 n5 d5) (rv s3 n3 d3 - rv s6 n6 d6)⟩) else none
  | _ => none
def c104 : ICode :=
  (.seq (.reg [⟨(some 2), none, (.box 67 9 (.t 0))⟩, ⟨(some 3), none, (.box 67 9 (.t 1))⟩, ⟨(some 4), none, (.alloc 67 9 [(.bool false), (.string ⟨⟨[]⟩⟩), (.string ⟨⟨[]⟩⟩), (.bool false), (.string ⟨⟨[]⟩⟩), (.string ⟨⟨[]⟩⟩), (.bool false), (.string ⟨⟨[]⟩⟩), (.string ⟨⟨[]⟩⟩)])⟩])
  (.seq (.dreg [⟨(some 5), none, [], (.ixarr 3 3 (.t 2) (.c (.int .i64 0)))⟩, ⟨(some 6), none, [], (.load true 3 (.t 5))⟩, ⟨(some 7), none, [], (.ixarr 3 3 (.t 3) (.c (.int .i64 0)))⟩, ⟨(some 8), none, [], (.load true 3 (.t 7))⟩, ⟨(some 9), none, [], (.call 56 [(.t 6), (.t 8)])⟩, ⟨(some 10), none, [], (.ixarr 3 3 (.t 2) (.c (.int .i64 1)))⟩, ⟨(some 11), none, [4], (.load true 3 (.t 10))⟩, ⟨(some 12), none, [], (.ixarr 3 3 (.t 3) (.c (.int .i64 1)))⟩, ⟨(some 13), none, [4], (.load true 3 (.t 12))⟩, ⟨(some 14), none, [], (.call 56 [(.t 11), (.t 13)])⟩, ⟨(some 15), none, [], (.ixarr 3 3 (.t 2) (.c (.int .i64 2)))⟩, ⟨(some 16), none, [4, 9], (.load true 3 (.t 15))⟩, ⟨(some 17), none, [], (.ixarr 3 3 (.t 3) (.c (.int .i64 2)))⟩, ⟨(some 18), none, [4, 9], (.load true 3 (.t 17))⟩, ⟨(some 19), none, [], (.call 56 [(.t 16), (.t 18)])⟩, ⟨(some 20), none, [], (.build [(.bool false), (.string ⟨⟨[]⟩⟩), (.string ⟨⟨[]⟩⟩), (.bool false), (.string ⟨⟨[]⟩⟩), (.string ⟨⟨[]⟩⟩), (.bool false), (.string ⟨⟨[]⟩⟩), (.string ⟨⟨[]⟩⟩)] [(0, 3, (.t 9)), (3, 3, (.t 14)), (6, 3, (.t 19))])⟩, ⟨none, none, [], (.store 9 (.t 4) (.t 20))⟩])
  .ret))
theorem tr104 : trFun Tryz.prog 104 = some ⟨21, [.cell 4 true 9], c104⟩ := by kernel_rfl
set_option maxHeartbeats 4000000 in
theorem ok_r5Less : SpecOK Tryz.prog 104 (flat spR5Less) := by
  refine flat_run (env_cons ok_r3Sub (env_nil _)) mixed tr104 ?_
  intro args v h N hG
  unfold spR5Less at hG
  split at hG
  case h_2 => cases hG
  rename_i s1 n1 d1 s2 n2 d2 s3 n3 d3 s4 n4 d4 s5 n5 d5 s6 n6 d6
  split at hG
  case isFalse => cases hG
  rename_i hl
  obtain ⟨hn1, hd1, hn2, hd2, hn3, hd3, hn4, hd4, hn5, hd5, hn6, hd6⟩ := hl
  cases hG
  refine ⟨rfl, by simp, ?_⟩
  have mn1 : n1.length ≤ 8589934592 := by omega
  have md1 : d1.length ≤ 8589934592 := by omega
  have me1 : d1.length + 1 ≤ 8589934592 := by omega
  have mn2 : n2.length ≤ 8589934592 := by omega
  have md2 : d2.length ≤ 8589934592 := by omega
  have me2 : d2.length + 1 ≤ 8589934592 := by omega
  have mn3 : n3.length ≤ 8589934592 := by omega
  have md3 : d3.length ≤ 8589934592 := by omega
  have me3 : d3.length + 1 ≤ 8589934592 := by omega
  have mn4 : n4.length ≤ 8589934592 := by omega
  have md4 : d4.length ≤ 8589934592 := by omega
  have me4 : d4.length + 1 ≤ 8589934592 := by omega
  have mn5 : n5.length ≤ 8589934592 := by omega
  have md5 : d5.length ≤ 8589934592 := by omega
  have me5 : d5.length + 1 ≤ 8589934592 := by omega
  have mn6 : n6.length ≤ 8589934592 := by omega
  have md6 : d6.length ≤ 8589934592 := by omega
  have me6 : d6.length + 1 ≤ 8589934592 := by omega
  simp only [c104, initT, List.zipIdx_cons, List.zipIdx_nil, List.map_cons, List.map_nil, Nat.reduceAdd]
  simp only [↓R0, R1, rdL, rdH, isCall, istep, ibin, vcells, fillI, setR, flat, okCell, isBase, List.set, List.drop, List.take, List.append, bnds, bhi, blo, srcOf, simprocAttr, -Int.reduceAbs, spR3Sub, rv_can, r3E, mn1, md1, me1, mn2, md2, me2, mn3, md3, me3, mn4, md4, me4, mn5, md5, me5, mn6, md6, me6, Fin, isEnd, resL, res1, iE, rE]
  exact ⟨_, rfl, rfl, fun k hk => by simp only [ne_nb hk, if_false]⟩
def spR5Minor : List Value → Option Value
  | [.agg ⟨[.bool s1, .string ⟨⟨n1⟩⟩, .string ⟨⟨d1⟩⟩, .bool s2, .string ⟨⟨n2⟩⟩, .string ⟨⟨d2⟩⟩, .bool s3, .string ⟨⟨n3⟩⟩, .string ⟨⟨d3⟩⟩]⟩, .agg ⟨[.bool s4, .string ⟨⟨n4⟩⟩, .string ⟨⟨d4⟩⟩, .bool s5, .string ⟨⟨n5⟩⟩, .string ⟨⟨d5⟩⟩, .bool s6, .string ⟨⟨n6⟩⟩, .string ⟨⟨d6⟩⟩]⟩, .int .i64 i, .int .i64 k] =>
    if n1.length ≤ 1073741824 ∧ d1.length ≤ 1073741824 ∧ n2.length ≤ 1073741824 ∧ d2.length ≤ 1073741824 ∧ n3.length ≤ 1073741824 ∧ d3.length ≤ 1073741824 ∧ n4.length ≤ 1073741824 ∧ d4.length ≤ 1073741824 ∧ n5.length ≤ 1073741824 ∧ d5.length ≤ 1073741824 ∧ n6.length ≤ 1073741824 ∧ d6.length ≤ 1073741824 then (if i = 1 ∧ k = 2 then some (.agg ⟨rE (rv s2 n2 d2 * rv s6 n6 d6 - rv s3 n3 d3 * rv s5 n5 d5)⟩) else if i = 2 ∧ k = 0 then some (.agg ⟨rE (rv s3 n3 d3 * rv s4 n4 d4 - rv s1 n1 d1 * rv s6 n6 d6)⟩) else if i = 0 ∧ k = 1 then some (.agg ⟨rE (rv s1 n1 d1 * rv s5 n5 d5 - rv s2 n2 d2 * rv s4 n4 d4)⟩) else none) else none
  | _ => none
def c132 : ICode :=
  (.seq (.reg [⟨(some 4), none, (.box 67 9 (.t 0))⟩, ⟨(some 5), none, (.box 67 9 (.t 1))⟩, ⟨(some 8), none, (.alloc 47 3 [(.bool false), (.string ⟨⟨[]⟩⟩), (.string ⟨⟨[]⟩⟩)])⟩])
  (.seq (.dreg [⟨(some 9), none, [], (.mv (.t 2))⟩, ⟨(some 10), none, [], (.ixarr 3 3 (.t 4) (.t 9))⟩, ⟨(some 11), none, [], (.load true 3 (.t 10))⟩, ⟨(some 12), none, [], (.mv (.t 3))⟩, ⟨(some 13), none, [], (.ixarr 3 3 (.t 5) (.t 12))⟩, ⟨(some 14), none, [], (.load true 3 (.t 13))⟩, ⟨(some 15), none, [], (.call 84 [(.t 11), (.t 14)])⟩, ⟨(some 16), none, [], (.mv (.t 3))⟩, ⟨(some 17), none, [], (.ixarr 3 3 (.t 4) (.t 16))⟩, ⟨(some 18), none, [6], (.load true 3 (.t 17))⟩, ⟨(some 19), none, [], (.mv (.t 2))⟩, ⟨(some 20), none, [], (.ixarr 3 3 (.t 5) (.t 19))⟩, ⟨(some 21), none, [6], (.load true 3 (.t 20))⟩, ⟨(some 22), none, [], (.call 84 [(.t 18), (.t 21)])⟩, ⟨(some 23), none, [], (.call 56 [(.t 15), (.t 22)])⟩, ⟨none, none, [], (.store 3 (.t 8) (.t 23))⟩])
  .ret))
theorem tr132 : trFun Tryz.prog 132 = some ⟨24, [.cell 8 true 3], c132⟩ := by kernel_rfl
set_option maxHeartbeats 4000000 in
theorem ok_r5Minor : SpecOK Tryz.prog 132 (flat spR5Minor) := by
  refine flat_run (env_cons ok_r3Mul (env_cons ok_r3Sub (env_nil _))) mixed tr132 ?_
  intro args v h N hG
  unfold spR5Minor at hG
  split at hG
  case h_2 => cases hG
  rename_i s1 n1 d1 s2 n2 d2 s3 n3 d3 s4 n4 d4 s5 n5 d5 s6 n6 d6 i k
  split at hG
  case isFalse => cases hG
  rename_i hl
  obtain ⟨hn1, hd1, hn2, hd2, hn3, hd3, hn4, hd4, hn5, hd5, hn6, hd6⟩ := hl
  have b1 := RB.raw (s := s1) hn1 hd1
  have mn1 : n1.length ≤ 8589934592 := by omega
  have md1 : d1.length ≤ 8589934592 := by omega
  have b2 := RB.raw (s := s2) hn2 hd2
  have mn2 : n2.length ≤ 8589934592 := by omega
  have md2 : d2.length ≤ 8589934592 := by omega
  have b3 := RB.raw (s := s3) hn3 hd3
  have mn3 : n3.length ≤ 8589934592 := by omega
  have md3 : d3.length ≤ 8589934592 := by omega
  have b4 := RB.raw (s := s4) hn4 hd4
  have mn4 : n4.length ≤ 8589934592 := by omega
  have md4 : d4.length ≤ 8589934592 := by omega
  have b5 := RB.raw (s := s5) hn5 hd5
  have mn5 : n5.length ≤ 8589934592 := by omega
  have md5 : d5.length ≤ 8589934592 := by omega
  have b6 := RB.raw (s := s6) hn6 hd6
  have mn6 : n6.length ≤ 8589934592 := by omega
  have md6 : d6.length ≤ 8589934592 := by omega
  by_cases h12 : i = 1 ∧ k = 2
  · rw [if_pos h12] at hG
    obtain ⟨rfl, rfl⟩ := h12
    cases hG
    refine ⟨rfl, by simp, ?_⟩
    have p0 := RB.mul (k := 2147483650) b2 b6 (by omega)
    have pn0 := p0.num (k := 8589934592) (by omega)
    have pd0 := p0.den (k := 8589934592) (by omega)
    have pe0 := p0.den' (k := 8589934592) (by omega)
    have p1 := RB.mul (k := 2147483650) b3 b5 (by omega)
    have pn1 := p1.num (k := 8589934592) (by omega)
    have pd1 := p1.den (k := 8589934592) (by omega)
    have pe1 := p1.den' (k := 8589934592) (by omega)
    simp only [c132, initT, List.zipIdx_cons, List.zipIdx_nil, List.map_cons, List.map_nil, Nat.reduceAdd]
    simp only [↓R0, R1, rdL, rdH, isCall, istep, ibin, vcells, fillI, setR, flat, okCell, isBase, List.set, List.drop, List.take, List.append, bnds, bhi, blo, srcOf, simprocAttr, -Int.reduceAbs, spR3Mul, spR3Sub, rv_can, mn1, md1, mn2, md2, mn3, md3, mn4, md4, mn5, md5, mn6, md6, pn0, pd0, pe0, pn1, pd1, pe1, Fin, isEnd, resL, res1, iE, rE]
    exact ⟨_, rfl, rfl, fun k hk => by simp only [ne_nb hk, if_false]⟩
  rw [if_neg h12] at hG
  by_cases h20 : i = 2 ∧ k = 0
  · rw [if_pos h20] at hG
    obtain ⟨rfl, rfl⟩ := h20
    cases hG
    refine ⟨rfl, by simp, ?_⟩
    have p0 := RB.mul (k := 2147483650) b3 b4 (by omega)
    have pn0 := p0.num (k := 8589934592) (by omega)
    have pd0 := p0.den (k := 8589934592) (by omega)
    have pe0 := p0.den' (k := 8589934592) (by omega)
    have p1 := RB.mul (k := 2147483650) b1 b6 (by omega)
    have pn1 := p1.num (k := 8589934592) (by omega)
    have pd1 := p1.den (k := 8589934592) (by omega)
    have pe1 := p1.den' (k := 8589934592) (by omega)
    simp only [c132, initT, List.zipIdx_cons, List.zipIdx_nil, List.map_cons, List.map_nil, Nat.reduceAdd]
    simp only [↓R0, R1, rdL, rdH, isCall, istep, ibin, vcells, fillI, setR, flat, okCell, isBase, List.set, List.drop, List.take, List.append, bnds, bhi, blo, srcOf, simprocAttr, -Int.reduceAbs, spR3Mul, spR3Sub, rv_can, mn1, md1, mn2, md2, mn3, md3, mn4, md4, mn5, md5, mn6, md6, pn0, pd0, pe0, pn1, pd1, pe1, Fin, isEnd, resL, res1, iE, rE]
    exact ⟨_, rfl, rfl, fun k hk => by simp only [ne_nb hk, if_false]⟩
  rw [if_neg h20] at hG
  by_cases h01 : i = 0 ∧ k = 1
  · rw [if_pos h01] at hG
    obtain ⟨rfl, rfl⟩ := h01
    cases hG
    refine ⟨rfl, by simp, ?_⟩
    have p0 := RB.mul (k := 2147483650) b1 b5 (by omega)
    have pn0 := p0.num (k := 8589934592) (by omega)
    have pd0 := p0.den (k := 8589934592) (by omega)
    have pe0 := p0.den' (k := 8589934592) (by omega)
    have p1 := RB.mul (k := 2147483650) b2 b4 (by omega)
    have pn1 := p1.num (k := 8589934592) (by omega)
    have pd1 := p1.den (k := 8589934592) (by omega)
    have pe1 := p1.den' (k := 8589934592) (by omega)
    simp only [c132, initT, List.zipIdx_cons, List.zipIdx_nil, List.map_cons, List.map_nil, Nat.reduceAdd]
    simp only [↓R0, R1, rdL, rdH, isCall, istep, ibin, vcells, fillI, setR, flat, okCell, isBase, List.set, List.drop, List.take, List.append, bnds, bhi, blo, srcOf, simprocAttr, -Int.reduceAbs, spR3Mul, spR3Sub, rv_can, mn1, md1, mn2, md2, mn3, md3, mn4, md4, mn5, md5, mn6, md6, pn0, pd0, pe0, pn1, pd1, pe1, Fin, isEnd, resL, res1, iE, rE]
    exact ⟨_, rfl, rfl, fun k hk => by simp only [ne_nb hk, if_false]⟩
  rw [if_neg h01] at hG
  cases hG
def spR5Across : List Value → Option Value
  | [.agg ⟨[.bool s1, .string ⟨⟨n1⟩⟩, .string ⟨⟨d1⟩⟩, .bool s2, .string ⟨⟨n2⟩⟩, .string ⟨⟨d2⟩⟩, .bool s3, .string ⟨⟨n3⟩⟩, .string ⟨⟨d3⟩⟩]⟩, .agg ⟨[.bool s4, .string ⟨⟨n4⟩⟩, .string ⟨⟨d4⟩⟩, .bool s5, .string ⟨⟨n5⟩⟩, .string ⟨⟨d5⟩⟩, .bool s6, .string ⟨⟨n6⟩⟩, .string ⟨⟨d6⟩⟩]⟩] =>
    if n1.length ≤ 1073741824 ∧ d1.length ≤ 1073741824 ∧ n2.length ≤ 1073741824 ∧ d2.length ≤ 1073741824 ∧ n3.length ≤ 1073741824 ∧ d3.length ≤ 1073741824 ∧ n4.length ≤ 1073741824 ∧ d4.length ≤ 1073741824 ∧ n5.length ≤ 1073741824 ∧ d5.length ≤ 1073741824 ∧ n6.length ≤ 1073741824 ∧ d6.length ≤ 1073741824 then some (.agg ⟨r3E (rv s2 n2 d2 * rv s6 n6 d6 - rv s3 n3 d3 * rv s5 n5 d5) (rv s3 n3 d3 * rv s4 n4 d4 - rv s1 n1 d1 * rv s6 n6 d6) (rv s1 n1 d1 * rv s5 n5 d5 - rv s2 n2 d2 * rv s4 n4 d4)⟩) else none
  | _ => none
def c103 : ICode :=
  (.seq (.reg [⟨(some 2), none, (.box 67 9 (.t 0))⟩, ⟨(some 3), none, (.box 67 9 (.t 1))⟩, ⟨(some 4), none, (.alloc 67 9 [(.bool false), (.string ⟨⟨[]⟩⟩), (.string ⟨⟨[]⟩⟩), (.bool false), (.string ⟨⟨[]⟩⟩), (.string ⟨⟨[]⟩⟩), (.bool false), (.string ⟨⟨[]⟩⟩), (.string ⟨⟨[]⟩⟩)])⟩])
  (.seq (.dreg [⟨(some 5), none, [], (.load true 9 (.t 2))⟩, ⟨(some 6), none, [], (.load true 9 (.t 3))⟩, ⟨(some 7), none, [], (.call 132 [(.t 5), (.t 6), (.c (.int .i64 1)), (.c (.int .i64 2))])⟩, ⟨(some 8), none, [2], (.load true 9 (.t 2))⟩, ⟨(some 9), none, [2], (.load true 9 (.t 3))⟩, ⟨(some 10), none, [], (.call 132 [(.t 8), (.t 9), (.c (.int .i64 2)), (.c (.int .i64 0))])⟩, ⟨(some 11), none, [2, 5], (.load true 9 (.t 2))⟩, ⟨(some 12), none, [2, 5], (.load true 9 (.t 3))⟩, ⟨(some 13), none, [], (.call 132 [(.t 11), (.t 12), (.c (.int .i64 0)), (.c (.int .i64 1))])⟩, ⟨(some 14), none, [], (.build [(.bool false), (.string ⟨⟨[]⟩⟩), (.string ⟨⟨[]⟩⟩), (.bool false), (.string ⟨⟨[]⟩⟩), (.string ⟨⟨[]⟩⟩), (.bool false), (.string ⟨⟨[]⟩⟩), (.string ⟨⟨[]⟩⟩)] [(0, 3, (.t 7)), (3, 3, (.t 10)), (6, 3, (.t 13))])⟩, ⟨none, none, [], (.store 9 (.t 4) (.t 14))⟩])
  .ret))
theorem tr103 : trFun Tryz.prog 103 = some ⟨15, [.cell 4 true 9], c103⟩ := by kernel_rfl
set_option maxHeartbeats 4000000 in
theorem ok_r5Across : SpecOK Tryz.prog 103 (flat spR5Across) := by
  refine flat_run (env_cons ok_r5Minor (env_nil _)) mixed tr103 ?_
  intro args v h N hG
  unfold spR5Across at hG
  split at hG
  case h_2 => cases hG
  rename_i s1 n1 d1 s2 n2 d2 s3 n3 d3 s4 n4 d4 s5 n5 d5 s6 n6 d6
  split at hG
  case isFalse => cases hG
  rename_i hl
  obtain ⟨hn1, hd1, hn2, hd2, hn3, hd3, hn4, hd4, hn5, hd5, hn6, hd6⟩ := hl
  cases hG
  refine ⟨rfl, by simp, ?_⟩
  simp only [c103, initT, List.zipIdx_cons, List.zipIdx_nil, List.map_cons, List.map_nil, Nat.reduceAdd]
  simp only [↓R0, R1, rdL, rdH, isCall, istep, ibin, vcells, fillI, setR, flat, okCell, isBase, List.set, List.drop, List.take, List.append, bnds, bhi, blo, srcOf, simprocAttr, -Int.reduceAbs, spR5Minor, r3E, hn1, hd1, hn2, hd2, hn3, hd3, hn4, hd4, hn5, hd5, hn6, hd6, Fin, isEnd, resL, res1, iE, rE]
  exact ⟨_, rfl, rfl, fun k hk => by simp only [ne_nb hk, if_false]⟩
def spR5Dot : List Value → Option Value
  | [.agg ⟨[.bool s1, .string ⟨⟨n1⟩⟩, .string ⟨⟨d1⟩⟩, .bool s2, .string ⟨⟨n2⟩⟩, .string ⟨⟨d2⟩⟩, .bool s3, .string ⟨⟨n3⟩⟩, .string ⟨⟨d3⟩⟩]⟩, .agg ⟨[.bool s4, .string ⟨⟨n4⟩⟩, .string ⟨⟨d4⟩⟩, .bool s5, .string ⟨⟨n5⟩⟩, .string ⟨⟨d5⟩⟩, .bool s6, .string ⟨⟨n6⟩⟩, .string ⟨⟨d6⟩⟩]⟩] =>
    if n1.length ≤ 1073741824 ∧ d1.length ≤ 1073741824 ∧ n2.length ≤ 1073741824 ∧ d2.length ≤ 1073741824 ∧ n3.length ≤ 1073741824 ∧ d3.length ≤ 1073741824 ∧ n4.length ≤ 1073741824 ∧ d4.length ≤ 1073741824 ∧ n5.length ≤ 1073741824 ∧ d5.length ≤ 1073741824 ∧ n6.length ≤ 1073741824 ∧ d6.length ≤ 1073741824 then some (.agg ⟨rE (rv s1 n1 d1 * rv s4 n4 d4 + rv s2 n2 d2 * rv s5 n5 d5 + rv s3 n3 d3 * rv s6 n6 d6)⟩) else none
  | _ => none
def c106 : ICode :=
  (.seq (.reg [⟨(some 2), none, (.box 67 9 (.t 0))⟩, ⟨(some 3), none, (.box 67 9 (.t 1))⟩, ⟨(some 4), none, (.alloc 47 3 [(.bool false), (.string ⟨⟨[]⟩⟩), (.string ⟨⟨[]⟩⟩)])⟩])
  (.seq (.reg [⟨(some 7), none, (.build [(.bool false), (.string ⟨⟨[]⟩⟩), (.string ⟨⟨[]⟩⟩)] [])⟩, ⟨(some 5), none, (.alloc 47 3 [(.bool false), (.string ⟨⟨[]⟩⟩), (.string ⟨⟨[]⟩⟩)])⟩, ⟨none, none, (.store 3 (.t 5) (.t 7))⟩])
  (.seq (.seq (.reg [⟨(some 6), none, (.mv (.c (.int .i64 0)))⟩])
  (.block 0 (.loop (.seq (.seq (.reg [⟨(some 8), none, (.mv (.t 6))⟩, ⟨(some 9), none, (.bin .lss (.t 8) (.c (.int .i64 3)))⟩])
  (.cond (.t 9)
  .skip
  (.exit 0)))
  (.seq (.block 1 (.dreg [⟨(some 12), none, [], (.load true 3 (.t 5))⟩, ⟨(some 13), none, [], (.mv (.t 6))⟩, ⟨(some 14), none, [], (.ixarr 3 3 (.t 2) (.t 13))⟩, ⟨(some 15), none, [], (.load true 3 (.t 14))⟩, ⟨(some 16), none, [], (.mv (.t 6))⟩, ⟨(some 17), none, [], (.ixarr 3 3 (.t 3) (.t 16))⟩, ⟨(some 18), none, [], (.load true 3 (.t 17))⟩, ⟨(some 19), none, [], (.call 84 [(.t 15), (.t 18)])⟩, ⟨(some 20), none, [], (.call 83 [(.t 12), (.t 19)])⟩, ⟨none, none, [], (.store 3 (.t 5) (.t 20))⟩]))
  (.reg [⟨(some 10), none, (.mv (.t 6))⟩, ⟨(some 11), none, (.bin .add (.t 10) (.c (.int .i64 1)))⟩, ⟨(some 6), none, (.mv (.t 11))⟩]))))))
  (.seq (.reg [⟨(some 21), none, (.load true 3 (.t 5))⟩, ⟨none, none, (.store 3 (.t 4) (.t 21))⟩])
  .ret))))
theorem tr106 : trFun Tryz.prog 106 = some ⟨22, [.cell 4 true 3], c106⟩ := by kernel_rfl
set_option maxHeartbeats 4000000 in
theorem ok_r5Dot : SpecOK Tryz.prog 106 (flat spR5Dot) := by
  refine flat_run (env_cons ok_r3Mul (env_cons ok_r3Add (env_nil _))) mixed tr106 ?_
  intro args v h N hG
  unfold spR5Dot at hG
  split at hG
  case h_2 => cases hG
  rename_i s1 n1 d1 s2 n2 d2 s3 n3 d3 s4 n4 d4 s5 n5 d5 s6 n6 d6
  split at hG
  case isFalse => cases hG
  rename_i hl
  obtain ⟨hn1, hd1, hn2, hd2, hn3, hd3, hn4, hd4, hn5, hd5, hn6, hd6⟩ := hl
  cases hG
  refine ⟨rfl, by simp, ?_⟩
  have b1 := RB.raw (s := s1) hn1 hd1
  have mn1 : n1.length ≤ 8589934592 := by omega
  have md1 : d1.length ≤ 8589934592 := by omega
  have b2 := RB.raw (s := s2) hn2 hd2
  have mn2 : n2.length ≤ 8589934592 := by omega
  have md2 : d2.length ≤ 8589934592 := by omega
  have b3 := RB.raw (s := s3) hn3 hd3
  have mn3 : n3.length ≤ 8589934592 := by omega
  have md3 : d3.length ≤ 8589934592 := by omega
  have b4 := RB.raw (s := s4) hn4 hd4
  have mn4 : n4.length ≤ 8589934592 := by omega
  have md4 : d4.length ≤ 8589934592 := by omega
  have b5 := RB.raw (s := s5) hn5 hd5
  have mn5 : n5.length ≤ 8589934592 := by omega
  have md5 : d5.length ≤ 8589934592 := by omega
  have b6 := RB.raw (s := s6) hn6 hd6
  have mn6 : n6.length ≤ 8589934592 := by omega
  have md6 : d6.length ≤ 8589934592 := by omega
  have p0 := RB.mul (k := 2147483650) b1 b4 (by omega)
  have pn0 := p0.num (k := 8589934592) (by omega)
  have pd0 := p0.den (k := 8589934592) (by omega)
  have p1 := RB.mul (k := 2147483650) b2 b5 (by omega)
  have pn1 := p1.num (k := 8589934592) (by omega)
  have pd1 := p1.den (k := 8589934592) (by omega)
  have p2 := RB.mul (k := 2147483650) b3 b6 (by omega)
  have pn2 := p2.num (k := 8589934592) (by omega)
  have pd2 := p2.den (k := 8589934592) (by omega)
  have q := RB.add (k := 8589934592) p0 p1 (by omega)
  have qn := q.num (k := 8589934592) (by omega)
  have qd := q.den (k := 8589934592) (by omega)
  have w1 : IntKind.i64.wrap 1 = 1 := i64_in _ (by omega)
  have w2 : IntKind.i64.wrap 2 = 2 := i64_in _ (by omega)
  have w3 : IntKind.i64.wrap 3 = 3 := i64_in _ (by omega)
  have z0 : rv false [] [] = 0 := rv_zero
  simp only [c106, initT, List.zipIdx_cons, List.zipIdx_nil, List.map_cons, List.map_nil, Nat.reduceAdd]
  simp only [↓R0, R1, rdL, rdH, isCall, istep, ibin, vcells, fillI, setR, flat, okCell, isBase, List.set, List.drop, List.take, List.append, bnds, bhi, blo, srcOf, simprocAttr, -Int.reduceAbs]
  refine lp_step ?_
  simp only [↓R0, R1, rdL, rdH, isCall, istep, ibin, vcells, fillI, setR, flat, okCell, isBase, List.set, List.drop, List.take, List.append, bnds, bhi, blo, srcOf, simprocAttr, -Int.reduceAbs, spR3Mul, spR3Add, rv_can, rE, mn1, md1, mn2, md2, mn3, md3, mn4, md4, mn5, md5, mn6, md6, pn0, pd0, pn1, pd1, pn2, pd2, qn, qd, w1, w2, w3, z0, Rat.zero_add, Nat.zero_le]
  refine lp_step ?_
  simp only [↓R0, R1, rdL, rdH, isCall, istep, ibin, vcells, fillI, setR, flat, okCell, isBase, List.set, List.drop, List.take, List.append, bnds, bhi, blo, srcOf, simprocAttr, -Int.reduceAbs, spR3Mul, spR3Add, rv_can, rE, mn1, md1, mn2, md2, mn3, md3, mn4, md4, mn5, md5, mn6, md6, pn0, pd0, pn1, pd1, pn2, pd2, qn, qd, w1, w2, w3, z0, Rat.zero_add, Nat.zero_le]
  refine lp_step ?_
  simp only [↓R0, R1, rdL, rdH, isCall, istep, ibin, vcells, fillI, setR, flat, okCell, isBase, List.set, List.drop, List.take, List.append, bnds, bhi, blo, srcOf, simprocAttr, -Int.reduceAbs, spR3Mul, spR3Add, rv_can, rE, mn1, md1, mn2, md2, mn3, md3, mn4, md4, mn5, md5, mn6, md6, pn0, pd0, pn1, pd1, pn2, pd2, qn, qd, w1, w2, w3, z0, Rat.zero_add, Nat.zero_le]
  refine lp_step ?_
  simp only [↓R0, R1, rdL, rdH, isCall, istep, ibin, vcells, fillI, setR, flat, okCell, isBase, List.set, List.drop, List.take, List.append, bnds, bhi, blo, srcOf, simprocAttr, -Int.reduceAbs, Fin, isEnd, resL, res1, iE, rE]
  exact ⟨_, rfl, rfl, fun k hk => by simp only [ne_nb hk, if_false]⟩
def mk5 (a b c d : Rat) : Option Value :=
  if mkO a a b c d = 0 ∧ mkO b a b c d = 0 ∧ mkO c a b c d = 0 then some (.tuple ⟨[.agg ⟨pZ⟩, .bool false]⟩)
  else some (.tuple ⟨[.agg ⟨lE (mkO a a b c d) (mkO b a b c d) (mkO c a b c d) (mkO d a b c d)⟩, .bool true]⟩)
def spR5Make : List Value → Option Value
  | [.agg ⟨[.bool s1, .string ⟨⟨n1⟩⟩, .string ⟨⟨d1⟩⟩, .bool s2, .string ⟨⟨n2⟩⟩, .string ⟨⟨d2⟩⟩, .bool s3, .string ⟨⟨n3⟩⟩, .string ⟨⟨d3⟩⟩]⟩, .agg ⟨[.bool s4, .string ⟨⟨n4⟩⟩, .string ⟨⟨d4⟩⟩]⟩] =>
    if n1.length ≤ 1073741824 ∧ d1.length ≤ 1073741824 ∧ n2.length ≤ 1073741824 ∧ d2.length ≤ 1073741824 ∧ n3.length ≤ 1073741824 ∧ d3.length ≤ 1073741824 ∧ n4.length ≤ 1073741824 ∧ d4.length ≤ 1073741824 then mk5 (rv s1 n1 d1) (rv s2 n2 d2) (rv s3 n3 d3) (rv s4 n4 d4) else none
  | _ => none
def c105 : ICode :=
  (.seq (.reg [⟨(some 2), none, (.box 67 9 (.t 0))⟩, ⟨(some 3), none, (.box 47 3 (.t 1))⟩, ⟨(some 4), none, (.alloc 25 8 [(.bool false), (.string ⟨⟨[]⟩⟩), (.bool false), (.string ⟨⟨[]⟩⟩), (.bool false), (.string ⟨⟨[]⟩⟩), (.bool false), (.string ⟨⟨[]⟩⟩)])⟩, ⟨(some 5), none, (.mv (.c (.bool false)))⟩])
  (.seq (.reg [⟨(some 18), none, (.ixarr 3 3 (.t 2) (.c (.int .i64 0)))⟩, ⟨(some 19), none, (.load true 3 (.t 18))⟩, ⟨(some 20), none, (.ixarr 3 3 (.t 2) (.c (.int .i64 1)))⟩, ⟨(some 21), none, (.load true 3 (.t 20))⟩, ⟨(some 22), none, (.ixarr 3 3 (.t 2) (.c (.int .i64 2)))⟩, ⟨(some 23), none, (.load true 3 (.t 22))⟩, ⟨(some 24), none, (.load true 3 (.t 3))⟩, ⟨(some 25), none, (.bslice 47 3 4 [(.bool false), (.string ⟨⟨[]⟩⟩), (.string ⟨⟨[]⟩⟩), (.bool false), (.string ⟨⟨[]⟩⟩), (.string ⟨⟨[]⟩⟩), (.bool false), (.string ⟨⟨[]⟩⟩), (.string ⟨⟨[]⟩⟩), (.bool false), (.string ⟨⟨[]⟩⟩), (.string ⟨⟨[]⟩⟩)] [(0, 3, (.t 19)), (3, 3, (.t 21)), (6, 3, (.t 23)), (9, 3, (.t 24))])⟩, ⟨(some 6), none, (.mv (.t 25))⟩])
  (.seq (.reg [⟨(some 26), none, (.call 48 [(.c (.int .i64 1))])⟩, ⟨(some 7), none, (.alloc 23 2 [(.bool false), (.string ⟨⟨[]⟩⟩)])⟩, ⟨none, none, (.store 2 (.t 7) (.t 26))⟩])
  (.seq (.seq (.reg [⟨(some 8), none, (.mv (.c (.int .i64 0)))⟩])
  (.block 0 (.loop (.seq (.seq (.reg [⟨(some 27), none, (.mv (.t 8))⟩, ⟨(some 28), none, (.bin .lss (.t 27) (.c (.int .i64 4)))⟩])
  (.cond (.t 28)
  .skip
  (.exit 0)))
  (.seq (.block 1 (.seq (.reg [⟨(some 32), none, (.mv (.t 6))⟩, ⟨(some 33), none, (.mv (.t 8))⟩, ⟨(some 34), none, (.ixsl 3 (.t 32) (.t 33))⟩, ⟨(some 35), none, (.load true 3 (.t 34))⟩, ⟨(some 36), none, (.call 89 [(.t 35)])⟩, ⟨(some 31), none, (.mv (.t 36))⟩, ⟨(some 37), none, (.ext (.t 31) 0)⟩, ⟨(some 38), none, (.ext (.t 31) 1)⟩, ⟨(some 9), none, (.alloc 23 2 [(.bool false), (.string ⟨⟨[]⟩⟩)])⟩, ⟨(some 10), none, (.alloc 23 2 [(.bool false), (.string ⟨⟨[]⟩⟩)])⟩, ⟨none, none, (.store 2 (.t 9) (.t 37))⟩, ⟨none, none, (.store 2 (.t 10) (.t 38))⟩])
  (.reg [⟨(some 39), none, (.load true 2 (.t 7))⟩, ⟨(some 40), none, (.load true 2 (.t 10))⟩, ⟨(some 41), none, (.call 87 [(.t 39), (.t 40)])⟩, ⟨none, none, (.store 2 (.t 7) (.t 41))⟩])))
  (.reg [⟨(some 29), none, (.mv (.t 8))⟩, ⟨(some 30), none, (.bin .add (.t 29) (.c (.int .i64 1)))⟩, ⟨(some 8), none, (.mv (.t 30))⟩]))))))
  (.seq (.reg [⟨(some 11), none, (.alloc 108 8 [(.bool false), (.string ⟨⟨[]⟩⟩), (.bool false), (.string ⟨⟨[]⟩⟩), (.bool false), (.string ⟨⟨[]⟩⟩), (.bool false), (.string ⟨⟨[]⟩⟩)])⟩])
  (.seq (.seq (.reg [⟨(some 12), none, (.mv (.c (.int .i64 0)))⟩])
  (.block 2 (.loop (.seq (.seq (.reg [⟨(some 42), none, (.mv (.t 12))⟩, ⟨(some 43), none, (.bin .lss (.t 42) (.c (.int .i64 4)))⟩])
  (.cond (.t 43)
  .skip
  (.exit 2)))
  (.seq (.block 3 (.seq (.reg [⟨(some 47), none, (.mv (.t 6))⟩, ⟨(some 48), none, (.mv (.t 12))⟩, ⟨(some 49), none, (.ixsl 3 (.t 47) (.t 48))⟩, ⟨(some 50), none, (.load true 3 (.t 49))⟩, ⟨(some 51), none, (.call 89 [(.t 50)])⟩, ⟨(some 46), none, (.mv (.t 51))⟩, ⟨(some 52), none, (.ext (.t 46) 0)⟩, ⟨(some 53), none, (.ext (.t 46) 1)⟩, ⟨(some 13), none, (.alloc 23 2 [(.bool false), (.string ⟨⟨[]⟩⟩)])⟩, ⟨(some 14), none, (.alloc 23 2 [(.bool false), (.string ⟨⟨[]⟩⟩)])⟩, ⟨none, none, (.store 2 (.t 13) (.t 52))⟩, ⟨none, none, (.store 2 (.t 14) (.t 53))⟩])
  (.seq (.reg [⟨(some 55), none, (.load true 2 (.t 7))⟩, ⟨(some 56), none, (.load true 2 (.t 14))⟩, ⟨(some 57), none, (.call 51 [(.t 55), (.t 56)])⟩, ⟨(some 54), none, (.mv (.t 57))⟩, ⟨(some 58), none, (.ext (.t 54) 0)⟩, ⟨(some 59), none, (.ext (.t 54) 1)⟩, ⟨(some 60), none, (.ext (.t 54) 2)⟩, ⟨(some 15), none, (.alloc 23 2 [(.bool false), (.string ⟨⟨[]⟩⟩)])⟩, ⟨(some 16), none, (.alloc 23 2 [(.bool false), (.string ⟨⟨[]⟩⟩)])⟩, ⟨none, none, (.store 2 (.t 15) (.t 58))⟩, ⟨none, none, (.store 2 (.t 16) (.t 59))⟩, ⟨(some 17), none, (.mv (.t 60))⟩])
  (.reg [⟨(some 61), none, (.mv (.t 12))⟩, ⟨(some 62), none, (.load true 2 (.t 13))⟩, ⟨(some 63), none, (.load true 2 (.t 15))⟩, ⟨(some 64), none, (.call 87 [(.t 62), (.t 63)])⟩, ⟨(some 65), none, (.ixarr 4 2 (.t 11) (.t 61))⟩, ⟨none, none, (.store 2 (.t 65) (.t 64))⟩]))))
  (.reg [⟨(some 44), none, (.mv (.t 12))⟩, ⟨(some 45), none, (.bin .add (.t 44) (.c (.int .i64 1)))⟩, ⟨(some 12), none, (.mv (.t 45))⟩]))))))
  (.seq (.reg [⟨(some 66), none, (.ixarr 4 2 (.t 11) (.c (.int .i64 0)))⟩, ⟨(some 67), none, (.load true 2 (.t 66))⟩, ⟨(some 68), none, (.ixarr 4 2 (.t 11) (.c (.int .i64 1)))⟩, ⟨(some 69), none, (.load true 2 (.t 68))⟩, ⟨(some 70), none, (.ixarr 4 2 (.t 11) (.c (.int .i64 2)))⟩, ⟨(some 71), none, (.load true 2 (.t 70))⟩, ⟨(some 72), none, (.ixarr 4 2 (.t 11) (.c (.int .i64 3)))⟩, ⟨(some 73), none, (.load true 2 (.t 72))⟩, ⟨(some 74), none, (.build [(.bool false), (.string ⟨⟨[]⟩⟩), (.bool false), (.string ⟨⟨[]⟩⟩), (.bool false), (.string ⟨⟨[]⟩⟩), (.bool false), (.string ⟨⟨[]⟩⟩)] [(0, 2, (.t 67)), (2, 2, (.t 69)), (4, 2, (.t 71)), (6, 2, (.t 73))])⟩, ⟨(some 75), none, (.call 29 [(.t 74)])⟩, ⟨(some 76), none, (.ext (.t 75) 0)⟩, ⟨(some 77), none, (.ext (.t 75) 1)⟩, ⟨none, none, (.store 8 (.t 4) (.t 76))⟩, ⟨(some 5), none, (.mv (.t 77))⟩])
  .ret)))))))
theorem tr105 : trFun Tryz.prog 105 = some ⟨78, [.cell 4 true 8, .t 5], c105⟩ := by kernel_rfl
set_option maxHeartbeats 4000000 in
theorem ok_r5Make : SpecOK Tryz.prog 105 (flat spR5Make) := by
  refine flat_run (env_cons ok_r2From (env_cons ok_r3Parts (env_cons ok_r2Mul (env_cons ok_r2Div (env_cons ok_r5Norm (env_nil _)))))) mixed tr105 ?_
  intro args v h N hG
  unfold spR5Make at hG
  split at hG
  case h_2 => cases hG
  rename_i s1 n1 d1 s2 n2 d2 s3 n3 d3 s4 n4 d4
  split at hG
  case isFalse => cases hG
  rename_i hl
  obtain ⟨hn1, hd1, hn2, hd2, hn3, hd3, hn4, hd4⟩ := hl
  have b1 := RB.raw (s := s1) hn1 hd1
  have mn1 : n1.length ≤ 34359738368 := by omega
  have md1 : d1.length ≤ 34359738368 := by omega
  obtain ⟨x1, ex1⟩ : ∃ x, rv s1 n1 d1 = x := ⟨_, rfl⟩
  rw [ex1] at b1 hG
  have u1 := b1.1
  have v1 : (bl ((x1.den : Int)).natAbs).length ≤ 1073741825 := b1.2
  have dp1 : 0 < (x1.den : Int) := by have := x1.den_pos; omega
  have b2 := RB.raw (s := s2) hn2 hd2
  have mn2 : n2.length ≤ 34359738368 := by omega
  have md2 : d2.length ≤ 34359738368 := by omega
  obtain ⟨x2, ex2⟩ : ∃ x, rv s2 n2 d2 = x := ⟨_, rfl⟩
  rw [ex2] at b2 hG
  have u2 := b2.1
  have v2 : (bl ((x2.den : Int)).natAbs).length ≤ 1073741825 := b2.2
  have dp2 : 0 < (x2.den : Int) := by have := x2.den_pos; omega
  have b3 := RB.raw (s := s3) hn3 hd3
  have mn3 : n3.length ≤ 34359738368 := by omega
  have md3 : d3.length ≤ 34359738368 := by omega
  obtain ⟨x3, ex3⟩ : ∃ x, rv s3 n3 d3 = x := ⟨_, rfl⟩
  rw [ex3] at b3 hG
  have u3 := b3.1
  have v3 : (bl ((x3.den : Int)).natAbs).length ≤ 1073741825 := b3.2
  have dp3 : 0 < (x3.den : Int) := by have := x3.den_pos; omega
  have b4 := RB.raw (s := s4) hn4 hd4
  have mn4 : n4.length ≤ 34359738368 := by omega
  have md4 : d4.length ≤ 34359738368 := by omega
  obtain ⟨x4, ex4⟩ : ∃ x, rv s4 n4 d4 = x := ⟨_, rfl⟩
  rw [ex4] at b4 hG
  have u4 := b4.1
  have v4 : (bl ((x4.den : Int)).natAbs).length ≤ 1073741825 := b4.2
  have dp4 : 0 < (x4.den : Int) := by have := x4.den_pos; omega
  unfold mk5 mkO at hG
  obtain ⟨D1, eD1⟩ : ∃ z, (x1.den : Int) = z := ⟨_, rfl⟩
  obtain ⟨U1, eU1⟩ : ∃ z, x1.num = z := ⟨_, rfl⟩
  rw [eD1] at v1 dp1 hG
  rw [eU1] at u1 hG
  have dz1 : ¬ (D1.natAbs = 0) := by omega
  obtain ⟨D2, eD2⟩ : ∃ z, (x2.den : Int) = z := ⟨_, rfl⟩
  obtain ⟨U2, eU2⟩ : ∃ z, x2.num = z := ⟨_, rfl⟩
  rw [eD2] at v2 dp2 hG
  rw [eU2] at u2 hG
  have dz2 : ¬ (D2.natAbs = 0) := by omega
  obtain ⟨D3, eD3⟩ : ∃ z, (x3.den : Int) = z := ⟨_, rfl⟩
  obtain ⟨U3, eU3⟩ : ∃ z, x3.num = z := ⟨_, rfl⟩
  rw [eD3] at v3 dp3 hG
  rw [eU3] at u3 hG
  have dz3 : ¬ (D3.natAbs = 0) := by omega
  obtain ⟨D4, eD4⟩ : ∃ z, (x4.den : Int) = z := ⟨_, rfl⟩
  obtain ⟨U4, eU4⟩ : ∃ z, x4.num = z := ⟨_, rfl⟩
  rw [eD4] at v4 dp4 hG
  rw [eU4] at u4 hG
  have dz4 : ¬ (D4.natAbs = 0) := by omega
  have P2 := lmul (k := 2147483650) v1 v2 (by omega)
  have P3 := lmul (k := 3221225475) P2 v3 (by omega)
  have P4 := lmul (k := 4294967300) P3 v4 (by omega)
  obtain ⟨Q2, eQ2⟩ : ∃ z, D1 * D2 = z := ⟨_, rfl⟩
  rw [eQ2] at P2 P3 P4 hG
  obtain ⟨Q3, eQ3⟩ : ∃ z, Q2 * D3 = z := ⟨_, rfl⟩
  rw [eQ3] at P3 P4 hG
  obtain ⟨Q4, eQ4⟩ : ∃ z, Q3 * D4 = z := ⟨_, rfl⟩
  rw [eQ4] at P4 hG
  have Q4l := lle (k := 68719476736) P4 (by omega)
  have l0 : (bl (Int.natAbs 1)).length ≤ 1 := bl_length_le (k := 1).2 (by decide)
  have o1 : sv false (bl (Int.natAbs 1)) = 1 := by rw [sv_false, nl_bl]; rfl
  have k1 : (bl (Int.natAbs 1)).length + (bl D1.natAbs).length ≤ 274877906944 := by omega
  have k2 : (bl D1.natAbs).length + (bl D2.natAbs).length ≤ 274877906944 := by omega
  have k3 : (bl Q2.natAbs).length + (bl D3.natAbs).length ≤ 274877906944 := by omega
  have k4 : (bl Q3.natAbs).length + (bl D4.natAbs).length ≤ 274877906944 := by omega
  have g1 : (bl (Q4 / D1).natAbs).length ≤ 4294967300 := Nat.le_trans (bl_length_mono (Int.natAbs_ediv_le_natAbs _ _)) P4
  have j1 : (bl D1.natAbs).length ≤ 68719476736 := by omega
  have t1 : (bl U1.natAbs).length + (bl (Q4 / D1).natAbs).length ≤ 274877906944 := by omega
  have O1 := lmul (k := 68719476736) u1 g1 (by omega)
  have g2 : (bl (Q4 / D2).natAbs).length ≤ 4294967300 := Nat.le_trans (bl_length_mono (Int.natAbs_ediv_le_natAbs _ _)) P4
  have j2 : (bl D2.natAbs).length ≤ 68719476736 := by omega
  have t2 : (bl U2.natAbs).length + (bl (Q4 / D2).natAbs).length ≤ 274877906944 := by omega
  have O2 := lmul (k := 68719476736) u2 g2 (by omega)
  have g3 : (bl (Q4 / D3).natAbs).length ≤ 4294967300 := Nat.le_trans (bl_length_mono (Int.natAbs_ediv_le_natAbs _ _)) P4
  have j3 : (bl D3.natAbs).length ≤ 68719476736 := by omega
  have t3 : (bl U3.natAbs).length + (bl (Q4 / D3).natAbs).length ≤ 274877906944 := by omega
  have O3 := lmul (k := 68719476736) u3 g3 (by omega)
  have g4 : (bl (Q4 / D4).natAbs).length ≤ 4294967300 := Nat.le_trans (bl_length_mono (Int.natAbs_ediv_le_natAbs _ _)) P4
  have j4 : (bl D4.natAbs).length ≤ 68719476736 := by omega
  have t4 : (bl U4.natAbs).length + (bl (Q4 / D4).natAbs).length ≤ 274877906944 := by omega
  have O4 := lmul (k := 68719476736) u4 g4 (by omega)
  have w1 : IntKind.i64.wrap 1 = 1 := i64_in _ (by omega)
  have w2 : IntKind.i64.wrap 2 = 2 := i64_in _ (by omega)
  have w3 : IntKind.i64.wrap 3 = 3 := i64_in _ (by omega)
  have w4 : IntKind.i64.wrap 4 = 4 := i64_in _ (by omega)
  clear v1 v2 v3 v4 P2 P3 P4 u1 u2 u3 u4 g1 g2 g3 g4 l0 b1 b2 b3 b4 dp1 dp2 dp3 dp4
  by_cases h0 : U1 * (Q4 / D1) = 0 ∧ U2 * (Q4 / D2) = 0 ∧ U3 * (Q4 / D3) = 0
  · rw [if_pos h0] at hG
    have hh := eq_true h0
    cases hG
    refine ⟨rfl, by simp, ?_⟩
    simp only [c105, initT, List.zipIdx_cons, List.zipIdx_nil, List.map_cons, List.map_nil, Nat.reduceAdd]
    simp only [↓R0, R1, rdL, rdH, isCall, istep, ibin, vcells, fillI, setR, flat, okCell, isBase, List.set, List.drop, List.take, List.append, bnds, bhi, blo, srcOf, simprocAttr, -Int.reduceAbs, spI2From, spR3Parts, spI2Mul, spI2Div, nl_bl, iE, mn1, md1, ex1, mn2, md2, ex2, mn3, md3, ex3, mn4, md4, ex4, eD1, eU1, dz1, eD2, eU2, dz2, eD3, eU3, dz3, eD4, eU4, dz4, eQ2, eQ3, eQ4, Q4l, o1, Int.one_mul, k1, k2, k3, k4, j1, t1, j2, t2, j3, t3, j4, t4, w1, w2, w3, w4]
    refine lp_step ?_
    simp only [↓R0, R1, rdL, rdH, isCall, istep, ibin, vcells, fillI, setR, flat, okCell, isBase, List.set, List.drop, List.take, List.append, bnds, bhi, blo, srcOf, simprocAttr, -Int.reduceAbs, spI2From, spR3Parts, spI2Mul, spI2Div, nl_bl, iE, mn1, md1, ex1, mn2, md2, ex2, mn3, md3, ex3, mn4, md4, ex4, eD1, eU1, dz1, eD2, eU2, dz2, eD3, eU3, dz3, eD4, eU4, dz4, eQ2, eQ3, eQ4, Q4l, o1, Int.one_mul, k1, k2, k3, k4, j1, t1, j2, t2, j3, t3, j4, t4, w1, w2, w3, w4]
    refine lp_step ?_
    simp only [↓R0, R1, rdL, rdH, isCall, istep, ibin, vcells, fillI, setR, flat, okCell, isBase, List.set, List.drop, List.take, List.append, bnds, bhi, blo, srcOf, simprocAttr, -Int.reduceAbs, spI2From, spR3Parts, spI2Mul, spI2Div, nl_bl, iE, mn1, md1, ex1, mn2, md2, ex2, mn3, md3, ex3, mn4, md4, ex4, eD1, eU1, dz1, eD2, eU2, dz2, eD3, eU3, dz3, eD4, eU4, dz4, eQ2, eQ3, eQ4, Q4l, o1, Int.one_mul, k1, k2, k3, k4, j1, t1, j2, t2, j3, t3, j4, t4, w1, w2, w3, w4]
    refine lp_step ?_
    simp only [↓R0, R1, rdL, rdH, isCall, istep, ibin, vcells, fillI, setR, flat, okCell, isBase, List.set, List.drop, List.take, List.append, bnds, bhi, blo, srcOf, simprocAttr, -Int.reduceAbs, spI2From, spR3Parts, spI2Mul, spI2Div, nl_bl, iE, mn1, md1, ex1, mn2, md2, ex2, mn3, md3, ex3, mn4, md4, ex4, eD1, eU1, dz1, eD2, eU2, dz2, eD3, eU3, dz3, eD4, eU4, dz4, eQ2, eQ3, eQ4, Q4l, o1, Int.one_mul, k1, k2, k3, k4, j1, t1, j2, t2, j3, t3, j4, t4, w1, w2, w3, w4]
    refine lp_step ?_
    simp only [↓R0, R1, rdL, rdH, isCall, istep, ibin, vcells, fillI, setR, flat, okCell, isBase, List.set, List.drop, List.take, List.append, bnds, bhi, blo, srcOf, simprocAttr, -Int.reduceAbs, spI2From, spR3Parts, spI2Mul, spI2Div, nl_bl, iE, mn1, md1, ex1, mn2, md2, ex2, mn3, md3, ex3, mn4, md4, ex4, eD1, eU1, dz1, eD2, eU2, dz2, eD3, eU3, dz3, eD4, eU4, dz4, eQ2, eQ3, eQ4, Q4l, o1, Int.one_mul, k1, k2, k3, k4, j1, t1, j2, t2, j3, t3, j4, t4, w1, w2, w3, w4]
    refine lp_step ?_
    simp only [↓R0, R1, rdL, rdH, isCall, istep, ibin, vcells, fillI, setR, flat, okCell, isBase, List.set, List.drop, List.take, List.append, bnds, bhi, blo, srcOf, simprocAttr, -Int.reduceAbs, spI2From, spR3Parts, spI2Mul, spI2Div, nl_bl, iE, mn1, md1, ex1, mn2, md2, ex2, mn3, md3, ex3, mn4, md4, ex4, eD1, eU1, dz1, eD2, eU2, dz2, eD3, eU3, dz3, eD4, eU4, dz4, eQ2, eQ3, eQ4, Q4l, o1, Int.one_mul, k1, k2, k3, k4, j1, t1, j2, t2, j3, t3, j4, t4, w1, w2, w3, w4]
    refine lp_step ?_
    simp only [↓R0, R1, rdL, rdH, isCall, istep, ibin, vcells, fillI, setR, flat, okCell, isBase, List.set, List.drop, List.take, List.append, bnds, bhi, blo, srcOf, simprocAttr, -Int.reduceAbs, spI2From, spR3Parts, spI2Mul, spI2Div, nl_bl, iE, mn1, md1, ex1, mn2, md2, ex2, mn3, md3, ex3, mn4, md4, ex4, eD1, eU1, dz1, eD2, eU2, dz2, eD3, eU3, dz3, eD4, eU4, dz4, eQ2, eQ3, eQ4, Q4l, o1, Int.one_mul, k1, k2, k3, k4, j1, t1, j2, t2, j3, t3, j4, t4, w1, w2, w3, w4]
    refine lp_step ?_
    simp only [↓R0, R1, rdL, rdH, isCall, istep, ibin, vcells, fillI, setR, flat, okCell, isBase, List.set, List.drop, List.take, List.append, bnds, bhi, blo, srcOf, simprocAttr, -Int.reduceAbs, spI2From, spR3Parts, spI2Mul, spI2Div, nl_bl, iE, mn1, md1, ex1, mn2, md2, ex2, mn3, md3, ex3, mn4, md4, ex4, eD1, eU1, dz1, eD2, eU2, dz2, eD3, eU3, dz3, eD4, eU4, dz4, eQ2, eQ3, eQ4, Q4l, o1, Int.one_mul, k1, k2, k3, k4, j1, t1, j2, t2, j3, t3, j4, t4, w1, w2, w3, w4]
    refine lp_step ?_
    simp only [↓R0, R1, rdL, rdH, isCall, istep, ibin, vcells, fillI, setR, flat, okCell, isBase, List.set, List.drop, List.take, List.append, bnds, bhi, blo, srcOf, simprocAttr, -Int.reduceAbs, spI2From, spR3Parts, spI2Mul, spI2Div, nl_bl, iE, mn1, md1, ex1, mn2, md2, ex2, mn3, md3, ex3, mn4, md4, ex4, eD1, eU1, dz1, eD2, eU2, dz2, eD3, eU3, dz3, eD4, eU4, dz4, eQ2, eQ3, eQ4, Q4l, o1, Int.one_mul, k1, k2, k3, k4, j1, t1, j2, t2, j3, t3, j4, t4, w1, w2, w3, w4]
    refine lp_step ?_
    simp only [↓R0, R1, rdL, rdH, isCall, istep, ibin, vcells, fillI, setR, flat, okCell, isBase, List.set, List.drop, List.take, List.append, bnds, bhi, blo, srcOf, simprocAttr, -Int.reduceAbs, spI2From, spR3Parts, spI2Mul, spI2Div, nl_bl, iE, mn1, md1, ex1, mn2, md2, ex2, mn3, md3, ex3, mn4, md4, ex4, eD1, eU1, dz1, eD2, eU2, dz2, eD3, eU3, dz3, eD4, eU4, dz4, eQ2, eQ3, eQ4, Q4l, o1, Int.one_mul, k1, k2, k3, k4, j1, t1, j2, t2, j3, t3, j4, t4, w1, w2, w3, w4]
    refine lp_step ?_
    simp only [↓R0, R1, rdL, rdH, isCall, istep, ibin, vcells, fillI, setR, flat, okCell, isBase, List.set, List.drop, List.take, List.append, bnds, bhi, blo, srcOf, simprocAttr, -Int.reduceAbs, spR5Norm, O1, O2, O3, O4, hh, pZ, Fin, isEnd, resL, res1, iE, rE]
    exact ⟨_, rfl, rfl, fun k hk => by simp only [ne_nb hk, if_false]⟩
  · rw [if_neg h0] at hG
    have hh := eq_false h0
    cases hG
    refine ⟨rfl, by simp, ?_⟩
    simp only [c105, initT, List.zipIdx_cons, List.zipIdx_nil, List.map_cons, List.map_nil, Nat.reduceAdd]
    simp only [↓R0, R1, rdL, rdH, isCall, istep, ibin, vcells, fillI, setR, flat, okCell, isBase, List.set, List.drop, List.take, List.append, bnds, bhi, blo, srcOf, simprocAttr, -Int.reduceAbs, spI2From, spR3Parts, spI2Mul, spI2Div, nl_bl, iE, mn1, md1, ex1, mn2, md2, ex2, mn3, md3, ex3, mn4, md4, ex4, eD1, eU1, dz1, eD2, eU2, dz2, eD3, eU3, dz3, eD4, eU4, dz4, eQ2, eQ3, eQ4, Q4l, o1, Int.one_mul, k1, k2, k3, k4, j1, t1, j2, t2, j3, t3, j4, t4, w1, w2, w3, w4]
    refine lp_step ?_
    simp only [↓R0, R1, rdL, rdH, isCall, istep, ibin, vcells, fillI, setR, flat, okCell, isBase, List.set, List.drop, List.take, List.append, bnds, bhi, blo, srcOf, simprocAttr, -Int.reduceAbs, spI2From, spR3Parts, spI2Mul, spI2Div, nl_bl, iE, mn1, md1, ex1, mn2, md2, ex2, mn3, md3, ex3, mn4, md4, ex4, eD1, eU1, dz1, eD2, eU2, dz2, eD3, eU3, dz3, eD4, eU4, dz4, eQ2, eQ3, eQ4, Q4l, o1, Int.one_mul, k1, k2, k3, k4, j1, t1, j2, t2, j3, t3, j4, t4, w1, w2, w3, w4]
    refine lp_step ?_
    simp only [↓R0, R1, rdL, rdH, isCall, istep, ibin, vcells, fillI, setR, flat, okCell, isBase, List.set, List.drop, List.take, List.append, bnds, bhi, blo, srcOf, simprocAttr, -Int.reduceAbs, spI2From, spR3Parts, spI2Mul, spI2Div, nl_bl, iE, mn1, md1, ex1, mn2, md2, ex2, mn3, md3, ex3, mn4, md4, ex4, eD1, eU1, dz1, eD2, eU2, dz2, eD3, eU3, dz3, eD4, eU4, dz4, eQ2, eQ3, eQ4, Q4l, o1, Int.one_mul, k1, k2, k3, k4, j1, t1, j2, t2, j3, t3, j4, t4, w1, w2, w3, w4]
    refine lp_step ?_
    simp only [↓R0, R1, rdL, rdH, isCall, istep, ibin, vcells, fillI, setR, flat, okCell, isBase, List.set, List.drop, List.take, List.append, bnds, bhi, blo, srcOf, simprocAttr, -Int.reduceAbs, spI2From, spR3Parts, spI2Mul, spI2Div, nl_bl, iE, mn1, md1, ex1, mn2, md2, ex2, mn3, md3, ex3, mn4, md4, ex4, eD1, eU1, dz1, eD2, eU2, dz2, eD3, eU3, dz3, eD4, eU4, dz4, eQ2, eQ3, eQ4, Q4l, o1, Int.one_mul, k1, k2, k3, k4, j1, t1, j2, t2, j3, t3, j4, t4, w1, w2, w3, w4]
    refine lp_step ?_
    simp only [↓R0, R1, rdL, rdH, isCall, istep, ibin, vcells, fillI, setR, flat, okCell, isBase, List.set, List.drop, List.take, List.append, bnds, bhi, blo, srcOf, simprocAttr, -Int.reduceAbs, spI2From, spR3Parts, spI2Mul, spI2Div, nl_bl, iE, mn1, md1, ex1, mn2, md2, ex2, mn3, md3, ex3, mn4, md4, ex4, eD1, eU1, dz1, eD2, eU2, dz2, eD3, eU3, dz3, eD4, eU4, dz4, eQ2, eQ3, eQ4, Q4l, o1, Int.one_mul, k1, k2, k3, k4, j1, t1, j2, t2, j3, t3, j4, t4, w1, w2, w3, w4]
    refine lp_step ?_
    simp only [↓R0, R1, rdL, rdH, isCall, istep, ibin, vcells, fillI, setR, flat, okCell, isBase, List.set, List.drop, List.take, List.append, bnds, bhi, blo, srcOf, simprocAttr, -Int.reduceAbs, spI2From, spR3Parts, spI2Mul, spI2Div, nl_bl, iE, mn1, md1, ex1, mn2, md2, ex2, mn3, md3, ex3, mn4, md4, ex4, eD1, eU1, dz1, eD2, eU2, dz2, eD3, eU3, dz3, eD4, eU4, dz4, eQ2, eQ3, eQ4, Q4l, o1, Int.one_mul, k1, k2, k3, k4, j1, t1, j2, t2, j3, t3, j4, t4, w1, w2, w3, w4]
    refine lp_step ?_
    simp only [↓R0, R1, rdL, rdH, isCall, istep, ibin, vcells, fillI, setR, flat, okCell, isBase, List.set, List.drop, List.take, List.append, bnds, bhi, blo, srcOf, simprocAttr, -Int.reduceAbs, spI2From, spR3Parts, spI2Mul, spI2Div, nl_bl, iE, mn1, md1, ex1, mn2, md2, ex2, mn3, md3, ex3, mn4, md4, ex4, eD1, eU1, dz1, eD2, eU2, dz2, eD3, eU3, dz3, eD4, eU4, dz4, eQ2, eQ3, eQ4, Q4l, o1, Int.one_mul, k1, k2, k3, k4, j1, t1, j2, t2, j3, t3, j4, t4, w1, w2, w3, w4]
    refine lp_step ?_
    simp only [↓R0, R1, rdL, rdH, isCall, istep, ibin, vcells, fillI, setR, flat, okCell, isBase, List.set, List.drop, List.take, List.append, bnds, bhi, blo, srcOf, simprocAttr, -Int.reduceAbs, spI2From, spR3Parts, spI2Mul, spI2Div, nl_bl, iE, mn1, md1, ex1, mn2, md2, ex2, mn3, md3, ex3, mn4, md4, ex4, eD1, eU1, dz1, eD2, eU2, dz2, eD3, eU3, dz3, eD4, eU4, dz4, eQ2, eQ3, eQ4, Q4l, o1, Int.one_mul, k1, k2, k3, k4, j1, t1, j2, t2, j3, t3, j4, t4, w1, w2, w3, w4]
    refine lp_step ?_
    simp only [↓R0, R1, rdL, rdH, isCall, istep, ibin, vcells, fillI, setR, flat, okCell, isBase, List.set, List.drop, List.take, List.append, bnds, bhi, blo, srcOf, simprocAttr, -Int.reduceAbs, spI2From, spR3Parts, spI2Mul, spI2Div, nl_bl, iE, mn1, md1, ex1, mn2, md2, ex2, mn3, md3, ex3, mn4, md4, ex4, eD1, eU1, dz1, eD2, eU2, dz2, eD3, eU3, dz3, eD4, eU4, dz4, eQ2, eQ3, eQ4, Q4l, o1, Int.one_mul, k1, k2, k3, k4, j1, t1, j2, t2, j3, t3, j4, t4, w1, w2, w3, w4]
    refine lp_step ?_
    simp only [↓R0, R1, rdL, rdH, isCall, istep, ibin, vcells, fillI, setR, flat, okCell, isBase, List.set, List.drop, List.take, List.append, bnds, bhi, blo, srcOf, simprocAttr, -Int.reduceAbs, spI2From, spR3Parts, spI2Mul, spI2Div, nl_bl, iE, mn1, md1, ex1, mn2, md2, ex2, mn3, md3, ex3, mn4, md4, ex4, eD1, eU1, dz1, eD2, eU2, dz2, eD3, eU3, dz3, eD4, eU4, dz4, eQ2, eQ3, eQ4, Q4l, o1, Int.one_mul, k1, k2, k3, k4, j1, t1, j2, t2, j3, t3, j4, t4, w1, w2, w3, w4]
    refine lp_step ?_
    simp only [↓R0, R1, rdL, rdH, isCall, istep, ibin, vcells, fillI, setR, flat, okCell, isBase, List.set, List.drop, List.take, List.append, bnds, bhi, blo, srcOf, simprocAttr, -Int.reduceAbs, spR5Norm, O1, O2, O3, O4, hh, lE, Fin, isEnd, resL, res1, iE, rE]
    exact ⟨_, rfl, rfl, fun k hk => by simp only [ne_nb hk, if_false]⟩
end Go.Eng
end
section
set_option linter.unusedVariables false
set_option linter.unusedSimpArgs false
set_option linter.unusedSectionVars false
set_option maxRecDepth 20000
namespace Go.Eng
open Go Go.Proofs Go.IntWalk
def spId8 : List Value → Option Value
  | [.agg ⟨[.bool s1, .string ⟨⟨l1⟩⟩, .bool s2, .string ⟨⟨l2⟩⟩, .bool s3, .string ⟨⟨l3⟩⟩, .bool s4, .string ⟨⟨l4⟩⟩]⟩] => some (.agg ⟨[.bool s1, .string ⟨⟨l1⟩⟩, .bool s2, .string ⟨⟨l2⟩⟩, .bool s3, .string ⟨⟨l3⟩⟩, .bool s4, .string ⟨⟨l4⟩⟩]⟩)
  | _ => none
def c131 : ICode :=
  (.seq (.reg [⟨(some 1), none, (.box 25 8 (.t 0))⟩, ⟨(some 2), none, (.alloc 108 8 [(.bool false), (.string ⟨⟨[]⟩⟩), (.bool false), (.string ⟨⟨[]⟩⟩), (.bool false), (.string ⟨⟨[]⟩⟩), (.bool false), (.string ⟨⟨[]⟩⟩)])⟩])
  (.seq (.reg [⟨(some 3), none, (.faddr 0 (.t 1))⟩, ⟨(some 4), none, (.load true 2 (.t 3))⟩, ⟨(some 5), none, (.faddr 2 (.t 1))⟩, ⟨(some 6), none, (.load true 2 (.t 5))⟩, ⟨(some 7), none, (.faddr 4 (.t 1))⟩, ⟨(some 8), none, (.load true 2 (.t 7))⟩, ⟨(some 9), none, (.faddr 6 (.t 1))⟩, ⟨(some 10), none, (.load true 2 (.t 9))⟩, ⟨(some 11), none, (.build [(.bool false), (.string ⟨⟨[]⟩⟩), (.bool false), (.string ⟨⟨[]⟩⟩), (.bool false), (.string ⟨⟨[]⟩⟩), (.bool false), (.string ⟨⟨[]⟩⟩)] [(0, 2, (.t 4)), (2, 2, (.t 6)), (4, 2, (.t 8)), (6, 2, (.t 10))])⟩, ⟨none, none, (.store 8 (.t 2) (.t 11))⟩])
  .ret))
theorem tr131 : trFun Tryz.prog 131 = some ⟨12, [.cell 2 true 8], c131⟩ := by kernel_rfl
theorem ok_lnFour : SpecOK Tryz.prog 131 (flat spId8) := by
  refine flat_run (env_nil _) mixed tr131 ?_
  intro args v h N hG
  unfold spId8 at hG
  split at hG
  case h_2 => cases hG
  cases hG
  refine ⟨rfl, by simp, ?_⟩
  simp only [c131, initT, List.zipIdx_cons, List.zipIdx_nil, List.map_cons, List.map_nil, Nat.reduceAdd]
  simp only [↓R0, R1, rdL, rdH, isCall, istep, ibin, vcells, fillI, setR, flat, okCell, isBase, List.set, List.drop, List.take, List.append, bnds, bhi, blo, srcOf, simprocAttr, -Int.reduceAbs, Fin, isEnd, resL, res1, iE, rE]
  exact ⟨_, rfl, rfl, fun k hk => by simp only [ne_nb hk, if_false]⟩
def c102 : ICode :=
  (.seq (.reg [⟨(some 1), none, (.box 108 8 (.t 0))⟩, ⟨(some 2), none, (.alloc 25 8 [(.bool false), (.string ⟨⟨[]⟩⟩), (.bool false), (.string ⟨⟨[]⟩⟩), (.bool false), (.string ⟨⟨[]⟩⟩), (.bool false), (.string ⟨⟨[]⟩⟩)])⟩])
  (.seq (.reg [⟨(some 3), none, (.ixarr 4 2 (.t 1) (.c (.int .i64 0)))⟩, ⟨(some 4), none, (.load true 2 (.t 3))⟩, ⟨(some 5), none, (.ixarr 4 2 (.t 1) (.c (.int .i64 1)))⟩, ⟨(some 6), none, (.load true 2 (.t 5))⟩, ⟨(some 7), none, (.ixarr 4 2 (.t 1) (.c (.int .i64 2)))⟩, ⟨(some 8), none, (.load true 2 (.t 7))⟩, ⟨(some 9), none, (.ixarr 4 2 (.t 1) (.c (.int .i64 3)))⟩, ⟨(some 10), none, (.load true 2 (.t 9))⟩, ⟨(some 11), none, (.build [(.bool false), (.string ⟨⟨[]⟩⟩), (.bool false), (.string ⟨⟨[]⟩⟩), (.bool false), (.string ⟨⟨[]⟩⟩), (.bool false), (.string ⟨⟨[]⟩⟩)] [(0, 2, (.t 4)), (2, 2, (.t 6)), (4, 2, (.t 8)), (6, 2, (.t 10))])⟩, ⟨none, none, (.store 8 (.t 2) (.t 11))⟩])
  .ret))
theorem tr102 : trFun Tryz.prog 102 = some ⟨12, [.cell 2 true 8], c102⟩ := by kernel_rfl
theorem ok_lnOf : SpecOK Tryz.prog 102 (flat spId8) := by
  refine flat_run (env_nil _) mixed tr102 ?_
  intro args v h N hG
  unfold spId8 at hG
  split at hG
  case h_2 => cases hG
  cases hG
  refine ⟨rfl, by simp, ?_⟩
  simp only [c102, initT, List.zipIdx_cons, List.zipIdx_nil, List.map_cons, List.map_nil, Nat.reduceAdd]
  simp only [↓R0, R1, rdL, rdH, isCall, istep, ibin, vcells, fillI, setR, flat, okCell, isBase, List.set, List.drop, List.take, List.append, bnds, bhi, blo, srcOf, simprocAttr, -Int.reduceAbs, Fin, isEnd, resL, res1, iE, rE]
  exact ⟨_, rfl, rfl, fun k hk => by simp only [ne_nb hk, if_false]⟩
def spLnMinor : List Value → Option Value
  | [.agg ⟨[.bool s1, .string ⟨⟨l1⟩⟩]⟩, .agg ⟨[.bool s2, .string ⟨⟨l2⟩⟩]⟩, .agg ⟨[.bool s3, .string ⟨⟨l3⟩⟩]⟩, .agg ⟨[.bool s4, .string ⟨⟨l4⟩⟩]⟩] =>
    if l1.length ≤ 17179869184 ∧ l2.length ≤ 17179869184 ∧ l3.length ≤ 17179869184 ∧ l4.length ≤ 17179869184 then some (.agg ⟨iE (sv s1 l1 * sv s4 l4 - sv s2 l2 * sv s3 l3)⟩) else none
  | _ => none
def c100 : ICode :=
  (.seq (.reg [⟨(some 4), none, (.box 23 2 (.t 0))⟩, ⟨(some 5), none, (.box 23 2 (.t 1))⟩, ⟨(some 6), none, (.box 23 2 (.t 2))⟩, ⟨(some 7), none, (.box 23 2 (.t 3))⟩, ⟨(some 8), none, (.alloc 23 2 [(.bool false), (.string ⟨⟨[]⟩⟩)])⟩])
  (.seq (.dreg [⟨(some 9), none, [], (.load true 2 (.t 4))⟩, ⟨(some 10), none, [], (.load true 2 (.t 7))⟩, ⟨(some 11), none, [], (.call 35 [(.t 9), (.t 10)])⟩, ⟨(some 12), none, [2], (.load true 2 (.t 5))⟩, ⟨(some 13), none, [2], (.load true 2 (.t 6))⟩, ⟨(some 14), none, [], (.call 35 [(.t 12), (.t 13)])⟩, ⟨(some 15), none, [], (.call 54 [(.t 11), (.t 14)])⟩, ⟨none, none, [], (.store 2 (.t 8) (.t 15))⟩])
  .ret))
theorem tr100 : trFun Tryz.prog 100 = some ⟨16, [.cell 8 true 2], c100⟩ := by kernel_rfl
theorem ok_lnMinor : SpecOK Tryz.prog 100 (flat spLnMinor) := by
  refine flat_run (env_cons ok_iMul (env_cons ok_iSub (env_nil _))) mixed tr100 ?_
  intro args v h N hG
  unfold spLnMinor at hG
  split at hG
  case h_2 => cases hG
  rename_i s1 l1 s2 l2 s3 l3 s4 l4
  split at hG
  case isFalse => cases hG
  rename_i hl
  obtain ⟨h1, h2, h3, h4⟩ := hl
  cases hG
  refine ⟨rfl, by simp, ?_⟩
  have a1 : l1.length ≤ 34359738368 := by omega
  have a2 : l2.length ≤ 34359738368 := by omega
  have a3 : l3.length ≤ 34359738368 := by omega
  have a4 : l4.length ≤ 34359738368 := by omega
  have p1 := lmul (k := 68719476736) (len_sv (s := s1) h1) (len_sv (s := s4) h4) (by omega)
  have p2 := lmul (k := 68719476736) (len_sv (s := s2) h2) (len_sv (s := s3) h3) (by omega)
  simp only [c100, initT, List.zipIdx_cons, List.zipIdx_nil, List.map_cons, List.map_nil, Nat.reduceAdd]
  simp only [↓R0, R1, rdL, rdH, isCall, istep, ibin, vcells, fillI, setR, flat, okCell, isBase, List.set, List.drop, List.take, List.append, bnds, bhi, blo, srcOf, simprocAttr, -Int.reduceAbs, spIMul, spISub, a1, a2, a3, a4, p1, p2, Fin, isEnd, resL, res1, iE, rE]
  exact ⟨_, rfl, rfl, fun k hk => by simp only [ne_nb hk, if_false]⟩
def spLnAway : List Value → Option Value
  | [.agg ⟨[.bool s1, .string ⟨⟨l1⟩⟩, .bool s2, .string ⟨⟨l2⟩⟩, .bool s3, .string ⟨⟨l3⟩⟩, .bool s4, .string ⟨⟨l4⟩⟩]⟩, .agg ⟨[.bool t1, .string ⟨⟨m1⟩⟩, .bool t2, .string ⟨⟨m2⟩⟩, .bool t3, .string ⟨⟨m3⟩⟩, .bool t4, .string ⟨⟨m4⟩⟩]⟩] =>
    if l1.length ≤ 17179869184 ∧ l2.length ≤ 17179869184 ∧ l3.length ≤ 17179869184 ∧ l4.length ≤ 17179869184 ∧ m1.length ≤ 17179869184 ∧ m2.length ≤ 17179869184 ∧ m3.length ≤ 17179869184 ∧ m4.length ≤ 17179869184 then
      some (.agg ⟨tE (sv t1 m1 * sv s4 l4 - sv s1 l1 * sv t4 m4) (sv t2 m2 * sv s4 l4 - sv s2 l2 * sv t4 m4) (sv t3 m3 * sv s4 l4 - sv s3 l3 * sv t4 m4)⟩) else none
  | _ => none
def c99 : ICode :=
  (.seq (.reg [⟨(some 2), none, (.box 30 8 (.t 0))⟩, ⟨(some 3), none, (.box 30 8 (.t 1))⟩, ⟨(some 4), none, (.alloc 59 6 [(.bool false), (.string ⟨⟨[]⟩⟩), (.bool false), (.string ⟨⟨[]⟩⟩), (.bool false), (.string ⟨⟨[]⟩⟩)])⟩])
  (.seq (.dreg [⟨(some 5), none, [], (.faddr 0 (.t 3))⟩, ⟨(some 6), none, [], (.load true 2 (.t 5))⟩, ⟨(some 7), none, [], (.faddr 0 (.t 2))⟩, ⟨(some 8), none, [], (.load true 2 (.t 7))⟩, ⟨(some 9), none, [], (.faddr 6 (.t 3))⟩, ⟨(some 10), none, [], (.load true 2 (.t 9))⟩, ⟨(some 11), none, [], (.faddr 6 (.t 2))⟩, ⟨(some 12), none, [], (.load true 2 (.t 11))⟩, ⟨(some 13), none, [], (.call 100 [(.t 6), (.t 8), (.t 10), (.t 12)])⟩, ⟨(some 14), none, [], (.faddr 2 (.t 3))⟩, ⟨(some 15), none, [8], (.load true 2 (.t 14))⟩, ⟨(some 16), none, [], (.faddr 2 (.t 2))⟩, ⟨(some 17), none, [8], (.load true 2 (.t 16))⟩, ⟨(some 18), none, [], (.faddr 6 (.t 3))⟩, ⟨(some 19), none, [8], (.load true 2 (.t 18))⟩, ⟨(some 20), none, [], (.faddr 6 (.t 2))⟩, ⟨(some 21), none, [8], (.load true 2 (.t 20))⟩, ⟨(some 22), none, [], (.call 100 [(.t 15), (.t 17), (.t 19), (.t 21)])⟩, ⟨(some 23), none, [], (.faddr 4 (.t 3))⟩, ⟨(some 24), none, [8, 17], (.load true 2 (.t 23))⟩, ⟨(some 25), none, [], (.faddr 4 (.t 2))⟩, ⟨(some 26), none, [8, 17], (.load true 2 (.t 25))⟩, ⟨(some 27), none, [], (.faddr 6 (.t 3))⟩, ⟨(some 28), none, [8, 17], (.load true 2 (.t 27))⟩, ⟨(some 29), none, [], (.faddr 6 (.t 2))⟩, ⟨(some 30), none, [8, 17], (.load true 2 (.t 29))⟩, ⟨(some 31), none, [], (.call 100 [(.t 24), (.t 26), (.t 28), (.t 30)])⟩, ⟨(some 32), none, [], (.build [(.bool false), (.string ⟨⟨[]⟩⟩), (.bool false), (.string ⟨⟨[]⟩⟩), (.bool false), (.string ⟨⟨[]⟩⟩)] [(0, 2, (.t 13)), (2, 2, (.t 22)), (4, 2, (.t 31))])⟩, ⟨none, none, [], (.store 6 (.t 4) (.t 32))⟩])
  .ret))
theorem tr99 : trFun Tryz.prog 99 = some ⟨33, [.cell 4 true 6], c99⟩ := by kernel_rfl
theorem ok_lnAway : SpecOK Tryz.prog 99 (flat spLnAway) := by
  refine flat_run (env_cons ok_lnMinor (env_nil _)) mixed tr99 ?_
  intro args v h N hG
  unfold spLnAway at hG
  split at hG
  case h_2 => cases hG
  rename_i s1 l1 s2 l2 s3 l3 s4 l4 t1 m1 t2 m2 t3 m3 t4 m4
  split at hG
  case isFalse => cases hG
  rename_i hl
  obtain ⟨h1, h2, h3, h4, g1, g2, g3, g4⟩ := hl
  cases hG
  refine ⟨rfl, by simp, ?_⟩
  simp only [c99, initT, List.zipIdx_cons, List.zipIdx_nil, List.map_cons, List.map_nil, Nat.reduceAdd]
  simp only [↓R0, R1, rdL, rdH, isCall, istep, ibin, vcells, fillI, setR, flat, okCell, isBase, List.set, List.drop, List.take, List.append, bnds, bhi, blo, srcOf, simprocAttr, -Int.reduceAbs, spLnMinor, h1, h2, h3, h4, g1, g2, g3, g4, tE, Fin, isEnd, resL, res1, iE, rE]
  exact ⟨_, rfl, rfl, fun k hk => by simp only [ne_nb hk, if_false]⟩
def spLnNorm : List Value → Option Value
  | [.agg ⟨[.bool s1, .string ⟨⟨l1⟩⟩, .bool s2, .string ⟨⟨l2⟩⟩, .bool s3, .string ⟨⟨l3⟩⟩, .bool s4, .string ⟨⟨l4⟩⟩]⟩] =>
    if l1.length ≤ 34359738368 ∧ l2.length ≤ 34359738368 ∧ l3.length ≤ 34359738368 ∧ l4.length ≤ 34359738368 then
      (if sv s1 l1 = 0 ∧ sv s2 l2 = 0 ∧ sv s3 l3 = 0 then some (.tuple ⟨[.agg ⟨pZ⟩, .bool false]⟩)
        else some (.tuple ⟨[.agg ⟨lE (sv s1 l1) (sv s2 l2) (sv s3 l3) (sv s4 l4)⟩, .bool true]⟩)) else none
  | _ => none
def c101 : ICode :=
  (.seq (.reg [⟨(some 1), none, (.box 25 8 (.t 0))⟩, ⟨(some 2), none, (.alloc 25 8 [(.bool false), (.string ⟨⟨[]⟩⟩), (.bool false), (.string ⟨⟨[]⟩⟩), (.bool false), (.string ⟨⟨[]⟩⟩), (.bool false), (.string ⟨⟨[]⟩⟩)])⟩, ⟨(some 3), none, (.mv (.c (.bool false)))⟩])
  (.seq (.reg [⟨(some 7), none, (.load true 8 (.t 1))⟩, ⟨(some 8), none, (.call 131 [(.t 7)])⟩, ⟨(some 4), none, (.alloc 108 8 [(.bool false), (.string ⟨⟨[]⟩⟩), (.bool false), (.string ⟨⟨[]⟩⟩), (.bool false), (.string ⟨⟨[]⟩⟩), (.bool false), (.string ⟨⟨[]⟩⟩)])⟩, ⟨none, none, (.store 8 (.t 4) (.t 8))⟩])
  (.seq (.seq (.reg [⟨(some 9), none, (.slarr 4 2 (.t 4) none (some (.c (.int .i64 3))))⟩, ⟨(some 10), none, (.call 120 [(.t 9)])⟩, ⟨(some 11), none, (.call 65 [(.t 10)])⟩, ⟨(some 12), none, (.bin .eql (.t 11) (.c (.int .i64 0)))⟩])
  (.cond (.t 12)
  (.seq (.reg [⟨(some 13), none, (.build [(.bool false), (.string ⟨⟨[]⟩⟩), (.bool false), (.string ⟨⟨[]⟩⟩), (.bool false), (.string ⟨⟨[]⟩⟩), (.bool false), (.string ⟨⟨[]⟩⟩)] [])⟩, ⟨none, none, (.store 8 (.t 2) (.t 13))⟩, ⟨(some 3), none, (.mv (.c (.bool false)))⟩])
  .ret)
  .skip))
  (.seq (.reg [⟨(some 14), none, (.slarr 4 2 (.t 4) none none)⟩, ⟨(some 15), none, (.call 120 [(.t 14)])⟩, ⟨(some 5), none, (.alloc 23 2 [(.bool false), (.string ⟨⟨[]⟩⟩)])⟩, ⟨none, none, (.store 2 (.t 5) (.t 15))⟩])
  (.seq (.seq (.reg [⟨(some 16), none, (.mv (.c (.int .i64 0)))⟩])
  (.block 0 (.loop (.seq (.reg [⟨(some 17), none, (.bin .lss (.t 16) (.c (.int .i64 4)))⟩])
  (.seq (.cond (.t 17)
  .skip
  (.exit 0))
  (.seq (.block 1 (.seq (.reg [⟨(some 18), none, (.mv (.t 16))⟩, ⟨(some 6), none, (.mv (.t 18))⟩])
  (.dreg [⟨(some 20), none, [], (.mv (.t 6))⟩, ⟨(some 21), none, [], (.mv (.t 6))⟩, ⟨(some 22), none, [], (.ixarr 4 2 (.t 4) (.t 21))⟩, ⟨(some 23), none, [], (.load true 2 (.t 22))⟩, ⟨(some 24), none, [], (.load true 2 (.t 5))⟩, ⟨(some 25), none, [], (.call 121 [(.t 23), (.t 24)])⟩, ⟨(some 19), none, [], (.mv (.t 25))⟩, ⟨(some 26), none, [], (.ext (.t 19) 0)⟩, ⟨(some 27), none, [], (.ext (.t 19) 1)⟩, ⟨(some 28), none, [], (.ext (.t 19) 2)⟩, ⟨(some 29), none, [], (.ixarr 4 2 (.t 4) (.t 20))⟩, ⟨none, none, [], (.store 2 (.t 29) (.t 26))⟩])))
  (.reg [⟨(some 30), none, (.bin .add (.t 16) (.c (.int .i64 1)))⟩, ⟨(some 16), none, (.mv (.t 30))⟩])))))))
  (.seq (.reg [⟨(some 31), none, (.load true 8 (.t 4))⟩, ⟨(some 32), none, (.call 102 [(.t 31)])⟩, ⟨none, none, (.store 8 (.t 2) (.t 32))⟩, ⟨(some 3), none, (.mv (.c (.bool true)))⟩])
  .ret))))))
theorem tr101 : trFun Tryz.prog 101 = some ⟨33, [.cell 2 true 8, .t 3], c101⟩ := by kernel_rfl
set_option maxHeartbeats 4000000 in
theorem ok_lnNorm : SpecOK Tryz.prog 101 (flat spLnNorm) := by
  refine flat_run (env_cons ok_lnFour (env_cons ok_lnOf (env_cons ok_iGcd (env_cons ok_iSign (env_cons ok_iDiv (env_nil _)))))) mixed tr101 ?_
  intro args v h N hG
  unfold spLnNorm at hG
  split at hG
  case h_2 => cases hG
  rename_i s1 l1 s2 l2 s3 l3 s4 l4
  split at hG
  case isFalse => cases hG
  rename_i hl
  obtain ⟨h1, h2, h3, h4⟩ := hl
  have g3 : Nat.gcd (Nat.gcd (nl l1) (nl l2)) (nl l3) = Nat.gcd (Nat.gcd (sv s1 l1).natAbs (sv s2 l2).natAbs) (sv s3 l3).natAbs := by
    rw [sv_natAbs, sv_natAbs, sv_natAbs]
  have zl0 : (bl (Int.natAbs 0)).length ≤ 1099511627776 := by rw [show Int.natAbs 0 = 0 from rfl, bl_zero]; exact Nat.zero_le _
  have zs0 : sv false (bl (Int.natAbs 0)) = 0 := by rw [sv_bl]; rfl
  have i40 : 4 - 0 = 4 := rfl
  have i30 : 3 - 0 = 3 := rfl
  have i43 : ¬ (4 = 0) := by decide
  have f5 : ∀ G : Nat, sv false (bl G) = (G : Int) := fun G => by rw [sv_false, nl_bl]
  split at hG
  · rename_i h0
    obtain ⟨z1, z2, z3⟩ := h0
    cases hG
    refine ⟨rfl, by simp, ?_⟩
    have hg0 : Nat.gcd (Nat.gcd (nl l1) (nl l2)) (nl l3) = 0 := by rw [g3, z1, z2, z3]; rfl
    have b0 : bl 0 = [] := bl_zero
    have hz : sv false ([] : List UInt8) = 0 := rfl
    have i00 : ((0 : Nat) : Int) = 0 := rfl
    simp only [c101, initT, List.zipIdx_cons, List.zipIdx_nil, List.map_cons, List.map_nil, Nat.reduceAdd]
    simp only [↓R0, R1, rdL, rdH, isCall, istep, ibin, vcells, fillI, setR, flat, okCell, isBase, List.set, List.drop, List.take, List.append, bnds, bhi, blo, srcOf, simprocAttr, -Int.reduceAbs, spId8, rdS, spIGcd, ints, gcds, mkSl, i40, i30, i43, List.foldl_cons, List.foldl_nil, Nat.gcd_zero_left, List.forall_mem_cons, h1, h2, h3, h4, List.not_mem_nil, false_implies, implies_true, hg0, i00, spISign, zl0, zs0, Int.sign_zero, iE]
    simp only [↓R0, R1, rdL, rdH, isCall, istep, ibin, vcells, fillI, setR, flat, okCell, isBase, List.set, List.drop, List.take, List.append, bnds, bhi, blo, srcOf, simprocAttr, -Int.reduceAbs, spISign, zl0, zs0, Int.lt_irrefl, Int.sign_zero, pZ, Fin, isEnd, resL, res1, iE, rE]
    exact ⟨_, rfl, rfl, fun k hk => by simp only [ne_nb hk, if_false]⟩
  rename_i h0
  cases hG
  refine ⟨rfl, by simp, ?_⟩
  have hG0 := lG_pos (d := sv s4 l4) h0
  have n1 := len_sv (s := s1) h1
  have n2 := len_sv (s := s2) h2
  have n3 := len_sv (s := s3) h3
  have n4 := len_sv (s := s4) h4
  have hGl := lG_le (d := sv s4 l4) (k := 34359738368) n1 n2 n3 h0
  have hGG : Nat.gcd (Nat.gcd (Nat.gcd (nl l1) (nl l2)) (nl l3)) (nl l4) = lG (sv s1 l1) (sv s2 l2) (sv s3 l3) (sv s4 l4) := by
    unfold lG; rw [sv_natAbs, sv_natAbs, sv_natAbs, sv_natAbs]
  unfold lE
  generalize lG (sv s1 l1) (sv s2 l2) (sv s3 l3) (sv s4 l4) = G at *
  have f1 : ¬ ((G : Int) < 0) := by omega
  have f2 : ¬ ((G : Int) = 0) := by omega
  have f6 := f5 G
  have hg3 : 0 < Nat.gcd (Nat.gcd (nl l1) (nl l2)) (nl l3) := by
    rw [g3]
    by_cases z3 : sv s3 l3 = 0
    · refine Nat.gcd_pos_of_pos_left _ ?_
      by_cases z2 : sv s2 l2 = 0
      · refine Nat.gcd_pos_of_pos_left _ ?_
        have : sv s1 l1 ≠ 0 := fun e => h0 ⟨e, z2, z3⟩
        omega
      · exact Nat.gcd_pos_of_pos_right _ (by omega)
    · exact Nat.gcd_pos_of_pos_right _ (by omega)
  have hg3l : (bl (Nat.gcd (Nat.gcd (nl l1) (nl l2)) (nl l3))).length ≤ 1099511627776 := by
    rcases Nat.eq_zero_or_pos (nl l3) with e | e
    · rw [e, Nat.gcd_zero_right]
      rcases Nat.eq_zero_or_pos (nl l2) with e2 | e2
      · rw [e2, Nat.gcd_zero_right]; exact Nat.le_trans (bl_length_nl l1) (by omega)
      · exact Nat.le_trans (bl_length_mono (Nat.gcd_le_right _ e2)) (Nat.le_trans (bl_length_nl l2) (by omega))
    · exact Nat.le_trans (bl_length_mono (Nat.gcd_le_right _ e)) (Nat.le_trans (bl_length_nl l3) (by omega))
  obtain ⟨g, eg⟩ : ∃ g, Nat.gcd (Nat.gcd (nl l1) (nl l2)) (nl l3) = g := ⟨_, rfl⟩
  rw [eg] at hg3 hg3l hGG
  have t1 : ¬ ((g : Int) < 0) := by omega
  have t2 : ¬ (((g : Int).sign) = 0) := by rw [Int.sign_eq_zero_iff_zero]; omega
  have t3 := f5 g
  have w1 : IntKind.i64.wrap 1 = 1 := i64_in _ (by omega)
  have w2 : IntKind.i64.wrap 2 = 2 := i64_in _ (by omega)
  have w3 : IntKind.i64.wrap 3 = 3 := i64_in _ (by omega)
  have w4 : IntKind.i64.wrap 4 = 4 := i64_in _ (by omega)
  simp only [c101, initT, List.zipIdx_cons, List.zipIdx_nil, List.map_cons, List.map_nil, Nat.reduceAdd]
  simp only [↓R0, R1, rdL, rdH, isCall, istep, ibin, vcells, fillI, setR, flat, okCell, isBase, List.set, List.drop, List.take, List.append, bnds, bhi, blo, srcOf, simprocAttr, -Int.reduceAbs, spId8, rdS, spIGcd, ints, gcds, mkSl, i40, i30, i43, List.foldl_cons, List.foldl_nil, Nat.gcd_zero_left, List.forall_mem_cons, h1, h2, h3, h4, List.not_mem_nil, false_implies, implies_true, eg, hGG, t1, t2, t3, hg3l, f1, Int.natAbs_natCast, spISign, iE]
  refine lp_step ?_
  simp only [↓R0, R1, rdL, rdH, isCall, istep, ibin, vcells, fillI, setR, flat, okCell, isBase, List.set, List.drop, List.take, List.append, bnds, bhi, blo, srcOf, simprocAttr, -Int.reduceAbs, spIDiv, h1, h2, h3, h4, hGl, f1, f2, f6, w1, w2, w3, w4, iE]
  refine lp_step ?_
  simp only [↓R0, R1, rdL, rdH, isCall, istep, ibin, vcells, fillI, setR, flat, okCell, isBase, List.set, List.drop, List.take, List.append, bnds, bhi, blo, srcOf, simprocAttr, -Int.reduceAbs, spIDiv, h1, h2, h3, h4, hGl, f1, f2, f6, w1, w2, w3, w4, iE]
  refine lp_step ?_
  simp only [↓R0, R1, rdL, rdH, isCall, istep, ibin, vcells, fillI, setR, flat, okCell, isBase, List.set, List.drop, List.take, List.append, bnds, bhi, blo, srcOf, simprocAttr, -Int.reduceAbs, spIDiv, h1, h2, h3, h4, hGl, f1, f2, f6, w1, w2, w3, w4, iE]
  refine lp_step ?_
  simp only [↓R0, R1, rdL, rdH, isCall, istep, ibin, vcells, fillI, setR, flat, okCell, isBase, List.set, List.drop, List.take, List.append, bnds, bhi, blo, srcOf, simprocAttr, -Int.reduceAbs, spIDiv, h1, h2, h3, h4, hGl, f1, f2, f6, w1, w2, w3, w4, iE]
  refine lp_step ?_
  simp only [↓R0, R1, rdL, rdH, isCall, istep, ibin, vcells, fillI, setR, flat, okCell, isBase, List.set, List.drop, List.take, List.append, bnds, bhi, blo, srcOf, simprocAttr, -Int.reduceAbs, spId8, Fin, isEnd, resL, res1, iE, rE]
  exact ⟨_, rfl, rfl, fun k hk => by simp only [ne_nb hk, if_false]⟩
def spLnSide : List Value → Option Value
  | [.agg ⟨[.bool s1, .string ⟨⟨l1⟩⟩, .bool s2, .string ⟨⟨l2⟩⟩, .bool s3, .string ⟨⟨l3⟩⟩, .bool s4, .string ⟨⟨l4⟩⟩]⟩, .agg ⟨[.bool t1, .string ⟨⟨m1⟩⟩, .bool t2, .string ⟨⟨m2⟩⟩, .bool t3, .string ⟨⟨m3⟩⟩, .bool t4, .string ⟨⟨m4⟩⟩]⟩] =>
    if l1.length ≤ 4294967296 ∧ l2.length ≤ 4294967296 ∧ l3.length ≤ 4294967296 ∧ l4.length ≤ 4294967296 ∧ m1.length ≤ 4294967296 ∧ m2.length ≤ 4294967296 ∧ m3.length ≤ 4294967296 ∧ m4.length ≤ 4294967296 then
      some (.int .i64 (sv s1 l1 * sv t1 m1 + sv s2 l2 * sv t2 m2 + sv s3 l3 * sv t3 m3 - sv s4 l4 * sv t4 m4).sign) else none
  | _ => none
def c59 : ICode :=
  (.seq (.reg [⟨(some 2), none, (.box 25 8 (.t 0))⟩, ⟨(some 3), none, (.box 30 8 (.t 1))⟩, ⟨(some 4), none, (.mv (.c (.int .i64 0)))⟩])
  (.seq (.dreg [⟨(some 6), none, [], (.faddr 0 (.t 2))⟩, ⟨(some 7), none, [], (.load true 2 (.t 6))⟩, ⟨(some 8), none, [], (.faddr 0 (.t 3))⟩, ⟨(some 9), none, [], (.load true 2 (.t 8))⟩, ⟨(some 10), none, [], (.call 35 [(.t 7), (.t 9)])⟩, ⟨(some 11), none, [], (.faddr 2 (.t 2))⟩, ⟨(some 12), none, [4], (.load true 2 (.t 11))⟩, ⟨(some 13), none, [], (.faddr 2 (.t 3))⟩, ⟨(some 14), none, [4], (.load true 2 (.t 13))⟩, ⟨(some 15), none, [], (.call 35 [(.t 12), (.t 14)])⟩, ⟨(some 16), none, [], (.call 34 [(.t 10), (.t 15)])⟩, ⟨(some 17), none, [], (.faddr 4 (.t 2))⟩, ⟨(some 18), none, [4, 9, 10], (.load true 2 (.t 17))⟩, ⟨(some 19), none, [], (.faddr 4 (.t 3))⟩, ⟨(some 20), none, [4, 9, 10], (.load true 2 (.t 19))⟩, ⟨(some 21), none, [], (.call 35 [(.t 18), (.t 20)])⟩, ⟨(some 22), none, [], (.call 34 [(.t 16), (.t 21)])⟩, ⟨(some 5), none, [], (.alloc 23 2 [(.bool false), (.string ⟨⟨[]⟩⟩)])⟩, ⟨none, none, [], (.store 2 (.t 5) (.t 22))⟩])
  (.seq (.dreg [⟨(some 23), none, [], (.load true 2 (.t 5))⟩, ⟨(some 24), none, [], (.faddr 6 (.t 2))⟩, ⟨(some 25), none, [], (.load true 2 (.t 24))⟩, ⟨(some 26), none, [], (.faddr 6 (.t 3))⟩, ⟨(some 27), none, [], (.load true 2 (.t 26))⟩, ⟨(some 28), none, [], (.call 35 [(.t 25), (.t 27)])⟩, ⟨(some 29), none, [], (.call 76 [(.t 23), (.t 28)])⟩, ⟨(some 4), none, [], (.mv (.t 29))⟩])
  .ret)))
theorem tr59 : trFun Tryz.prog 59 = some ⟨30, [.t 4], c59⟩ := by kernel_rfl
set_option maxHeartbeats 2000000 in
theorem ok_lnSide : SpecOK Tryz.prog 59 (flat spLnSide) := by
  refine flat_run (env_cons ok_iMul (env_cons ok_iAdd (env_cons ok_iCmp (env_nil _)))) mixed tr59 ?_
  intro args v h N hG
  unfold spLnSide at hG
  split at hG
  case h_2 => cases hG
  rename_i s1 l1 s2 l2 s3 l3 s4 l4 t1 m1 t2 m2 t3 m3 t4 m4
  split at hG
  case isFalse => cases hG
  rename_i hl
  obtain ⟨h1, h2, h3, h4, g1, g2, g3, g4⟩ := hl
  cases hG
  refine ⟨rfl, by simp, ?_⟩
  have a1 : l1.length ≤ 34359738368 := by omega
  have a2 : l2.length ≤ 34359738368 := by omega
  have a3 : l3.length ≤ 34359738368 := by omega
  have a4 : l4.length ≤ 34359738368 := by omega
  have b1 : m1.length ≤ 34359738368 := by omega
  have b2 : m2.length ≤ 34359738368 := by omega
  have b3 : m3.length ≤ 34359738368 := by omega
  have b4 : m4.length ≤ 34359738368 := by omega
  have p1 := lmul (k := 8589934592) (len_sv (s := s1) h1) (len_sv (s := t1) g1) (by omega)
  have p2 := lmul (k := 8589934592) (len_sv (s := s2) h2) (len_sv (s := t2) g2) (by omega)
  have p3 := lmul (k := 8589934592) (len_sv (s := s3) h3) (len_sv (s := t3) g3) (by omega)
  have p4 := lmul (k := 68719476736) (len_sv (s := s4) h4) (len_sv (s := t4) g4) (by omega)
  have r1 := lle (k := 68719476736) p1 (by omega)
  have r2 := lle (k := 68719476736) p2 (by omega)
  have r3 := lle (k := 68719476736) p3 (by omega)
  have q0 := ladd (k := 8589934593) p1 p2 (by omega)
  have q1 := lle (k := 68719476736) q0 (by omega)
  have q2 := ladd (k := 68719476736) q0 p3 (by omega)
  simp only [c59, initT, List.zipIdx_cons, List.zipIdx_nil, List.map_cons, List.map_nil, Nat.reduceAdd]
  simp only [↓R0, R1, rdL, rdH, isCall, istep, ibin, vcells, fillI, setR, flat, okCell, isBase, List.set, List.drop, List.take, List.append, bnds, bhi, blo, srcOf, simprocAttr, -Int.reduceAbs, spIMul, spIAdd, spICmp, a1, a2, a3, a4, b1, b2, b3, b4, r1, r2, r3, p4, q1, q2, Fin, isEnd, resL, res1, iE, rE]
  exact ⟨_, rfl, rfl, fun k hk => by simp only [ne_nb hk, if_false]⟩
end Go.Eng
end
section
set_option linter.unusedVariables false
set_option linter.unusedSimpArgs false
set_option linter.unusedSectionVars false
set_option maxRecDepth 20000
namespace Go.Eng
open Go Go.Proofs Go.IntWalk
def spR5Through : List Value → Option Value
  | [.agg ⟨[.bool s1, .string ⟨⟨l1⟩⟩, .bool s2, .string ⟨⟨l2⟩⟩, .bool s3, .string ⟨⟨l3⟩⟩, .bool s4, .string ⟨⟨l4⟩⟩]⟩, .agg ⟨[.bool t1, .string ⟨⟨m1⟩⟩, .bool t2, .string ⟨⟨m2⟩⟩, .bool t3, .string ⟨⟨m3⟩⟩, .bool t4, .string ⟨⟨m4⟩⟩]⟩, .agg ⟨[.bool q1, .string ⟨⟨k1⟩⟩, .bool q2, .string ⟨⟨k2⟩⟩, .bool q3, .string ⟨⟨k3⟩⟩, .bool q4, .string ⟨⟨k4⟩⟩]⟩] =>
    if (l1.length ≤ 65536 ∧ l2.length ≤ 65536 ∧ l3.length ≤ 65536 ∧ l4.length ≤ 65536 ∧ m1.length ≤ 65536 ∧ m2.length ≤ 65536 ∧ m3.length ≤ 65536 ∧ m4.length ≤ 65536 ∧ k1.length ≤ 65536 ∧ k2.length ≤ 65536 ∧ k3.length ≤ 65536 ∧ k4.length ≤ 65536) ∧ 0 < (sv s4 l4) ∧ 0 < (sv t4 m4) ∧ 0 < (sv q4 k4) then mk5 (Rat.divInt (dt3 (sv s2 l2) (sv s3 l3) (sv s4 l4) (sv t2 m2) (sv t3 m3) (sv t4 m4) (sv q2 k2) (sv q3 k3) (sv q4 k4)) ((sv s4 l4) * (sv t4 m4) * (sv q4 k4))) (Rat.divInt (dt3 (sv s3 l3) (sv s1 l1) (sv s4 l4) (sv t3 m3) (sv t1 m1) (sv t4 m4) (sv q3 k3) (sv q1 k1) (sv q4 k4)) ((sv s4 l4) * (sv t4 m4) * (sv q4 k4))) (Rat.divInt (dt3 (sv s1 l1) (sv s2 l2) (sv s4 l4) (sv t1 m1) (sv t2 m2) (sv t4 m4) (sv q1 k1) (sv q2 k2) (sv q4 k4)) ((sv s4 l4) * (sv t4 m4) * (sv q4 k4))) (Rat.divInt (dt3 (sv s1 l1) (sv s2 l2) (sv s3 l3) (sv t1 m1) (sv t2 m2) (sv t3 m3) (sv q1 k1) (sv q2 k2) (sv q3 k3)) ((sv s4 l4) * (sv t4 m4) * (sv q4 k4))) else none
  | _ => none
def c60 : ICode :=
  (.seq (.reg [⟨(some 3), none, (.box 30 8 (.t 0))⟩, ⟨(some 4), none, (.box 30 8 (.t 1))⟩, ⟨(some 5), none, (.box 30 8 (.t 2))⟩, ⟨(some 6), none, (.alloc 25 8 [(.bool false), (.string ⟨⟨[]⟩⟩), (.bool false), (.string ⟨⟨[]⟩⟩), (.bool false), (.string ⟨⟨[]⟩⟩), (.bool false), (.string ⟨⟨[]⟩⟩)])⟩, ⟨(some 7), none, (.mv (.c (.bool false)))⟩])
  (.seq (.dreg [⟨(some 12), none, [], (.load true 8 (.t 3))⟩, ⟨(some 13), none, [], (.call 57 [(.t 12)])⟩, ⟨(some 14), none, [1], (.load true 8 (.t 4))⟩, ⟨(some 15), none, [], (.call 57 [(.t 14)])⟩, ⟨(some 16), none, [1, 3], (.load true 8 (.t 5))⟩, ⟨(some 17), none, [], (.call 57 [(.t 16)])⟩, ⟨(some 8), none, [], (.alloc 67 9 [(.bool false), (.string ⟨⟨[]⟩⟩), (.string ⟨⟨[]⟩⟩), (.bool false), (.string ⟨⟨[]⟩⟩), (.string ⟨⟨[]⟩⟩), (.bool false), (.string ⟨⟨[]⟩⟩), (.string ⟨⟨[]⟩⟩)])⟩, ⟨(some 9), none, [], (.alloc 67 9 [(.bool false), (.string ⟨⟨[]⟩⟩), (.string ⟨⟨[]⟩⟩), (.bool false), (.string ⟨⟨[]⟩⟩), (.string ⟨⟨[]⟩⟩), (.bool false), (.string ⟨⟨[]⟩⟩), (.string ⟨⟨[]⟩⟩)])⟩, ⟨(some 10), none, [], (.alloc 67 9 [(.bool false), (.string ⟨⟨[]⟩⟩), (.string ⟨⟨[]⟩⟩), (.bool false), (.string ⟨⟨[]⟩⟩), (.string ⟨⟨[]⟩⟩), (.bool false), (.string ⟨⟨[]⟩⟩), (.string ⟨⟨[]⟩⟩)])⟩, ⟨none, none, [], (.store 9 (.t 8) (.t 13))⟩, ⟨none, none, [], (.store 9 (.t 9) (.t 15))⟩, ⟨none, none, [], (.store 9 (.t 10) (.t 17))⟩])
  (.seq (.dreg [⟨(some 18), none, [], (.load true 9 (.t 9))⟩, ⟨(some 19), none, [], (.load true 9 (.t 8))⟩, ⟨(some 20), none, [], (.call 104 [(.t 18), (.t 19)])⟩, ⟨(some 21), none, [2], (.load true 9 (.t 10))⟩, ⟨(some 22), none, [2], (.load true 9 (.t 8))⟩, ⟨(some 23), none, [], (.call 104 [(.t 21), (.t 22)])⟩, ⟨(some 24), none, [], (.call 103 [(.t 20), (.t 23)])⟩, ⟨(some 11), none, [], (.alloc 67 9 [(.bool false), (.string ⟨⟨[]⟩⟩), (.string ⟨⟨[]⟩⟩), (.bool false), (.string ⟨⟨[]⟩⟩), (.string ⟨⟨[]⟩⟩), (.bool false), (.string ⟨⟨[]⟩⟩), (.string ⟨⟨[]⟩⟩)])⟩, ⟨none, none, [], (.store 9 (.t 11) (.t 24))⟩])
  (.seq (.dreg [⟨(some 25), none, [], (.load true 9 (.t 11))⟩, ⟨(some 26), none, [], (.load true 9 (.t 11))⟩, ⟨(some 27), none, [], (.load true 9 (.t 8))⟩, ⟨(some 28), none, [], (.call 106 [(.t 26), (.t 27)])⟩, ⟨(some 29), none, [], (.call 105 [(.t 25), (.t 28)])⟩, ⟨(some 30), none, [], (.ext (.t 29) 0)⟩, ⟨(some 31), none, [], (.ext (.t 29) 1)⟩, ⟨none, none, [], (.store 8 (.t 6) (.t 30))⟩, ⟨(some 7), none, [], (.mv (.t 31))⟩])
  .ret))))
theorem tr60 : trFun Tryz.prog 60 = some ⟨32, [.cell 6 true 8, .t 7], c60⟩ := by kernel_rfl
set_option maxHeartbeats 4000000 in
theorem ok_r5Through : SpecOK Tryz.prog 60 (flat spR5Through) := by
  refine flat_run (env_cons ok_r4Coords (env_cons ok_r5Less (env_cons ok_r5Across (env_cons ok_r5Dot (env_cons ok_r5Make (env_nil _)))))) mixed tr60 ?_
  intro args v h N hG
  unfold spR5Through at hG
  split at hG
  case h_2 => cases hG
  rename_i s1 l1 s2 l2 s3 l3 s4 l4 t1 m1 t2 m2 t3 m3 t4 m4 q1 k1 q2 k2 q3 k3 q4 k4
  split at hG
  case isFalse => cases hG
  rename_i hl
  obtain ⟨⟨ha1, ha2, ha3, ha4, hb1, hb2, hb3, hb4, hc1, hc2, hc3, hc4⟩, pa, pb, pc⟩ := hl
  have ga1 : l1.length ≤ 34359738368 := by omega
  have ea1 := len_sv (s := s1) ha1
  obtain ⟨a1, fa1⟩ : ∃ z, sv s1 l1 = z := ⟨_, rfl⟩
  rw [fa1] at ea1 hG
  have ga2 : l2.length ≤ 34359738368 := by omega
  have ea2 := len_sv (s := s2) ha2
  obtain ⟨a2, fa2⟩ : ∃ z, sv s2 l2 = z := ⟨_, rfl⟩
  rw [fa2] at ea2 hG
  have ga3 : l3.length ≤ 34359738368 := by omega
  have ea3 := len_sv (s := s3) ha3
  obtain ⟨a3, fa3⟩ : ∃ z, sv s3 l3 = z := ⟨_, rfl⟩
  rw [fa3] at ea3 hG
  have ga4 : l4.length ≤ 34359738368 := by omega
  have ea4 := len_sv (s := s4) ha4
  obtain ⟨a4, fa4⟩ : ∃ z, sv s4 l4 = z := ⟨_, rfl⟩
  rw [fa4] at ea4 hG
  rw [fa4] at pa
  have nea : a4 ≠ 0 := by omega
  have pwa := pW_of nea
  have gb1 : m1.length ≤ 34359738368 := by omega
  have eb1 := len_sv (s := t1) hb1
  obtain ⟨b1, fb1⟩ : ∃ z, sv t1 m1 = z := ⟨_, rfl⟩
  rw [fb1] at eb1 hG
  have gb2 : m2.length ≤ 34359738368 := by omega
  have eb2 := len_sv (s := t2) hb2
  obtain ⟨b2, fb2⟩ : ∃ z, sv t2 m2 = z := ⟨_, rfl⟩
  rw [fb2] at eb2 hG
  have gb3 : m3.length ≤ 34359738368 := by omega
  have eb3 := len_sv (s := t3) hb3
  obtain ⟨b3, fb3⟩ : ∃ z, sv t3 m3 = z := ⟨_, rfl⟩
  rw [fb3] at eb3 hG
  have gb4 : m4.length ≤ 34359738368 := by omega
  have eb4 := len_sv (s := t4) hb4
  obtain ⟨b4, fb4⟩ : ∃ z, sv t4 m4 = z := ⟨_, rfl⟩
  rw [fb4] at eb4 hG
  rw [fb4] at pb
  have neb : b4 ≠ 0 := by omega
  have pwb := pW_of neb
  have gc1 : k1.length ≤ 34359738368 := by omega
  have ec1 := len_sv (s := q1) hc1
  obtain ⟨c1, fc1⟩ : ∃ z, sv q1 k1 = z := ⟨_, rfl⟩
  rw [fc1] at ec1 hG
  have gc2 : k2.length ≤ 34359738368 := by omega
  have ec2 := len_sv (s := q2) hc2
  obtain ⟨c2, fc2⟩ : ∃ z, sv q2 k2 = z := ⟨_, rfl⟩
  rw [fc2] at ec2 hG
  have gc3 : k3.length ≤ 34359738368 := by omega
  have ec3 := len_sv (s := q3) hc3
  obtain ⟨c3, fc3⟩ : ∃ z, sv q3 k3 = z := ⟨_, rfl⟩
  rw [fc3] at ec3 hG
  have gc4 : k4.length ≤ 34359738368 := by omega
  have ec4 := len_sv (s := q4) hc4
  obtain ⟨c4, fc4⟩ : ∃ z, sv q4 k4 = z := ⟨_, rfl⟩
  rw [fc4] at ec4 hG
  rw [fc4] at pc
  have nec : c4 ≠ 0 := by omega
  have pwc := pW_of nec
  have tn1 := th_n (a2 := a2) (a3 := a3) (b2 := b2) (b3 := b3) (c2 := c2) (c3 := c3) nea neb nec
  have tn2 := th_n (a2 := a3) (a3 := a1) (b2 := b3) (b3 := b1) (c2 := c3) (c3 := c1) nea neb nec
  have tn3 := th_n (a2 := a1) (a3 := a2) (b2 := b1) (b3 := b2) (c2 := c1) (c3 := c2) nea neb nec
  have to1 := th_o (dt3_vert (a1 := a1) (a2 := a2) (a3 := a3) (a4 := a4) (b1 := b1) (b2 := b2) (b3 := b3) (b4 := b4) (c1 := c1) (c2 := c2) (c3 := c3) (c4 := c4)) nea (K := a4 * b4 * c4) (Int.mul_ne_zero (Int.mul_ne_zero nea neb) nec)
  have rx1 := divInt_RB nea ea1 ea4
  obtain ⟨x1, fx1⟩ : ∃ z, Rat.divInt a1 a4 = z := ⟨_, rfl⟩
  have rx2 := divInt_RB nea ea2 ea4
  obtain ⟨x2, fx2⟩ : ∃ z, Rat.divInt a2 a4 = z := ⟨_, rfl⟩
  have rx3 := divInt_RB nea ea3 ea4
  obtain ⟨x3, fx3⟩ : ∃ z, Rat.divInt a3 a4 = z := ⟨_, rfl⟩
  have ry1 := divInt_RB neb eb1 eb4
  obtain ⟨y1, fy1⟩ : ∃ z, Rat.divInt b1 b4 = z := ⟨_, rfl⟩
  have ry2 := divInt_RB neb eb2 eb4
  obtain ⟨y2, fy2⟩ : ∃ z, Rat.divInt b2 b4 = z := ⟨_, rfl⟩
  have ry3 := divInt_RB neb eb3 eb4
  obtain ⟨y3, fy3⟩ : ∃ z, Rat.divInt b3 b4 = z := ⟨_, rfl⟩
  have rz1 := divInt_RB nec ec1 ec4
  obtain ⟨z1, fz1⟩ : ∃ z, Rat.divInt c1 c4 = z := ⟨_, rfl⟩
  have rz2 := divInt_RB nec ec2 ec4
  obtain ⟨z2, fz2⟩ : ∃ z, Rat.divInt c2 c4 = z := ⟨_, rfl⟩
  have rz3 := divInt_RB nec ec3 ec4
  obtain ⟨z3, fz3⟩ : ∃ z, Rat.divInt c3 c4 = z := ⟨_, rfl⟩
  simp only [fx1, fx2, fx3, fy1, fy2, fy3, fz1, fz2, fz3] at rx1 rx2 rx3 ry1 ry2 ry3 rz1 rz2 rz3 tn1 tn2 tn3 to1
  have Fx1n := rx1.num (k := 1073741824) (by omega)
  have Fx1d := rx1.den (k := 1073741824) (by omega)
  have Fx2n := rx2.num (k := 1073741824) (by omega)
  have Fx2d := rx2.den (k := 1073741824) (by omega)
  have Fx3n := rx3.num (k := 1073741824) (by omega)
  have Fx3d := rx3.den (k := 1073741824) (by omega)
  have Fy1n := ry1.num (k := 1073741824) (by omega)
  have Fy1d := ry1.den (k := 1073741824) (by omega)
  have Fy2n := ry2.num (k := 1073741824) (by omega)
  have Fy2d := ry2.den (k := 1073741824) (by omega)
  have Fy3n := ry3.num (k := 1073741824) (by omega)
  have Fy3d := ry3.den (k := 1073741824) (by omega)
  have Fz1n := rz1.num (k := 1073741824) (by omega)
  have Fz1d := rz1.den (k := 1073741824) (by omega)
  have Fz2n := rz2.num (k := 1073741824) (by omega)
  have Fz2d := rz2.den (k := 1073741824) (by omega)
  have Fz3n := rz3.num (k := 1073741824) (by omega)
  have Fz3d := rz3.den (k := 1073741824) (by omega)
  have ru1 := RB.sub (k := 131073) ry1 rx1 (by omega)
  obtain ⟨u1, fu1⟩ : ∃ z, y1 - x1 = z := ⟨_, rfl⟩
  rw [fu1] at ru1
  have Fu1n := ru1.num (k := 1073741824) (by omega)
  have Fu1d := ru1.den (k := 1073741824) (by omega)
  have ru2 := RB.sub (k := 131073) ry2 rx2 (by omega)
  obtain ⟨u2, fu2⟩ : ∃ z, y2 - x2 = z := ⟨_, rfl⟩
  rw [fu2] at ru2
  have Fu2n := ru2.num (k := 1073741824) (by omega)
  have Fu2d := ru2.den (k := 1073741824) (by omega)
  have ru3 := RB.sub (k := 131073) ry3 rx3 (by omega)
  obtain ⟨u3, fu3⟩ : ∃ z, y3 - x3 = z := ⟨_, rfl⟩
  rw [fu3] at ru3
  have Fu3n := ru3.num (k := 1073741824) (by omega)
  have Fu3d := ru3.den (k := 1073741824) (by omega)
  have rv1 := RB.sub (k := 131073) rz1 rx1 (by omega)
  obtain ⟨v1, fv1⟩ : ∃ z, z1 - x1 = z := ⟨_, rfl⟩
  rw [fv1] at rv1
  have Fv1n := rv1.num (k := 1073741824) (by omega)
  have Fv1d := rv1.den (k := 1073741824) (by omega)
  have rv2 := RB.sub (k := 131073) rz2 rx2 (by omega)
  obtain ⟨v2, fv2⟩ : ∃ z, z2 - x2 = z := ⟨_, rfl⟩
  rw [fv2] at rv2
  have Fv2n := rv2.num (k := 1073741824) (by omega)
  have Fv2d := rv2.den (k := 1073741824) (by omega)
  have rv3 := RB.sub (k := 131073) rz3 rx3 (by omega)
  obtain ⟨v3, fv3⟩ : ∃ z, z3 - x3 = z := ⟨_, rfl⟩
  rw [fv3] at rv3
  have Fv3n := rv3.num (k := 1073741824) (by omega)
  have Fv3d := rv3.den (k := 1073741824) (by omega)
  simp only [fu1, fu2, fu3, fv1, fv2, fv3] at tn1 tn2 tn3
  have rn1 := RB.sub (k := 524293) (RB.mul (k := 262146) ru2 rv3 (by omega)) (RB.mul (k := 262146) ru3 rv2 (by omega)) (by omega)
  obtain ⟨n1, fn1⟩ : ∃ z, u2 * v3 - u3 * v2 = z := ⟨_, rfl⟩
  rw [fn1] at rn1 tn1
  have Fn1n := rn1.num (k := 1073741824) (by omega)
  have Fn1d := rn1.den (k := 1073741824) (by omega)
  have rn2 := RB.sub (k := 524293) (RB.mul (k := 262146) ru3 rv1 (by omega)) (RB.mul (k := 262146) ru1 rv3 (by omega)) (by omega)
  obtain ⟨n2, fn2⟩ : ∃ z, u3 * v1 - u1 * v3 = z := ⟨_, rfl⟩
  rw [fn2] at rn2 tn2
  have Fn2n := rn2.num (k := 1073741824) (by omega)
  have Fn2d := rn2.den (k := 1073741824) (by omega)
  have rn3 := RB.sub (k := 524293) (RB.mul (k := 262146) ru1 rv2 (by omega)) (RB.mul (k := 262146) ru2 rv1 (by omega)) (by omega)
  obtain ⟨n3, fn3⟩ : ∃ z, u1 * v2 - u2 * v1 = z := ⟨_, rfl⟩
  rw [fn3] at rn3 tn3
  have Fn3n := rn3.num (k := 1073741824) (by omega)
  have Fn3d := rn3.den (k := 1073741824) (by omega)
  rw [← tn1, ← tn2, ← tn3] at to1
  rw [← tn1, ← tn2, ← tn3] at hG
  rw [← to1] at hG
  have ro := RB.add (k := 3000000) (RB.add (k := 2000000) (RB.mul (k := 589829) rn1 rx1 (by omega)) (RB.mul (k := 589829) rn2 rx2 (by omega)) (by omega)) (RB.mul (k := 589829) rn3 rx3 (by omega)) (by omega)
  obtain ⟨o, fo⟩ : ∃ z, n1 * x1 + n2 * x2 + n3 * x3 = z := ⟨_, rfl⟩
  rw [fo] at ro hG
  have Fon := ro.num (k := 1073741824) (by omega)
  have Fod := ro.den (k := 1073741824) (by omega)
  clear ea1 ea2 ea3 ea4 eb1 eb2 eb3 eb4 ec1 ec2 ec3 ec4 tn1 tn2 tn3 to1 rx1 rx2 rx3 ry1 ry2 ry3 rz1 rz2 rz3 ru1 ru2 ru3 rv1 rv2 rv3 rn1 rn2 rn3 ro
  unfold mk5 at hG
  by_cases h0 : mkO n1 n1 n2 n3 o = 0 ∧ mkO n2 n1 n2 n3 o = 0 ∧ mkO n3 n1 n2 n3 o = 0
  · rw [if_pos h0] at hG
    cases hG
    refine ⟨rfl, by simp, ?_⟩
    have hh := eq_true h0
    simp only [c60, initT, List.zipIdx_cons, List.zipIdx_nil, List.map_cons, List.map_nil, Nat.reduceAdd]
    simp only [↓R0, R1, rdL, rdH, isCall, istep, ibin, vcells, fillI, setR, flat, okCell, isBase, List.set, List.drop, List.take, List.append, bnds, bhi, blo, srcOf, simprocAttr, -Int.reduceAbs, spR4Coords, spR5Less, spR5Across, spR5Dot, r3E, rv_can, rE, ga1, fa1, ga2, fa2, ga3, fa3, ga4, fa4, pwa, gb1, fb1, gb2, fb2, gb3, fb3, gb4, fb4, pwb, gc1, fc1, gc2, fc2, gc3, fc3, gc4, fc4, pwc, fx1, fx2, fx3, fy1, fy2, fy3, fz1, fz2, fz3, Fx1n, Fx1d, Fx2n, Fx2d, Fx3n, Fx3d, Fy1n, Fy1d, Fy2n, Fy2d, Fy3n, Fy3d, Fz1n, Fz1d, Fz2n, Fz2d, Fz3n, Fz3d, fu1, Fu1n, Fu1d, fu2, Fu2n, Fu2d, fu3, Fu3n, Fu3d, fv1, Fv1n, Fv1d, fv2, Fv2n, Fv2d, fv3, Fv3n, Fv3d, fn1, Fn1n, Fn1d, fn2, Fn2n, Fn2d, fn3, Fn3n, Fn3d, fo, Fon, Fod]
    simp only [↓R0, R1, rdL, rdH, isCall, istep, ibin, vcells, fillI, setR, flat, okCell, isBase, List.set, List.drop, List.take, List.append, bnds, bhi, blo, srcOf, simprocAttr, -Int.reduceAbs, spR5Make, mk5, rv_can, ga1, fa1, ga2, fa2, ga3, fa3, ga4, fa4, pwa, gb1, fb1, gb2, fb2, gb3, fb3, gb4, fb4, pwb, gc1, fc1, gc2, fc2, gc3, fc3, gc4, fc4, pwc, fx1, fx2, fx3, fy1, fy2, fy3, fz1, fz2, fz3, Fx1n, Fx1d, Fx2n, Fx2d, Fx3n, Fx3d, Fy1n, Fy1d, Fy2n, Fy2d, Fy3n, Fy3d, Fz1n, Fz1d, Fz2n, Fz2d, Fz3n, Fz3d, fu1, Fu1n, Fu1d, fu2, Fu2n, Fu2d, fu3, Fu3n, Fu3d, fv1, Fv1n, Fv1d, fv2, Fv2n, Fv2d, fv3, Fv3n, Fv3d, fn1, Fn1n, Fn1d, fn2, Fn2n, Fn2d, fn3, Fn3n, Fn3d, fo, Fon, Fod, hh, pZ, Fin, isEnd, resL, res1, iE, rE]
    exact ⟨_, rfl, rfl, fun k hk => by simp only [ne_nb hk, if_false]⟩
  · rw [if_neg h0] at hG
    cases hG
    refine ⟨rfl, by simp, ?_⟩
    have hh := eq_false h0
    simp only [c60, initT, List.zipIdx_cons, List.zipIdx_nil, List.map_cons, List.map_nil, Nat.reduceAdd]
    simp only [↓R0, R1, rdL, rdH, isCall, istep, ibin, vcells, fillI, setR, flat, okCell, isBase, List.set, List.drop, List.take, List.append, bnds, bhi, blo, srcOf, simprocAttr, -Int.reduceAbs, spR4Coords, spR5Less, spR5Across, spR5Dot, r3E, rv_can, rE, ga1, fa1, ga2, fa2, ga3, fa3, ga4, fa4, pwa, gb1, fb1, gb2, fb2, gb3, fb3, gb4, fb4, pwb, gc1, fc1, gc2, fc2, gc3, fc3, gc4, fc4, pwc, fx1, fx2, fx3, fy1, fy2, fy3, fz1, fz2, fz3, Fx1n, Fx1d, Fx2n, Fx2d, Fx3n, Fx3d, Fy1n, Fy1d, Fy2n, Fy2d, Fy3n, Fy3d, Fz1n, Fz1d, Fz2n, Fz2d, Fz3n, Fz3d, fu1, Fu1n, Fu1d, fu2, Fu2n, Fu2d, fu3, Fu3n, Fu3d, fv1, Fv1n, Fv1d, fv2, Fv2n, Fv2d, fv3, Fv3n, Fv3d, fn1, Fn1n, Fn1d, fn2, Fn2n, Fn2d, fn3, Fn3n, Fn3d, fo, Fon, Fod]
    simp only [↓R0, R1, rdL, rdH, isCall, istep, ibin, vcells, fillI, setR, flat, okCell, isBase, List.set, List.drop, List.take, List.append, bnds, bhi, blo, srcOf, simprocAttr, -Int.reduceAbs, spR5Make, mk5, rv_can, ga1, fa1, ga2, fa2, ga3, fa3, ga4, fa4, pwa, gb1, fb1, gb2, fb2, gb3, fb3, gb4, fb4, pwb, gc1, fc1, gc2, fc2, gc3, fc3, gc4, fc4, pwc, fx1, fx2, fx3, fy1, fy2, fy3, fz1, fz2, fz3, Fx1n, Fx1d, Fx2n, Fx2d, Fx3n, Fx3d, Fy1n, Fy1d, Fy2n, Fy2d, Fy3n, Fy3d, Fz1n, Fz1d, Fz2n, Fz2d, Fz3n, Fz3d, fu1, Fu1n, Fu1d, fu2, Fu2n, Fu2d, fu3, Fu3n, Fu3d, fv1, Fv1n, Fv1d, fv2, Fv2n, Fv2d, fv3, Fv3n, Fv3d, fn1, Fn1n, Fn1d, fn2, Fn2n, Fn2d, fn3, Fn3n, Fn3d, fo, Fon, Fod, hh, lE, Fin, isEnd, resL, res1, iE, rE]
    exact ⟨_, rfl, rfl, fun k hk => by simp only [ne_nb hk, if_false]⟩
def spR5Side : List Value → Option Value
  | [.agg ⟨[.bool s1, .string ⟨⟨l1⟩⟩, .bool s2, .string ⟨⟨l2⟩⟩, .bool s3, .string ⟨⟨l3⟩⟩, .bool s4, .string ⟨⟨l4⟩⟩]⟩, .agg ⟨[.bool t1, .string ⟨⟨m1⟩⟩, .bool t2, .string ⟨⟨m2⟩⟩, .bool t3, .string ⟨⟨m3⟩⟩, .bool t4, .string ⟨⟨m4⟩⟩]⟩] =>
    if l1.length ≤ 4294967296 ∧ l2.length ≤ 4294967296 ∧ l3.length ≤ 4294967296 ∧ l4.length ≤ 4294967296 ∧ m1.length ≤ 4294967296 ∧ m2.length ≤ 4294967296 ∧ m3.length ≤ 4294967296 ∧ m4.length ≤ 4294967296 then
      some (.int .i64 (-(sv s4 l4 * sv t4 m4) + sv s1 l1 * sv t1 m1 + sv s2 l2 * sv t2 m2 + sv s3 l3 * sv t3 m3).sign) else none
  | _ => none
def c61 : ICode :=
  (.seq (.reg [⟨(some 2), none, (.box 25 8 (.t 0))⟩, ⟨(some 3), none, (.box 30 8 (.t 1))⟩, ⟨(some 4), none, (.mv (.c (.int .i64 0)))⟩])
  (.seq (.reg [⟨(some 6), none, (.faddr 6 (.t 2))⟩, ⟨(some 7), none, (.load true 2 (.t 6))⟩, ⟨(some 8), none, (.faddr 6 (.t 3))⟩, ⟨(some 9), none, (.load true 2 (.t 8))⟩, ⟨(some 10), none, (.call 87 [(.t 7), (.t 9)])⟩, ⟨(some 11), none, (.call 50 [(.t 10)])⟩, ⟨(some 5), none, (.alloc 23 2 [(.bool false), (.string ⟨⟨[]⟩⟩)])⟩, ⟨none, none, (.store 2 (.t 5) (.t 11))⟩])
  (.seq (.dreg [⟨(some 12), none, [], (.load true 2 (.t 5))⟩, ⟨(some 13), none, [], (.faddr 0 (.t 2))⟩, ⟨(some 14), none, [], (.load true 2 (.t 13))⟩, ⟨(some 15), none, [], (.faddr 0 (.t 3))⟩, ⟨(some 16), none, [], (.load true 2 (.t 15))⟩, ⟨(some 17), none, [], (.call 87 [(.t 14), (.t 16)])⟩, ⟨(some 18), none, [], (.call 95 [(.t 12), (.t 17)])⟩, ⟨none, none, [], (.store 2 (.t 5) (.t 18))⟩])
  (.seq (.dreg [⟨(some 19), none, [], (.load true 2 (.t 5))⟩, ⟨(some 20), none, [], (.faddr 2 (.t 2))⟩, ⟨(some 21), none, [], (.load true 2 (.t 20))⟩, ⟨(some 22), none, [], (.faddr 2 (.t 3))⟩, ⟨(some 23), none, [], (.load true 2 (.t 22))⟩, ⟨(some 24), none, [], (.call 87 [(.t 21), (.t 23)])⟩, ⟨(some 25), none, [], (.call 95 [(.t 19), (.t 24)])⟩, ⟨none, none, [], (.store 2 (.t 5) (.t 25))⟩])
  (.seq (.dreg [⟨(some 26), none, [], (.load true 2 (.t 5))⟩, ⟨(some 27), none, [], (.faddr 4 (.t 2))⟩, ⟨(some 28), none, [], (.load true 2 (.t 27))⟩, ⟨(some 29), none, [], (.faddr 4 (.t 3))⟩, ⟨(some 30), none, [], (.load true 2 (.t 29))⟩, ⟨(some 31), none, [], (.call 87 [(.t 28), (.t 30)])⟩, ⟨(some 32), none, [], (.call 95 [(.t 26), (.t 31)])⟩, ⟨none, none, [], (.store 2 (.t 5) (.t 32))⟩])
  (.seq (.reg [⟨(some 33), none, (.load true 2 (.t 5))⟩, ⟨(some 34), none, (.call 47 [(.t 33)])⟩, ⟨(some 4), none, (.mv (.t 34))⟩])
  .ret))))))
theorem tr61 : trFun Tryz.prog 61 = some ⟨35, [.t 4], c61⟩ := by kernel_rfl
set_option maxHeartbeats 2000000 in
theorem ok_r5Side : SpecOK Tryz.prog 61 (flat spR5Side) := by
  refine flat_run (env_cons ok_r2Mul (env_cons ok_r2Add (env_cons ok_r2Neg (env_cons ok_r2Sign (env_nil _))))) mixed tr61 ?_
  intro args v h N hG
  unfold spR5Side at hG
  split at hG
  case h_2 => cases hG
  rename_i s1 l1 s2 l2 s3 l3 s4 l4 t1 m1 t2 m2 t3 m3 t4 m4
  split at hG
  case isFalse => cases hG
  rename_i hl
  obtain ⟨h1, h2, h3, h4, g1, g2, g3, g4⟩ := hl
  cases hG
  refine ⟨rfl, by simp, ?_⟩
  have a1 : l1.length + m1.length ≤ 274877906944 := by omega
  have a2 : l2.length + m2.length ≤ 274877906944 := by omega
  have a3 : l3.length + m3.length ≤ 274877906944 := by omega
  have a4 : l4.length + m4.length ≤ 274877906944 := by omega
  have p1 := lmul (k := 8589934592) (len_sv (s := s1) h1) (len_sv (s := t1) g1) (by omega)
  have p2 := lmul (k := 8589934592) (len_sv (s := s2) h2) (len_sv (s := t2) g2) (by omega)
  have p3 := lmul (k := 8589934592) (len_sv (s := s3) h3) (len_sv (s := t3) g3) (by omega)
  have p4 := lmul (k := 8589934592) (len_sv (s := s4) h4) (len_sv (s := t4) g4) (by omega)
  have p5 : (bl (-(sv s4 l4 * sv t4 m4)).natAbs).length ≤ 8589934592 := by rw [Int.natAbs_neg]; exact p4
  have x4 := lle (k := 1099511627776) p4 (by omega)
  have x1 := lle (k := 549755813888) p1 (by omega)
  have x2 := lle (k := 549755813888) p2 (by omega)
  have x3 := lle (k := 549755813888) p3 (by omega)
  have x5 := lle (k := 549755813888) p5 (by omega)
  have y1 := ladd (k := 8589934593) p5 p1 (by omega)
  have y2 := ladd (k := 8589934594) y1 p2 (by omega)
  have y3 := ladd (k := 1099511627776) y2 p3 (by omega)
  have z1 := lle (k := 549755813888) y1 (by omega)
  have z2 := lle (k := 549755813888) y2 (by omega)
  simp only [c61, initT, List.zipIdx_cons, List.zipIdx_nil, List.map_cons, List.map_nil, Nat.reduceAdd]
  simp only [↓R0, R1, rdL, rdH, isCall, istep, ibin, vcells, fillI, setR, flat, okCell, isBase, List.set, List.drop, List.take, List.append, bnds, bhi, blo, srcOf, simprocAttr, -Int.reduceAbs, spI2Mul, spI2Neg, spI2Add, spI2Sign, a1, a2, a3, a4, x1, x2, x3, x4, x5, z1, z2, y3, Fin, isEnd, resL, res1, iE, rE]
  exact ⟨_, rfl, rfl, fun k hk => by simp only [ne_nb hk, if_false]⟩
def spR6Orient : List Value → Option Value
  | [.agg ⟨[.bool s1, .string ⟨⟨l1⟩⟩, .bool s2, .string ⟨⟨l2⟩⟩, .bool s3, .string ⟨⟨l3⟩⟩, .bool s4, .string ⟨⟨l4⟩⟩]⟩, .agg ⟨[.bool t1, .string ⟨⟨m1⟩⟩, .bool t2, .string ⟨⟨m2⟩⟩, .bool t3, .string ⟨⟨m3⟩⟩, .bool t4, .string ⟨⟨m4⟩⟩]⟩, .agg ⟨[.bool q1, .string ⟨⟨k1⟩⟩, .bool q2, .string ⟨⟨k2⟩⟩, .bool q3, .string ⟨⟨k3⟩⟩, .bool q4, .string ⟨⟨k4⟩⟩]⟩, .agg ⟨[.bool p1, .string ⟨⟨j1⟩⟩, .bool p2, .string ⟨⟨j2⟩⟩, .bool p3, .string ⟨⟨j3⟩⟩, .bool p4, .string ⟨⟨j4⟩⟩]⟩] =>
    if (l1.length ≤ 65536 ∧ l2.length ≤ 65536 ∧ l3.length ≤ 65536 ∧ l4.length ≤ 65536 ∧ m1.length ≤ 65536 ∧ m2.length ≤ 65536 ∧ m3.length ≤ 65536 ∧ m4.length ≤ 65536 ∧ k1.length ≤ 65536 ∧ k2.length ≤ 65536 ∧ k3.length ≤ 65536 ∧ k4.length ≤ 65536 ∧ j1.length ≤ 65536 ∧ j2.length ≤ 65536 ∧ j3.length ≤ 65536 ∧ j4.length ≤ 65536) ∧ 0 < (sv s4 l4) ∧ 0 < (sv t4 m4) ∧ 0 < (sv q4 k4) then some (.int .i64 (dt4 (sv s1 l1) (sv s2 l2) (sv s3 l3) (sv s4 l4) (sv t1 m1) (sv t2 m2) (sv t3 m3) (sv t4 m4) (sv q1 k1) (sv q2 k2) (sv q3 k3) (sv q4 k4) (sv p1 j1) (sv p2 j2) (sv p3 j3) (sv p4 j4)).sign) else none
  | _ => none
def c18 : ICode :=
  (.seq (.reg [⟨(some 4), none, (.box 30 8 (.t 0))⟩, ⟨(some 5), none, (.box 30 8 (.t 1))⟩, ⟨(some 6), none, (.box 30 8 (.t 2))⟩, ⟨(some 7), none, (.box 30 8 (.t 3))⟩, ⟨(some 8), none, (.mv (.c (.int .i64 0)))⟩])
  (.seq (.reg [⟨(some 12), none, (.load true 8 (.t 4))⟩, ⟨(some 13), none, (.load true 8 (.t 5))⟩, ⟨(some 14), none, (.load true 8 (.t 6))⟩, ⟨(some 15), none, (.call 60 [(.t 12), (.t 13), (.t 14)])⟩, ⟨(some 11), none, (.mv (.t 15))⟩, ⟨(some 16), none, (.ext (.t 11) 0)⟩, ⟨(some 17), none, (.ext (.t 11) 1)⟩, ⟨(some 9), none, (.alloc 25 8 [(.bool false), (.string ⟨⟨[]⟩⟩), (.bool false), (.string ⟨⟨[]⟩⟩), (.bool false), (.string ⟨⟨[]⟩⟩), (.bool false), (.string ⟨⟨[]⟩⟩)])⟩, ⟨none, none, (.store 8 (.t 9) (.t 16))⟩, ⟨(some 10), none, (.mv (.t 17))⟩])
  (.seq (.seq (.reg [⟨(some 18), none, (.mv (.t 10))⟩, ⟨(some 19), none, (.un .not (.t 18))⟩])
  (.cond (.t 19)
  (.seq (.reg [⟨(some 8), none, (.mv (.c (.int .i64 0)))⟩])
  .ret)
  .skip))
  (.seq (.reg [⟨(some 20), none, (.load true 8 (.t 9))⟩, ⟨(some 21), none, (.load true 8 (.t 7))⟩, ⟨(some 22), none, (.call 61 [(.t 20), (.t 21)])⟩, ⟨(some 8), none, (.mv (.t 22))⟩])
  .ret))))
theorem tr18 : trFun Tryz.prog 18 = some ⟨23, [.t 8], c18⟩ := by kernel_rfl
set_option maxHeartbeats 4000000 in
theorem ok_r6Orient : SpecOK Tryz.prog 18 (flat spR6Orient) := by
  refine flat_run (env_cons ok_r5Through (env_cons ok_r5Side (env_nil _))) mixed tr18 ?_
  intro args v h N hG
  unfold spR6Orient at hG
  split at hG
  case h_2 => cases hG
  rename_i s1 l1 s2 l2 s3 l3 s4 l4 t1 m1 t2 m2 t3 m3 t4 m4 q1 k1 q2 k2 q3 k3 q4 k4 p1 j1 p2 j2 p3 j3 p4 j4
  split at hG
  case isFalse => cases hG
  rename_i hl
  obtain ⟨⟨ha1, ha2, ha3, ha4, hb1, hb2, hb3, hb4, hc1, hc2, hc3, hc4, hd1, hd2, hd3, hd4⟩, pa, pb, pc⟩ := hl
  have ea1 := len_sv (s := s1) ha1
  obtain ⟨a1, fa1⟩ : ∃ z, sv s1 l1 = z := ⟨_, rfl⟩
  rw [fa1] at ea1 hG
  have ea2 := len_sv (s := s2) ha2
  obtain ⟨a2, fa2⟩ : ∃ z, sv s2 l2 = z := ⟨_, rfl⟩
  rw [fa2] at ea2 hG
  have ea3 := len_sv (s := s3) ha3
  obtain ⟨a3, fa3⟩ : ∃ z, sv s3 l3 = z := ⟨_, rfl⟩
  rw [fa3] at ea3 hG
  have ea4 := len_sv (s := s4) ha4
  obtain ⟨a4, fa4⟩ : ∃ z, sv s4 l4 = z := ⟨_, rfl⟩
  rw [fa4] at ea4 hG
  have eb1 := len_sv (s := t1) hb1
  obtain ⟨b1, fb1⟩ : ∃ z, sv t1 m1 = z := ⟨_, rfl⟩
  rw [fb1] at eb1 hG
  have eb2 := len_sv (s := t2) hb2
  obtain ⟨b2, fb2⟩ : ∃ z, sv t2 m2 = z := ⟨_, rfl⟩
  rw [fb2] at eb2 hG
  have eb3 := len_sv (s := t3) hb3
  obtain ⟨b3, fb3⟩ : ∃ z, sv t3 m3 = z := ⟨_, rfl⟩
  rw [fb3] at eb3 hG
  have eb4 := len_sv (s := t4) hb4
  obtain ⟨b4, fb4⟩ : ∃ z, sv t4 m4 = z := ⟨_, rfl⟩
  rw [fb4] at eb4 hG
  have ec1 := len_sv (s := q1) hc1
  obtain ⟨c1, fc1⟩ : ∃ z, sv q1 k1 = z := ⟨_, rfl⟩
  rw [fc1] at ec1 hG
  have ec2 := len_sv (s := q2) hc2
  obtain ⟨c2, fc2⟩ : ∃ z, sv q2 k2 = z := ⟨_, rfl⟩
  rw [fc2] at ec2 hG
  have ec3 := len_sv (s := q3) hc3
  obtain ⟨c3, fc3⟩ : ∃ z, sv q3 k3 = z := ⟨_, rfl⟩
  rw [fc3] at ec3 hG
  have ec4 := len_sv (s := q4) hc4
  obtain ⟨c4, fc4⟩ : ∃ z, sv q4 k4 = z := ⟨_, rfl⟩
  rw [fc4] at ec4 hG
  have ed1 := len_sv (s := p1) hd1
  obtain ⟨d1, fd1⟩ : ∃ z, sv p1 j1 = z := ⟨_, rfl⟩
  rw [fd1] at ed1 hG
  have ed2 := len_sv (s := p2) hd2
  obtain ⟨d2, fd2⟩ : ∃ z, sv p2 j2 = z := ⟨_, rfl⟩
  rw [fd2] at ed2 hG
  have ed3 := len_sv (s := p3) hd3
  obtain ⟨d3, fd3⟩ : ∃ z, sv p3 j3 = z := ⟨_, rfl⟩
  rw [fd3] at ed3 hG
  have ed4 := len_sv (s := p4) hd4
  obtain ⟨d4, fd4⟩ : ∃ z, sv p4 j4 = z := ⟨_, rfl⟩
  rw [fd4] at ed4 hG
  rw [fa4] at pa
  have nea : a4 ≠ 0 := by omega
  rw [fb4] at pb
  have neb : b4 ≠ 0 := by omega
  rw [fc4] at pc
  have nec : c4 ≠ 0 := by omega
  have hK : 0 < a4 * b4 * c4 := Int.mul_pos (Int.mul_pos pa pb) pc
  have hF := flt_dt4 (a1 := a1) (a2 := a2) (a3 := a3) (a4 := a4) (b1 := b1) (b2 := b2) (b3 := b3) (b4 := b4) (c1 := c1) (c2 := c2) (c3 := c3) (c4 := c4) (d1 := d1) (d2 := d2) (d3 := d3) (d4 := d4) nea
  have l3 : ∀ {x1 x2 x3 y1 y2 y3 z1 z2 z3 : Int}, (bl x1.natAbs).length ≤ 65536 → (bl x2.natAbs).length ≤ 65536 → (bl x3.natAbs).length ≤ 65536 → (bl y1.natAbs).length ≤ 65536 → (bl y2.natAbs).length ≤ 65536 → (bl y3.natAbs).length ≤ 65536 → (bl z1.natAbs).length ≤ 65536 → (bl z2.natAbs).length ≤ 65536 → (bl z3.natAbs).length ≤ 65536 → (bl (dt3 x1 x2 x3 y1 y2 y3 z1 z2 z3).natAbs).length ≤ 196611 := by
    intro x1 x2 x3 y1 y2 y3 z1 z2 z3 i1 i2 i3 i4 i5 i6 i7 i8 i9
    have w : ∀ {a b c d : Int}, (bl a.natAbs).length ≤ 65536 → (bl b.natAbs).length ≤ 65536 → (bl c.natAbs).length ≤ 65536 → (bl d.natAbs).length ≤ 65536 → (bl (a * b - c * d).natAbs).length ≤ 131073 := fun ha hb hc hd => lsub (lmul (k := 131072) ha hb (by omega)) (lmul (k := 131072) hc hd (by omega)) (by omega)
    unfold dt3
    exact ladd (lsub (k := 196610) (lmul (k := 196609) i1 (w i5 i9 i6 i8) (by omega)) (lmul (k := 196609) i2 (w i4 i9 i6 i7) (by omega)) (by omega)) (lmul (k := 196609) i3 (w i4 i8 i5 i7) (by omega)) (by omega)
  have D1 := divInt_RB (k := 200000) (D := a4 * b4 * c4) (by omega) (lle (l3 ea2 ea3 ea4 eb2 eb3 eb4 ec2 ec3 ec4) (by omega)) (lmul (lmul (k := 131072) ea4 eb4 (by omega)) ec4 (by omega))
  have D2 := divInt_RB (k := 200000) (D := a4 * b4 * c4) (by omega) (lle (l3 ea3 ea1 ea4 eb3 eb1 eb4 ec3 ec1 ec4) (by omega)) (lmul (lmul (k := 131072) ea4 eb4 (by omega)) ec4 (by omega))
  have D3 := divInt_RB (k := 200000) (D := a4 * b4 * c4) (by omega) (lle (l3 ea1 ea2 ea4 eb1 eb2 eb4 ec1 ec2 ec4) (by omega)) (lmul (lmul (k := 131072) ea4 eb4 (by omega)) ec4 (by omega))
  have D4 := divInt_RB (k := 200000) (D := a4 * b4 * c4) (by omega) (lle (l3 ea1 ea2 ea3 eb1 eb2 eb3 ec1 ec2 ec3) (by omega)) (lmul (lmul (k := 131072) ea4 eb4 (by omega)) ec4 (by omega))
  clear l3
  obtain ⟨K, eK⟩ : ∃ z, a4 * b4 * c4 = z := ⟨_, rfl⟩
  rw [eK] at hK D1 D2 D3 D4
  unfold flt at hF
  unfold dt4 at hF hG
  obtain ⟨X, eX⟩ : ∃ z, dt3 a2 a3 a4 b2 b3 b4 c2 c3 c4 = z := ⟨_, rfl⟩
  obtain ⟨Y, eY⟩ : ∃ z, dt3 a3 a1 a4 b3 b1 b4 c3 c1 c4 = z := ⟨_, rfl⟩
  obtain ⟨Z, eZ⟩ : ∃ z, dt3 a1 a2 a4 b1 b2 b4 c1 c2 c4 = z := ⟨_, rfl⟩
  obtain ⟨W, eW⟩ : ∃ z, dt3 a1 a2 a3 b1 b2 b3 c1 c2 c3 = z := ⟨_, rfl⟩
  rw [eX, eY, eZ, eW] at hF hG
  rw [eX] at D1; rw [eY] at D2; rw [eZ] at D3; rw [eW] at D4
  obtain ⟨x, ex⟩ : ∃ z, Rat.divInt X K = z := ⟨_, rfl⟩
  obtain ⟨y, ey⟩ : ∃ z, Rat.divInt Y K = z := ⟨_, rfl⟩
  obtain ⟨z, ez⟩ : ∃ z, Rat.divInt Z K = z := ⟨_, rfl⟩
  obtain ⟨w, ew⟩ : ∃ z, Rat.divInt W K = z := ⟨_, rfl⟩
  rw [ex] at D1; rw [ey] at D2; rw [ez] at D3; rw [ew] at D4
  obtain ⟨M, hM, m1, m2, m3, m4⟩ := mkO_all ex.symm ey.symm ez.symm ew.symm hK
  have lP : ∀ {n : Int} {g : Rat}, (bl n.natAbs).length ≤ 200000 → (bl (n * (((x.den : Int) * y.den * z.den * w.den) / g.den)).natAbs).length ≤ 1000000 := by
    intro n g hn
    refine lmul hn (Nat.le_trans (bl_length_mono (Int.natAbs_ediv_le_natAbs _ _)) (lmul (i := 600000) (j := 200000) (k := 800000) (lmul (i := 400000) (j := 200000) (lmul (i := 200000) (j := 200000) D1.2 D2.2 (by omega)) D3.2 (by omega)) D4.2 (by omega))) (by omega)
  have L1 : (bl (mkO x x y z w).natAbs).length ≤ 1000000 := lP D1.1
  have L2 : (bl (mkO y x y z w).natAbs).length ≤ 1000000 := lP D2.1
  have L3 : (bl (mkO z x y z w).natAbs).length ≤ 1000000 := lP D3.1
  have L4 : (bl (mkO w x y z w).natAbs).length ≤ 1000000 := lP D4.1
  clear lP D1 D2 D3 D4
  have s1 := mkO_sign (d1 := d1) (d2 := d2) (d3 := d3) (d4 := d4) m1 m2 m3 m4 hK hM
  have z1 := mkO_zero m1 hK hM
  have z2 := mkO_zero m2 hK hM
  have z3 := mkO_zero m3 hK hM
  obtain ⟨A, eA⟩ : ∃ g, mkO x x y z w = g := ⟨_, rfl⟩
  rw [eA] at L1 s1 z1
  obtain ⟨B, eB⟩ : ∃ g, mkO y x y z w = g := ⟨_, rfl⟩
  rw [eB] at L2 s1 z2
  obtain ⟨C, eC⟩ : ∃ v, mkO z x y z w = v := ⟨_, rfl⟩
  rw [eC] at L3 s1 z3
  obtain ⟨D, eD⟩ : ∃ g, mkO w x y z w = g := ⟨_, rfl⟩
  rw [eD] at L4 s1
  clear m1 m2 m3 m4
  cases hG
  refine ⟨rfl, by simp, ?_⟩
  have j1 := Nat.le_trans hd1 (show 65536 ≤ 4294967296 by omega)
  have j2 := Nat.le_trans hd2 (show 65536 ≤ 4294967296 by omega)
  have j3 := Nat.le_trans hd3 (show 65536 ≤ 4294967296 by omega)
  have j4 := Nat.le_trans hd4 (show 65536 ≤ 4294967296 by omega)
  by_cases h0 : A = 0 ∧ B = 0 ∧ C = 0
  · have hh := eq_true h0
    have hz := hF ⟨z1 ▸ h0.1, z2 ▸ h0.2.1, z3 ▸ h0.2.2⟩
    rw [hz]
    simp only [c18, initT, List.zipIdx_cons, List.zipIdx_nil, List.map_cons, List.map_nil, Nat.reduceAdd]
    simp only [↓R0, R1, rdL, rdH, isCall, istep, ibin, vcells, fillI, setR, flat, okCell, isBase, List.set, List.drop, List.take, List.append, bnds, bhi, blo, srcOf, simprocAttr, -Int.reduceAbs, spR5Through, mk5, ha1, fa1, ha2, fa2, ha3, fa3, ha4, fa4, hb1, fb1, hb2, fb2, hb3, fb3, hb4, fb4, hc1, fc1, hc2, fc2, hc3, fc3, hc4, fc4, hd1, fd1, hd2, fd2, hd3, fd3, hd4, fd4, pa, pb, pc, eK, eX, eY, eZ, eW, ex, ey, ez, ew, eA, eB, eC, eD, hh, pZ, Int.sign_zero, Bool.not_false, Bool.not_true, Fin, isEnd, resL, res1, iE, rE]
    exact ⟨_, rfl, rfl, fun k hk => by simp only [ne_nb hk, if_false]⟩
  · have hh := eq_false h0
    have hs := lG_side (w := D) d1 d2 d3 d4 h0
    rw [s1] at hs
    rw [← hs]
    have q1 : (bl (A / (lG A B C D : Int)).natAbs).length ≤ 4294967296 := Nat.le_trans (bl_length_mono (Int.natAbs_ediv_le_natAbs _ _)) (by omega)
    have q2 : (bl (B / (lG A B C D : Int)).natAbs).length ≤ 4294967296 := Nat.le_trans (bl_length_mono (Int.natAbs_ediv_le_natAbs _ _)) (by omega)
    have q3 : (bl (C / (lG A B C D : Int)).natAbs).length ≤ 4294967296 := Nat.le_trans (bl_length_mono (Int.natAbs_ediv_le_natAbs _ _)) (by omega)
    have q4 : (bl (D / (lG A B C D : Int)).natAbs).length ≤ 4294967296 := Nat.le_trans (bl_length_mono (Int.natAbs_ediv_le_natAbs _ _)) (by omega)
    have fin : -(D / (lG A B C D : Int) * d4) + A / (lG A B C D : Int) * d1 + B / (lG A B C D : Int) * d2 + C / (lG A B C D : Int) * d3 = A / (lG A B C D : Int) * d1 + B / (lG A B C D : Int) * d2 + C / (lG A B C D : Int) * d3 - D / (lG A B C D : Int) * d4 := by omega
    simp only [c18, initT, List.zipIdx_cons, List.zipIdx_nil, List.map_cons, List.map_nil, Nat.reduceAdd]
    simp only [↓R0, R1, rdL, rdH, isCall, istep, ibin, vcells, fillI, setR, flat, okCell, isBase, List.set, List.drop, List.take, List.append, bnds, bhi, blo, srcOf, simprocAttr, -Int.reduceAbs, spR5Through, mk5, ha1, fa1, ha2, fa2, ha3, fa3, ha4, fa4, hb1, fb1, hb2, fb2, hb3, fb3, hb4, fb4, hc1, fc1, hc2, fc2, hc3, fc3, hc4, fc4, hd1, fd1, hd2, fd2, hd3, fd3, hd4, fd4, pa, pb, pc, eK, eX, eY, eZ, eW, ex, ey, ez, ew, eA, eB, eC, eD, hh, lE, iE, Bool.not_false, Bool.not_true]
    simp only [↓R0, R1, rdL, rdH, isCall, istep, ibin, vcells, fillI, setR, flat, okCell, isBase, List.set, List.drop, List.take, List.append, bnds, bhi, blo, srcOf, simprocAttr, -Int.reduceAbs, spR5Side, ha1, fa1, ha2, fa2, ha3, fa3, ha4, fa4, hb1, fb1, hb2, fb2, hb3, fb3, hb4, fb4, hc1, fc1, hc2, fc2, hc3, fc3, hc4, fc4, hd1, fd1, hd2, fd2, hd3, fd3, hd4, fd4, pa, pb, pc, eK, eX, eY, eZ, eW, ex, ey, ez, ew, eA, eB, eC, eD, j1, j2, j3, j4, q1, q2, q3, q4, fin, Fin, isEnd, resL, res1, iE, rE]
    exact ⟨_, rfl, rfl, fun k hk => by simp only [ne_nb hk, if_false]⟩
def spR6None : List Value → Option Value
  | [.agg ⟨[.bool s1, .string ⟨⟨n1⟩⟩, .string ⟨⟨d1⟩⟩, .bool s2, .string ⟨⟨n2⟩⟩, .string ⟨⟨d2⟩⟩, .bool s3, .string ⟨⟨n3⟩⟩, .string ⟨⟨d3⟩⟩]⟩] =>
    if n1.length ≤ 34359738368 ∧ d1.length ≤ 34359738368 ∧ n2.length ≤ 34359738368 ∧ d2.length ≤ 34359738368 ∧ n3.length ≤ 34359738368 ∧ d3.length ≤ 34359738368 then some (.bool (decide (sv s1 n1 = 0 ∧ sv s2 n2 = 0 ∧ sv s3 n3 = 0))) else none
  | _ => none
def c62 : ICode :=
  (.seq (.reg [⟨(some 1), none, (.box 67 9 (.t 0))⟩, ⟨(some 2), none, (.mv (.c (.bool false)))⟩])
  (.seq (.reg [⟨(some 3), none, (.ixarr 3 3 (.t 1) (.c (.int .i64 0)))⟩, ⟨(some 4), none, (.load true 3 (.t 3))⟩, ⟨(some 5), none, (.call 41 [(.t 4)])⟩, ⟨(some 6), none, (.bin .eql (.t 5) (.c (.int .i64 0)))⟩, ⟨(some 7), none, (.mv (.t 6))⟩, ⟨(some 8), (some (7, true)), (.ixarr 3 3 (.t 1) (.c (.int .i64 1)))⟩, ⟨(some 9), (some (7, true)), (.load true 3 (.t 8))⟩, ⟨(some 10), (some (7, true)), (.call 41 [(.t 9)])⟩, ⟨(some 11), (some (7, true)), (.bin .eql (.t 10) (.c (.int .i64 0)))⟩, ⟨(some 12), none, (.pick (.t 7) (.t 11) (.c (.bool false)))⟩, ⟨(some 13), none, (.mv (.t 12))⟩, ⟨(some 14), (some (13, true)), (.ixarr 3 3 (.t 1) (.c (.int .i64 2)))⟩, ⟨(some 15), (some (13, true)), (.load true 3 (.t 14))⟩, ⟨(some 16), (some (13, true)), (.call 41 [(.t 15)])⟩, ⟨(some 17), (some (13, true)), (.bin .eql (.t 16) (.c (.int .i64 0)))⟩, ⟨(some 18), none, (.pick (.t 13) (.t 17) (.c (.bool false)))⟩, ⟨(some 2), none, (.mv (.t 18))⟩])
  .ret))
theorem tr62 : trFun Tryz.prog 62 = some ⟨19, [.t 2], c62⟩ := by kernel_rfl
theorem ok_r6None : SpecOK Tryz.prog 62 (flat spR6None) := by
  refine flat_run (env_cons ok_r3Sign (env_nil _)) mixed tr62 ?_
  intro args v h N hG
  unfold spR6None at hG
  split at hG
  case h_2 => cases hG
  rename_i s1 n1 d1 s2 n2 d2 s3 n3 d3
  split at hG
  case isFalse => cases hG
  rename_i hl
  obtain ⟨h1, g1, h2, g2, h3, g3⟩ := hl
  cases hG
  refine ⟨rfl, by simp, ?_⟩
  have e : ∀ z : Int, (z.sign = 0) = (z = 0) := fun z => propext Int.sign_eq_zero_iff_zero
  by_cases z1 : sv s1 n1 = 0
  · by_cases z2 : sv s2 n2 = 0
    · by_cases z3 : sv s3 n3 = 0
      · simp only [c62, initT, List.zipIdx_cons, List.zipIdx_nil, List.map_cons, List.map_nil, Nat.reduceAdd]
        simp only [↓R0, R1, rdL, rdH, isCall, istep, ibin, vcells, fillI, setR, flat, okCell, isBase, List.set, List.drop, List.take, List.append, bnds, bhi, blo, srcOf, simprocAttr, -Int.reduceAbs, spR3Sign, h1, g1, h2, g2, h3, g3, z1, z2, z3, Int.sign_zero, Fin, isEnd, resL, res1, iE, rE]
        exact ⟨_, rfl, rfl, fun k hk => by simp only [ne_nb hk, if_false]⟩
      · simp only [c62, initT, List.zipIdx_cons, List.zipIdx_nil, List.map_cons, List.map_nil, Nat.reduceAdd]
        simp only [↓R0, R1, rdL, rdH, isCall, istep, ibin, vcells, fillI, setR, flat, okCell, isBase, List.set, List.drop, List.take, List.append, bnds, bhi, blo, srcOf, simprocAttr, -Int.reduceAbs, spR3Sign, h1, g1, h2, g2, h3, g3, z1, z2, z3, Int.sign_zero, e, and_false, Fin, isEnd, resL, res1, iE, rE]
        exact ⟨_, rfl, rfl, fun k hk => by simp only [ne_nb hk, if_false]⟩
    · simp only [c62, initT, List.zipIdx_cons, List.zipIdx_nil, List.map_cons, List.map_nil, Nat.reduceAdd]
      simp only [↓R0, R1, rdL, rdH, isCall, istep, ibin, vcells, fillI, setR, flat, okCell, isBase, List.set, List.drop, List.take, List.append, bnds, bhi, blo, srcOf, simprocAttr, -Int.reduceAbs, spR3Sign, h1, g1, h2, g2, h3, g3, z1, z2, Int.sign_zero, e, false_and, and_false, Fin, isEnd, resL, res1, iE, rE]
      exact ⟨_, rfl, rfl, fun k hk => by simp only [ne_nb hk, if_false]⟩
  · simp only [c62, initT, List.zipIdx_cons, List.zipIdx_nil, List.map_cons, List.map_nil, Nat.reduceAdd]
    simp only [↓R0, R1, rdL, rdH, isCall, istep, ibin, vcells, fillI, setR, flat, okCell, isBase, List.set, List.drop, List.take, List.append, bnds, bhi, blo, srcOf, simprocAttr, -Int.reduceAbs, spR3Sign, h1, g1, h2, g2, h3, g3, z1, e, false_and, Fin, isEnd, resL, res1, iE, rE]
    exact ⟨_, rfl, rfl, fun k hk => by simp only [ne_nb hk, if_false]⟩
def spR6Straight : List Value → Option Value
  | [.agg ⟨[.bool s1, .string ⟨⟨l1⟩⟩, .bool s2, .string ⟨⟨l2⟩⟩, .bool s3, .string ⟨⟨l3⟩⟩, .bool s4, .string ⟨⟨l4⟩⟩]⟩, .agg ⟨[.bool t1, .string ⟨⟨m1⟩⟩, .bool t2, .string ⟨⟨m2⟩⟩, .bool t3, .string ⟨⟨m3⟩⟩, .bool t4, .string ⟨⟨m4⟩⟩]⟩, .agg ⟨[.bool q1, .string ⟨⟨k1⟩⟩, .bool q2, .string ⟨⟨k2⟩⟩, .bool q3, .string ⟨⟨k3⟩⟩, .bool q4, .string ⟨⟨k4⟩⟩]⟩] =>
    if (l1.length ≤ 65536 ∧ l2.length ≤ 65536 ∧ l3.length ≤ 65536 ∧ l4.length ≤ 65536 ∧ m1.length ≤ 65536 ∧ m2.length ≤ 65536 ∧ m3.length ≤ 65536 ∧ m4.length ≤ 65536 ∧ k1.length ≤ 65536 ∧ k2.length ≤ 65536 ∧ k3.length ≤ 65536 ∧ k4.length ≤ 65536) ∧ 0 < (sv s4 l4) ∧ 0 < (sv t4 m4) ∧ 0 < (sv q4 k4) then some (.bool (decide (flt (sv s1 l1) (sv s2 l2) (sv s3 l3) (sv s4 l4) (sv t1 m1) (sv t2 m2) (sv t3 m3) (sv t4 m4) (sv q1 k1) (sv q2 k2) (sv q3 k3) (sv q4 k4)))) else none
  | _ => none
def c20 : ICode :=
  (.seq (.reg [⟨(some 3), none, (.box 30 8 (.t 0))⟩, ⟨(some 4), none, (.box 30 8 (.t 1))⟩, ⟨(some 5), none, (.box 30 8 (.t 2))⟩, ⟨(some 6), none, (.mv (.c (.bool false)))⟩])
  (.seq (.dreg [⟨(some 7), none, [], (.load true 8 (.t 4))⟩, ⟨(some 8), none, [], (.load true 8 (.t 3))⟩, ⟨(some 9), none, [], (.call 55 [(.t 7), (.t 8)])⟩, ⟨(some 10), none, [2], (.load true 8 (.t 5))⟩, ⟨(some 11), none, [2], (.load true 8 (.t 3))⟩, ⟨(some 12), none, [], (.call 55 [(.t 10), (.t 11)])⟩, ⟨(some 13), none, [], (.call 40 [(.t 9), (.t 12)])⟩, ⟨(some 14), none, [], (.call 62 [(.t 13)])⟩, ⟨(some 6), none, [], (.mv (.t 14))⟩])
  .ret))
theorem tr20 : trFun Tryz.prog 20 = some ⟨15, [.t 6], c20⟩ := by kernel_rfl
set_option maxHeartbeats 4000000 in
theorem ok_r6Straight : SpecOK Tryz.prog 20 (flat spR6Straight) := by
  refine flat_run (env_cons ok_r6Minus (env_cons ok_r6Times (env_cons ok_r6None (env_nil _)))) mixed tr20 ?_
  intro args v h N hG
  unfold spR6Straight at hG
  split at hG
  case h_2 => cases hG
  rename_i s1 l1 s2 l2 s3 l3 s4 l4 t1 m1 t2 m2 t3 m3 t4 m4 q1 k1 q2 k2 q3 k3 q4 k4
  split at hG
  case isFalse => cases hG
  rename_i hl
  obtain ⟨⟨ha1, ha2, ha3, ha4, hb1, hb2, hb3, hb4, hc1, hc2, hc3, hc4⟩, pa, pb, pc⟩ := hl
  have ga1 : l1.length ≤ 4294967296 := by omega
  have ea1 := len_sv (s := s1) ha1
  obtain ⟨a1, fa1⟩ : ∃ z, sv s1 l1 = z := ⟨_, rfl⟩
  rw [fa1] at ea1 hG
  have ga2 : l2.length ≤ 4294967296 := by omega
  have ea2 := len_sv (s := s2) ha2
  obtain ⟨a2, fa2⟩ : ∃ z, sv s2 l2 = z := ⟨_, rfl⟩
  rw [fa2] at ea2 hG
  have ga3 : l3.length ≤ 4294967296 := by omega
  have ea3 := len_sv (s := s3) ha3
  obtain ⟨a3, fa3⟩ : ∃ z, sv s3 l3 = z := ⟨_, rfl⟩
  rw [fa3] at ea3 hG
  have ga4 : l4.length ≤ 4294967296 := by omega
  have ea4 := len_sv (s := s4) ha4
  obtain ⟨a4, fa4⟩ : ∃ z, sv s4 l4 = z := ⟨_, rfl⟩
  rw [fa4] at ea4 hG
  rw [fa4] at pa
  have nea : a4 ≠ 0 := by omega
  have pwa := pW_of nea
  have gb1 : m1.length ≤ 4294967296 := by omega
  have eb1 := len_sv (s := t1) hb1
  obtain ⟨b1, fb1⟩ : ∃ z, sv t1 m1 = z := ⟨_, rfl⟩
  rw [fb1] at eb1 hG
  have gb2 : m2.length ≤ 4294967296 := by omega
  have eb2 := len_sv (s := t2) hb2
  obtain ⟨b2, fb2⟩ : ∃ z, sv t2 m2 = z := ⟨_, rfl⟩
  rw [fb2] at eb2 hG
  have gb3 : m3.length ≤ 4294967296 := by omega
  have eb3 := len_sv (s := t3) hb3
  obtain ⟨b3, fb3⟩ : ∃ z, sv t3 m3 = z := ⟨_, rfl⟩
  rw [fb3] at eb3 hG
  have gb4 : m4.length ≤ 4294967296 := by omega
  have eb4 := len_sv (s := t4) hb4
  obtain ⟨b4, fb4⟩ : ∃ z, sv t4 m4 = z := ⟨_, rfl⟩
  rw [fb4] at eb4 hG
  rw [fb4] at pb
  have neb : b4 ≠ 0 := by omega
  have pwb := pW_of neb
  have gc1 : k1.length ≤ 4294967296 := by omega
  have ec1 := len_sv (s := q1) hc1
  obtain ⟨c1, fc1⟩ : ∃ z, sv q1 k1 = z := ⟨_, rfl⟩
  rw [fc1] at ec1 hG
  have gc2 : k2.length ≤ 4294967296 := by omega
  have ec2 := len_sv (s := q2) hc2
  obtain ⟨c2, fc2⟩ : ∃ z, sv q2 k2 = z := ⟨_, rfl⟩
  rw [fc2] at ec2 hG
  have gc3 : k3.length ≤ 4294967296 := by omega
  have ec3 := len_sv (s := q3) hc3
  obtain ⟨c3, fc3⟩ : ∃ z, sv q3 k3 = z := ⟨_, rfl⟩
  rw [fc3] at ec3 hG
  have gc4 : k4.length ≤ 4294967296 := by omega
  have ec4 := len_sv (s := q4) hc4
  obtain ⟨c4, fc4⟩ : ∃ z, sv q4 k4 = z := ⟨_, rfl⟩
  rw [fc4] at ec4 hG
  rw [fc4] at pc
  have nec : c4 ≠ 0 := by omega
  have pwc := pW_of nec
  have tn1 := th_n (a2 := a2) (a3 := a3) (b2 := b2) (b3 := b3) (c2 := c2) (c3 := c3) nea neb nec
  have tn2 := th_n (a2 := a3) (a3 := a1) (b2 := b3) (b3 := b1) (c2 := c3) (c3 := c1) nea neb nec
  have tn3 := th_n (a2 := a1) (a3 := a2) (b2 := b1) (b3 := b2) (c2 := c1) (c3 := c2) nea neb nec
  have dz : ∀ m : Int, (Rat.divInt m (a4 * b4 * c4) = 0) = (m = 0) := fun m => propext (line_zero (Int.mul_ne_zero nea neb) nec)
  have rx1 := divInt_RB nea ea1 ea4
  obtain ⟨x1, fx1⟩ : ∃ z, Rat.divInt a1 a4 = z := ⟨_, rfl⟩
  have rx2 := divInt_RB nea ea2 ea4
  obtain ⟨x2, fx2⟩ : ∃ z, Rat.divInt a2 a4 = z := ⟨_, rfl⟩
  have rx3 := divInt_RB nea ea3 ea4
  obtain ⟨x3, fx3⟩ : ∃ z, Rat.divInt a3 a4 = z := ⟨_, rfl⟩
  have ry1 := divInt_RB neb eb1 eb4
  obtain ⟨y1, fy1⟩ : ∃ z, Rat.divInt b1 b4 = z := ⟨_, rfl⟩
  have ry2 := divInt_RB neb eb2 eb4
  obtain ⟨y2, fy2⟩ : ∃ z, Rat.divInt b2 b4 = z := ⟨_, rfl⟩
  have ry3 := divInt_RB neb eb3 eb4
  obtain ⟨y3, fy3⟩ : ∃ z, Rat.divInt b3 b4 = z := ⟨_, rfl⟩
  have rz1 := divInt_RB nec ec1 ec4
  obtain ⟨z1, fz1⟩ : ∃ z, Rat.divInt c1 c4 = z := ⟨_, rfl⟩
  have rz2 := divInt_RB nec ec2 ec4
  obtain ⟨z2, fz2⟩ : ∃ z, Rat.divInt c2 c4 = z := ⟨_, rfl⟩
  have rz3 := divInt_RB nec ec3 ec4
  obtain ⟨z3, fz3⟩ : ∃ z, Rat.divInt c3 c4 = z := ⟨_, rfl⟩
  simp only [fx1, fx2, fx3, fy1, fy2, fy3, fz1, fz2, fz3] at rx1 rx2 rx3 ry1 ry2 ry3 rz1 rz2 rz3 tn1 tn2 tn3
  have ru1 := RB.sub (k := 131073) ry1 rx1 (by omega)
  obtain ⟨u1, fu1⟩ : ∃ z, y1 - x1 = z := ⟨_, rfl⟩
  rw [fu1] at ru1
  have Fu1n := ru1.num (k := 2147483648) (by omega)
  have Fu1d := ru1.den (k := 2147483648) (by omega)
  have ru2 := RB.sub (k := 131073) ry2 rx2 (by omega)
  obtain ⟨u2, fu2⟩ : ∃ z, y2 - x2 = z := ⟨_, rfl⟩
  rw [fu2] at ru2
  have Fu2n := ru2.num (k := 2147483648) (by omega)
  have Fu2d := ru2.den (k := 2147483648) (by omega)
  have ru3 := RB.sub (k := 131073) ry3 rx3 (by omega)
  obtain ⟨u3, fu3⟩ : ∃ z, y3 - x3 = z := ⟨_, rfl⟩
  rw [fu3] at ru3
  have Fu3n := ru3.num (k := 2147483648) (by omega)
  have Fu3d := ru3.den (k := 2147483648) (by omega)
  have rv1 := RB.sub (k := 131073) rz1 rx1 (by omega)
  obtain ⟨v1, fv1⟩ : ∃ z, z1 - x1 = z := ⟨_, rfl⟩
  rw [fv1] at rv1
  have Fv1n := rv1.num (k := 2147483648) (by omega)
  have Fv1d := rv1.den (k := 2147483648) (by omega)
  have rv2 := RB.sub (k := 131073) rz2 rx2 (by omega)
  obtain ⟨v2, fv2⟩ : ∃ z, z2 - x2 = z := ⟨_, rfl⟩
  rw [fv2] at rv2
  have Fv2n := rv2.num (k := 2147483648) (by omega)
  have Fv2d := rv2.den (k := 2147483648) (by omega)
  have rv3 := RB.sub (k := 131073) rz3 rx3 (by omega)
  obtain ⟨v3, fv3⟩ : ∃ z, z3 - x3 = z := ⟨_, rfl⟩
  rw [fv3] at rv3
  have Fv3n := rv3.num (k := 2147483648) (by omega)
  have Fv3d := rv3.den (k := 2147483648) (by omega)
  simp only [fu1, fu2, fu3, fv1, fv2, fv3] at tn1 tn2 tn3
  have rn1 := RB.sub (k := 524293) (RB.mul (k := 262146) ru2 rv3 (by omega)) (RB.mul (k := 262146) ru3 rv2 (by omega)) (by omega)
  obtain ⟨n1, fn1⟩ : ∃ z, u2 * v3 - u3 * v2 = z := ⟨_, rfl⟩
  rw [fn1] at rn1 tn1
  have Fn1n := rn1.num (k := 34359738368) (by omega)
  have Fn1d := rn1.den (k := 34359738368) (by omega)
  have rn2 := RB.sub (k := 524293) (RB.mul (k := 262146) ru3 rv1 (by omega)) (RB.mul (k := 262146) ru1 rv3 (by omega)) (by omega)
  obtain ⟨n2, fn2⟩ : ∃ z, u3 * v1 - u1 * v3 = z := ⟨_, rfl⟩
  rw [fn2] at rn2 tn2
  have Fn2n := rn2.num (k := 34359738368) (by omega)
  have Fn2d := rn2.den (k := 34359738368) (by omega)
  have rn3 := RB.sub (k := 524293) (RB.mul (k := 262146) ru1 rv2 (by omega)) (RB.mul (k := 262146) ru2 rv1 (by omega)) (by omega)
  obtain ⟨n3, fn3⟩ : ∃ z, u1 * v2 - u2 * v1 = z := ⟨_, rfl⟩
  rw [fn3] at rn3 tn3
  have Fn3n := rn3.num (k := 34359738368) (by omega)
  have Fn3d := rn3.den (k := 34359738368) (by omega)
  have nz : ∀ x : Rat, (x.num = 0) = (x = 0) := fun x => propext Rat.num_eq_zero
  have hE : (n1.num = 0 ∧ n2.num = 0 ∧ n3.num = 0) = flt a1 a2 a3 a4 b1 b2 b3 b4 c1 c2 c3 c4 := by
    unfold flt
    rw [nz, nz, nz, tn1, tn2, tn3, dz, dz, dz]
  have hD : decide (flt a1 a2 a3 a4 b1 b2 b3 b4 c1 c2 c3 c4) = decide (n1.num = 0 ∧ n2.num = 0 ∧ n3.num = 0) := by simp only [hE]
  rw [hD] at hG
  clear hD hE nz tn1 tn2 tn3 dz
  cases hG
  refine ⟨rfl, by simp, ?_⟩
  simp only [c20, initT, List.zipIdx_cons, List.zipIdx_nil, List.map_cons, List.map_nil, Nat.reduceAdd]
  simp only [↓R0, R1, rdL, rdH, isCall, istep, ibin, vcells, fillI, setR, flat, okCell, isBase, List.set, List.drop, List.take, List.append, bnds, bhi, blo, srcOf, simprocAttr, -Int.reduceAbs, spR6Minus, spR6Times, r3E, rv_can, rE, ga1, fa1, ga2, fa2, ga3, fa3, ga4, fa4, pwa, gb1, fb1, gb2, fb2, gb3, fb3, gb4, fb4, pwb, gc1, fc1, gc2, fc2, gc3, fc3, gc4, fc4, pwc, fx1, fx2, fx3, fy1, fy2, fy3, fz1, fz2, fz3, fu1, Fu1n, Fu1d, fu2, Fu2n, Fu2d, fu3, Fu3n, Fu3d, fv1, Fv1n, Fv1d, fv2, Fv2n, Fv2d, fv3, Fv3n, Fv3d, fn1, Fn1n, Fn1d, fn2, Fn2n, Fn2d, fn3, Fn3n, Fn3d]
  simp only [↓R0, R1, rdL, rdH, isCall, istep, ibin, vcells, fillI, setR, flat, okCell, isBase, List.set, List.drop, List.take, List.append, bnds, bhi, blo, srcOf, simprocAttr, -Int.reduceAbs, spR6None, ga1, fa1, ga2, fa2, ga3, fa3, ga4, fa4, pwa, gb1, fb1, gb2, fb2, gb3, fb3, gb4, fb4, pwb, gc1, fc1, gc2, fc2, gc3, fc3, gc4, fc4, pwc, fx1, fx2, fx3, fy1, fy2, fy3, fz1, fz2, fz3, fu1, Fu1n, Fu1d, fu2, Fu2n, Fu2d, fu3, Fu3n, Fu3d, fv1, Fv1n, Fv1d, fv2, Fv2n, Fv2d, fv3, Fv3n, Fv3d, fn1, Fn1n, Fn1d, fn2, Fn2n, Fn2d, fn3, Fn3n, Fn3d, Fin, isEnd, resL, res1, iE, rE]
  exact ⟨_, rfl, rfl, fun k hk => by simp only [ne_nb hk, if_false]⟩
end Go.Eng
end
section
set_option linter.unusedVariables false
set_option linter.unusedSimpArgs false
set_option linter.unusedSectionVars false
set_option maxRecDepth 20000
namespace Go.Eng
open Go Go.Proofs Go.IntWalk
def spLnThrough : List Value → Option Value
  | [.agg ⟨[.bool s1, .string ⟨⟨l1⟩⟩, .bool s2, .string ⟨⟨l2⟩⟩, .bool s3, .string ⟨⟨l3⟩⟩, .bool s4, .string ⟨⟨l4⟩⟩]⟩, .agg ⟨[.bool t1, .string ⟨⟨m1⟩⟩, .bool t2, .string ⟨⟨m2⟩⟩, .bool t3, .string ⟨⟨m3⟩⟩, .bool t4, .string ⟨⟨m4⟩⟩]⟩, .agg ⟨[.bool q1, .string ⟨⟨k1⟩⟩, .bool q2, .string ⟨⟨k2⟩⟩, .bool q3, .string ⟨⟨k3⟩⟩, .bool q4, .string ⟨⟨k4⟩⟩]⟩] =>
    if l1.length ≤ 1073741824 ∧ l2.length ≤ 1073741824 ∧ l3.length ≤ 1073741824 ∧ l4.length ≤ 1073741824 ∧ m1.length ≤ 1073741824 ∧ m2.length ≤ 1073741824 ∧ m3.length ≤ 1073741824 ∧ m4.length ≤ 1073741824 ∧ k1.length ≤ 1073741824 ∧ k2.length ≤ 1073741824 ∧ k3.length ≤ 1073741824 ∧ k4.length ≤ 1073741824 then
      (if (thC (sv s1 l1) (sv s2 l2) (sv s3 l3) (sv s4 l4) (sv t1 m1) (sv t2 m2) (sv t3 m3) (sv t4 m4) (sv q1 k1) (sv q2 k2) (sv q3 k3) (sv q4 k4)).x = 0 ∧ (thC (sv s1 l1) (sv s2 l2) (sv s3 l3) (sv s4 l4) (sv t1 m1) (sv t2 m2) (sv t3 m3) (sv t4 m4) (sv q1 k1) (sv q2 k2) (sv q3 k3) (sv q4 k4)).y = 0 ∧ (thC (sv s1 l1) (sv s2 l2) (sv s3 l3) (sv s4 l4) (sv t1 m1) (sv t2 m2) (sv t3 m3) (sv t4 m4) (sv q1 k1) (sv q2 k2) (sv q3 k3) (sv q4 k4)).z = 0 then some (.tuple ⟨[.agg ⟨pZ⟩, .bool false]⟩)
        else some (.tuple ⟨[.agg ⟨lE (thC (sv s1 l1) (sv s2 l2) (sv s3 l3) (sv s4 l4) (sv t1 m1) (sv t2 m2) (sv t3 m3) (sv t4 m4) (sv q1 k1) (sv q2 k2) (sv q3 k3) (sv q4 k4)).x (thC (sv s1 l1) (sv s2 l2) (sv s3 l3) (sv s4 l4) (sv t1 m1) (sv t2 m2) (sv t3 m3) (sv t4 m4) (sv q1 k1) (sv q2 k2) (sv q3 k3) (sv q4 k4)).y (thC (sv s1 l1) (sv s2 l2) (sv s3 l3) (sv s4 l4) (sv t1 m1) (sv t2 m2) (sv t3 m3) (sv t4 m4) (sv q1 k1) (sv q2 k2) (sv q3 k3) (sv q4 k4)).z (thC (sv s1 l1) (sv s2 l2) (sv s3 l3) (sv s4 l4) (sv t1 m1) (sv t2 m2) (sv t3 m3) (sv t4 m4) (sv q1 k1) (sv q2 k2) (sv q3 k3) (sv q4 k4)).w⟩, .bool true]⟩)) else none
  | _ => none
def c58 : ICode :=
  (.seq (.reg [⟨(some 3), none, (.box 30 8 (.t 0))⟩, ⟨(some 4), none, (.box 30 8 (.t 1))⟩, ⟨(some 5), none, (.box 30 8 (.t 2))⟩, ⟨(some 6), none, (.alloc 25 8 [(.bool false), (.string ⟨⟨[]⟩⟩), (.bool false), (.string ⟨⟨[]⟩⟩), (.bool false), (.string ⟨⟨[]⟩⟩), (.bool false), (.string ⟨⟨[]⟩⟩)])⟩, ⟨(some 7), none, (.mv (.c (.bool false)))⟩])
  (.seq (.dreg [⟨(some 15), none, [], (.load true 8 (.t 3))⟩, ⟨(some 16), none, [], (.load true 8 (.t 4))⟩, ⟨(some 17), none, [], (.call 99 [(.t 15), (.t 16)])⟩, ⟨(some 18), none, [2], (.load true 8 (.t 3))⟩, ⟨(some 19), none, [2], (.load true 8 (.t 5))⟩, ⟨(some 20), none, [], (.call 99 [(.t 18), (.t 19)])⟩, ⟨(some 8), none, [], (.alloc 59 6 [(.bool false), (.string ⟨⟨[]⟩⟩), (.bool false), (.string ⟨⟨[]⟩⟩), (.bool false), (.string ⟨⟨[]⟩⟩)])⟩, ⟨(some 9), none, [], (.alloc 59 6 [(.bool false), (.string ⟨⟨[]⟩⟩), (.bool false), (.string ⟨⟨[]⟩⟩), (.bool false), (.string ⟨⟨[]⟩⟩)])⟩, ⟨none, none, [], (.store 6 (.t 8) (.t 17))⟩, ⟨none, none, [], (.store 6 (.t 9) (.t 20))⟩])
  (.seq (.reg [⟨(some 10), none, (.alloc 108 8 [(.bool false), (.string ⟨⟨[]⟩⟩), (.bool false), (.string ⟨⟨[]⟩⟩), (.bool false), (.string ⟨⟨[]⟩⟩), (.bool false), (.string ⟨⟨[]⟩⟩)])⟩])
  (.seq (.seq (.reg [⟨(some 21), none, (.mv (.c (.int .i64 0)))⟩])
  (.block 0 (.loop (.seq (.reg [⟨(some 22), none, (.bin .lss (.t 21) (.c (.int .i64 3)))⟩])
  (.seq (.cond (.t 22)
  .skip
  (.exit 0))
  (.seq (.block 1 (.seq (.reg [⟨(some 23), none, (.mv (.t 21))⟩, ⟨(some 11), none, (.mv (.t 23))⟩])
  (.seq (.reg [⟨(some 24), none, (.mv (.t 11))⟩, ⟨(some 25), none, (.bin .add (.t 24) (.c (.int .i64 1)))⟩, ⟨(some 26), none, (.bin .rem (.t 25) (.c (.int .i64 3)))⟩, ⟨(some 27), none, (.mv (.t 11))⟩, ⟨(some 28), none, (.bin .add (.t 27) (.c (.int .i64 2)))⟩, ⟨(some 29), none, (.bin .rem (.t 28) (.c (.int .i64 3)))⟩, ⟨(some 12), none, (.mv (.t 26))⟩, ⟨(some 13), none, (.mv (.t 29))⟩])
  (.dreg [⟨(some 30), none, [], (.mv (.t 11))⟩, ⟨(some 31), none, [], (.mv (.t 12))⟩, ⟨(some 32), none, [], (.ixarr 3 2 (.t 8) (.t 31))⟩, ⟨(some 33), none, [], (.load true 2 (.t 32))⟩, ⟨(some 34), none, [], (.mv (.t 13))⟩, ⟨(some 35), none, [], (.ixarr 3 2 (.t 8) (.t 34))⟩, ⟨(some 36), none, [], (.load true 2 (.t 35))⟩, ⟨(some 37), none, [], (.mv (.t 12))⟩, ⟨(some 38), none, [], (.ixarr 3 2 (.t 9) (.t 37))⟩, ⟨(some 39), none, [], (.load true 2 (.t 38))⟩, ⟨(some 40), none, [], (.mv (.t 13))⟩, ⟨(some 41), none, [], (.ixarr 3 2 (.t 9) (.t 40))⟩, ⟨(some 42), none, [], (.load true 2 (.t 41))⟩, ⟨(some 43), none, [], (.call 100 [(.t 33), (.t 36), (.t 39), (.t 42)])⟩, ⟨(some 44), none, [], (.ixarr 4 2 (.t 10) (.t 30))⟩, ⟨none, none, [], (.store 2 (.t 44) (.t 43))⟩]))))
  (.reg [⟨(some 45), none, (.bin .add (.t 21) (.c (.int .i64 1)))⟩, ⟨(some 21), none, (.mv (.t 45))⟩])))))))
  (.seq (.dreg [⟨(some 46), none, [], (.ixarr 4 2 (.t 10) (.c (.int .i64 0)))⟩, ⟨(some 47), none, [], (.load true 2 (.t 46))⟩, ⟨(some 48), none, [], (.faddr 0 (.t 3))⟩, ⟨(some 49), none, [], (.load true 2 (.t 48))⟩, ⟨(some 50), none, [], (.call 35 [(.t 47), (.t 49)])⟩, ⟨(some 51), none, [], (.ixarr 4 2 (.t 10) (.c (.int .i64 1)))⟩, ⟨(some 52), none, [4], (.load true 2 (.t 51))⟩, ⟨(some 53), none, [], (.faddr 2 (.t 3))⟩, ⟨(some 54), none, [4], (.load true 2 (.t 53))⟩, ⟨(some 55), none, [], (.call 35 [(.t 52), (.t 54)])⟩, ⟨(some 56), none, [], (.call 34 [(.t 50), (.t 55)])⟩, ⟨(some 57), none, [], (.ixarr 4 2 (.t 10) (.c (.int .i64 2)))⟩, ⟨(some 58), none, [4, 9, 10], (.load true 2 (.t 57))⟩, ⟨(some 59), none, [], (.faddr 4 (.t 3))⟩, ⟨(some 60), none, [4, 9, 10], (.load true 2 (.t 59))⟩, ⟨(some 61), none, [], (.call 35 [(.t 58), (.t 60)])⟩, ⟨(some 62), none, [], (.call 34 [(.t 56), (.t 61)])⟩, ⟨(some 63), none, [], (.ixarr 4 2 (.t 10) (.c (.int .i64 3)))⟩, ⟨none, none, [], (.store 2 (.t 63) (.t 62))⟩])
  (.seq (.seq (.reg [⟨(some 64), none, (.mv (.c (.int .i64 0)))⟩])
  (.block 2 (.loop (.seq (.reg [⟨(some 65), none, (.bin .lss (.t 64) (.c (.int .i64 3)))⟩])
  (.seq (.cond (.t 65)
  .skip
  (.exit 2))
  (.seq (.block 3 (.seq (.reg [⟨(some 66), none, (.mv (.t 64))⟩, ⟨(some 14), none, (.mv (.t 66))⟩])
  (.dreg [⟨(some 67), none, [], (.mv (.t 14))⟩, ⟨(some 68), none, [], (.mv (.t 14))⟩, ⟨(some 69), none, [], (.ixarr 4 2 (.t 10) (.t 68))⟩, ⟨(some 70), none, [], (.load true 2 (.t 69))⟩, ⟨(some 71), none, [], (.faddr 6 (.t 3))⟩, ⟨(some 72), none, [], (.load true 2 (.t 71))⟩, ⟨(some 73), none, [], (.call 35 [(.t 70), (.t 72)])⟩, ⟨(some 74), none, [], (.ixarr 4 2 (.t 10) (.t 67))⟩, ⟨none, none, [], (.store 2 (.t 74) (.t 73))⟩])))
  (.reg [⟨(some 75), none, (.bin .add (.t 64) (.c (.int .i64 1)))⟩, ⟨(some 64), none, (.mv (.t 75))⟩])))))))
  (.seq (.reg [⟨(some 76), none, (.load true 8 (.t 10))⟩, ⟨(some 77), none, (.call 102 [(.t 76)])⟩, ⟨(some 78), none, (.call 101 [(.t 77)])⟩, ⟨(some 79), none, (.ext (.t 78) 0)⟩, ⟨(some 80), none, (.ext (.t 78) 1)⟩, ⟨none, none, (.store 8 (.t 6) (.t 79))⟩, ⟨(some 7), none, (.mv (.t 80))⟩])
  .ret)))))))
theorem tr58 : trFun Tryz.prog 58 = some ⟨81, [.cell 6 true 8, .t 7], c58⟩ := by kernel_rfl
set_option maxHeartbeats 4000000 in
theorem ok_lnThrough : SpecOK Tryz.prog 58 (flat spLnThrough) := by
  refine flat_run (env_cons ok_lnAway (env_cons ok_lnMinor (env_cons ok_iMul (env_cons ok_iAdd (env_cons ok_lnOf (env_cons ok_lnNorm (env_nil _))))))) mixed tr58 ?_
  intro args v h N hG
  unfold spLnThrough at hG
  split at hG
  case h_2 => cases hG
  rename_i s1 l1 s2 l2 s3 l3 s4 l4 t1 m1 t2 m2 t3 m3 t4 m4 q1 k1 q2 k2 q3 k3 q4 k4
  split at hG
  case isFalse => cases hG
  rename_i hl
  obtain ⟨h1, h2, h3, h4, h5, h6, h7, h8, h9, h10, h11, h12⟩ := hl
  have a1 := len_sv (s := s1) h1
  have a2 := len_sv (s := s2) h2
  have a3 := len_sv (s := s3) h3
  have a4 := len_sv (s := s4) h4
  have b1 := len_sv (s := t1) h5
  have b2 := len_sv (s := t2) h6
  have b3 := len_sv (s := t3) h7
  have b4 := len_sv (s := t4) h8
  have d1 := len_sv (s := q1) h9
  have d2 := len_sv (s := q2) h10
  have d3 := len_sv (s := q3) h11
  have d4 := len_sv (s := q4) h12
  have g1 : l1.length ≤ 17179869184 := by omega
  have g2 : l2.length ≤ 17179869184 := by omega
  have g3 : l3.length ≤ 17179869184 := by omega
  have g4 : l4.length ≤ 17179869184 := by omega
  have g5 : m1.length ≤ 17179869184 := by omega
  have g6 : m2.length ≤ 17179869184 := by omega
  have g7 : m3.length ≤ 17179869184 := by omega
  have g8 : m4.length ≤ 17179869184 := by omega
  have g9 : k1.length ≤ 17179869184 := by omega
  have g10 : k2.length ≤ 17179869184 := by omega
  have g11 : k3.length ≤ 17179869184 := by omega
  have g12 : k4.length ≤ 17179869184 := by omega
  have f1 : l1.length ≤ 34359738368 := by omega
  have f2 : l2.length ≤ 34359738368 := by omega
  have f3 : l3.length ≤ 34359738368 := by omega
  have f4 : l4.length ≤ 34359738368 := by omega
  obtain ⟨A1, eA1⟩ : ∃ x, sv s1 l1 = x := ⟨_, rfl⟩
  obtain ⟨A2, eA2⟩ : ∃ x, sv s2 l2 = x := ⟨_, rfl⟩
  obtain ⟨A3, eA3⟩ : ∃ x, sv s3 l3 = x := ⟨_, rfl⟩
  obtain ⟨A4, eA4⟩ : ∃ x, sv s4 l4 = x := ⟨_, rfl⟩
  obtain ⟨B1, eB1⟩ : ∃ x, sv t1 m1 = x := ⟨_, rfl⟩
  obtain ⟨B2, eB2⟩ : ∃ x, sv t2 m2 = x := ⟨_, rfl⟩
  obtain ⟨B3, eB3⟩ : ∃ x, sv t3 m3 = x := ⟨_, rfl⟩
  obtain ⟨B4, eB4⟩ : ∃ x, sv t4 m4 = x := ⟨_, rfl⟩
  obtain ⟨D1, eD1⟩ : ∃ x, sv q1 k1 = x := ⟨_, rfl⟩
  obtain ⟨D2, eD2⟩ : ∃ x, sv q2 k2 = x := ⟨_, rfl⟩
  obtain ⟨D3, eD3⟩ : ∃ x, sv q3 k3 = x := ⟨_, rfl⟩
  obtain ⟨D4, eD4⟩ : ∃ x, sv q4 k4 = x := ⟨_, rfl⟩
  rw [eA1, eA2, eA3, eA4, eB1, eB2, eB3, eB4, eD1, eD2, eD3, eD4] at hG
  rw [eA1] at a1; rw [eA2] at a2; rw [eA3] at a3; rw [eA4] at a4
  rw [eB1] at b1; rw [eB2] at b2; rw [eB3] at b3; rw [eB4] at b4
  rw [eD1] at d1; rw [eD2] at d2; rw [eD3] at d3; rw [eD4] at d4
  have lu : ∀ {x y w v : Int}, (bl x.natAbs).length ≤ 1073741824 → (bl y.natAbs).length ≤ 1073741824 → (bl w.natAbs).length ≤ 1073741824 → (bl v.natAbs).length ≤ 1073741824 → (bl (y * w - x * v).natAbs).length ≤ 4294967296 :=
    fun hx hy hw hv => lsub (lmul (k := 2147483648) hy hw (by omega)) (lmul (k := 2147483648) hx hv (by omega)) (by omega)
  have u1 := lu a1 b1 a4 b4
  have u2 := lu a2 b2 a4 b4
  have u3 := lu a3 b3 a4 b4
  have v1 := lu a1 d1 a4 d4
  have v2 := lu a2 d2 a4 d4
  have v3 := lu a3 d3 a4 d4
  clear lu
  unfold thC thN aw at hG
  obtain ⟨U1, eU1⟩ : ∃ x, B1 * A4 - A1 * B4 = x := ⟨_, rfl⟩
  obtain ⟨U2, eU2⟩ : ∃ x, B2 * A4 - A2 * B4 = x := ⟨_, rfl⟩
  obtain ⟨U3, eU3⟩ : ∃ x, B3 * A4 - A3 * B4 = x := ⟨_, rfl⟩
  obtain ⟨V1, eV1⟩ : ∃ x, D1 * A4 - A1 * D4 = x := ⟨_, rfl⟩
  obtain ⟨V2, eV2⟩ : ∃ x, D2 * A4 - A2 * D4 = x := ⟨_, rfl⟩
  obtain ⟨V3, eV3⟩ : ∃ x, D3 * A4 - A3 * D4 = x := ⟨_, rfl⟩
  rw [eU1] at u1; rw [eU2] at u2; rw [eU3] at u3; rw [eV1] at v1; rw [eV2] at v2; rw [eV3] at v3
  rw [eU1, eU2, eU3, eV1, eV2, eV3] at hG
  have ln : ∀ {x y w v : Int}, (bl x.natAbs).length ≤ 4294967296 → (bl y.natAbs).length ≤ 4294967296 → (bl w.natAbs).length ≤ 4294967296 → (bl v.natAbs).length ≤ 4294967296 → (bl (x * v - y * w).natAbs).length ≤ 17179869184 :=
    fun hx hy hw hv => lsub (lmul (k := 8589934592) hx hv (by omega)) (lmul (k := 8589934592) hy hw (by omega)) (by omega)
  have n1 := ln u2 u3 v2 v3
  have n2 := ln u3 u1 v3 v1
  have n3 := ln u1 u2 v1 v2
  clear ln
  obtain ⟨N1, eN1⟩ : ∃ x, U2 * V3 - U3 * V2 = x := ⟨_, rfl⟩
  obtain ⟨N2, eN2⟩ : ∃ x, U3 * V1 - U1 * V3 = x := ⟨_, rfl⟩
  obtain ⟨N3, eN3⟩ : ∃ x, U1 * V2 - U2 * V1 = x := ⟨_, rfl⟩
  rw [eN1] at n1; rw [eN2] at n2; rw [eN3] at n3
  rw [eN1, eN2, eN3] at hG
  have lp : ∀ {x y : Int}, (bl x.natAbs).length ≤ 17179869184 → (bl y.natAbs).length ≤ 1073741824 → (bl (x * y).natAbs).length ≤ 25769803776 :=
    fun hx hy => lmul hx hy (by omega)
  have p1 := lp n1 a1
  have p2 := lp n2 a2
  have p3 := lp n3 a3
  have r1 := lle (k := 34359738368) (lp n1 a4) (by omega)
  have r2 := lle (k := 34359738368) (lp n2 a4) (by omega)
  have r3 := lle (k := 34359738368) (lp n3 a4) (by omega)
  clear lp
  have x1 := lle (k := 68719476736) p1 (by omega)
  have x2 := lle (k := 68719476736) p2 (by omega)
  have x3 := lle (k := 68719476736) p3 (by omega)
  have y1 := ladd (k := 25769803777) p1 p2 (by omega)
  have y2 := lle (k := 68719476736) y1 (by omega)
  have y3 := ladd (k := 34359738368) y1 p3 (by omega)
  have o1 := lle (k := 34359738368) n1 (by omega)
  have o2 := lle (k := 34359738368) n2 (by omega)
  have o3 := lle (k := 34359738368) n3 (by omega)
  have e1 := lle (k := 17179869184) u1 (by omega)
  have e2 := lle (k := 17179869184) u2 (by omega)
  have e3 := lle (k := 17179869184) u3 (by omega)
  have e4 := lle (k := 17179869184) v1 (by omega)
  have e5 := lle (k := 17179869184) v2 (by omega)
  have e6 := lle (k := 17179869184) v3 (by omega)
  clear a1 a2 a3 a4 b1 b2 b3 b4 d1 d2 d3 d4 u1 u2 u3 v1 v2 v3 n1 n2 n3 p1 p2 p3 y1
  have w1 : IntKind.i64.wrap 1 = 1 := i64_in _ (by omega)
  have w2 : IntKind.i64.wrap 2 = 2 := i64_in _ (by omega)
  have w3 : IntKind.i64.wrap 3 = 3 := i64_in _ (by omega)
  have w4 : IntKind.i64.wrap 4 = 4 := i64_in _ (by omega)
  have i1 : Int.tmod 1 3 = 1 := rfl
  have i2 : Int.tmod 2 3 = 2 := rfl
  have i3 : Int.tmod 3 3 = 0 := rfl
  have i4 : Int.tmod 4 3 = 1 := rfl
  split at hG
  · rename_i h0
    have hh := eq_true h0
    cases hG
    refine ⟨rfl, by simp, ?_⟩
    simp only [c58, initT, List.zipIdx_cons, List.zipIdx_nil, List.map_cons, List.map_nil, Nat.reduceAdd]
    simp only [↓R0, R1, rdL, rdH, isCall, istep, ibin, vcells, fillI, setR, flat, okCell, isBase, List.set, List.drop, List.take, List.append, bnds, bhi, blo, srcOf, simprocAttr, -Int.reduceAbs, spLnAway, g1, g2, g3, g4, g5, g6, g7, g8, g9, g10, g11, g12, eA1, eA2, eA3, eA4, eB1, eB2, eB3, eB4, eD1, eD2, eD3, eD4, eU1, eU2, eU3, eV1, eV2, eV3, tE, iE]
    refine lp_step ?_
    simp only [↓R0, R1, rdL, rdH, isCall, istep, ibin, vcells, fillI, setR, flat, okCell, isBase, List.set, List.drop, List.take, List.append, bnds, bhi, blo, srcOf, simprocAttr, -Int.reduceAbs, e1, e2, e3, e4, e5, e6, eN1, eN2, eN3, w1, w2, w3, w4, i1, i2, i3, i4, spLnMinor, iE]
    refine lp_step ?_
    simp only [↓R0, R1, rdL, rdH, isCall, istep, ibin, vcells, fillI, setR, flat, okCell, isBase, List.set, List.drop, List.take, List.append, bnds, bhi, blo, srcOf, simprocAttr, -Int.reduceAbs, e1, e2, e3, e4, e5, e6, eN1, eN2, eN3, w1, w2, w3, w4, i1, i2, i3, i4, spLnMinor, iE]
    refine lp_step ?_
    simp only [↓R0, R1, rdL, rdH, isCall, istep, ibin, vcells, fillI, setR, flat, okCell, isBase, List.set, List.drop, List.take, List.append, bnds, bhi, blo, srcOf, simprocAttr, -Int.reduceAbs, e1, e2, e3, e4, e5, e6, eN1, eN2, eN3, w1, w2, w3, w4, i1, i2, i3, i4, spLnMinor, iE]
    refine lp_step ?_
    simp only [↓R0, R1, rdL, rdH, isCall, istep, ibin, vcells, fillI, setR, flat, okCell, isBase, List.set, List.drop, List.take, List.append, bnds, bhi, blo, srcOf, simprocAttr, -Int.reduceAbs, o1, o2, o3, f1, f2, f3, f4, eA1, eA2, eA3, eA4, x1, x2, x3, y2, spIMul, spIAdd, iE]
    refine lp_step ?_
    simp only [↓R0, R1, rdL, rdH, isCall, istep, ibin, vcells, fillI, setR, flat, okCell, isBase, List.set, List.drop, List.take, List.append, bnds, bhi, blo, srcOf, simprocAttr, -Int.reduceAbs, o1, o2, o3, f1, f2, f3, f4, eA1, eA2, eA3, eA4, w1, w2, w3, spIMul, iE]
    refine lp_step ?_
    simp only [↓R0, R1, rdL, rdH, isCall, istep, ibin, vcells, fillI, setR, flat, okCell, isBase, List.set, List.drop, List.take, List.append, bnds, bhi, blo, srcOf, simprocAttr, -Int.reduceAbs, o1, o2, o3, f1, f2, f3, f4, eA1, eA2, eA3, eA4, w1, w2, w3, spIMul, iE]
    refine lp_step ?_
    simp only [↓R0, R1, rdL, rdH, isCall, istep, ibin, vcells, fillI, setR, flat, okCell, isBase, List.set, List.drop, List.take, List.append, bnds, bhi, blo, srcOf, simprocAttr, -Int.reduceAbs, o1, o2, o3, f1, f2, f3, f4, eA1, eA2, eA3, eA4, w1, w2, w3, spIMul, iE]
    refine lp_step ?_
    simp only [↓R0, R1, rdL, rdH, isCall, istep, ibin, vcells, fillI, setR, flat, okCell, isBase, List.set, List.drop, List.take, List.append, bnds, bhi, blo, srcOf, simprocAttr, -Int.reduceAbs, spId8, spLnNorm, r1, r2, r3, y3, hh, pZ, lE, Fin, isEnd, resL, res1, iE, rE]
    exact ⟨_, rfl, rfl, fun k hk => by simp only [ne_nb hk, if_false]⟩
  · rename_i h0
    have hh := eq_false h0
    cases hG
    refine ⟨rfl, by simp, ?_⟩
    simp only [c58, initT, List.zipIdx_cons, List.zipIdx_nil, List.map_cons, List.map_nil, Nat.reduceAdd]
    simp only [↓R0, R1, rdL, rdH, isCall, istep, ibin, vcells, fillI, setR, flat, okCell, isBase, List.set, List.drop, List.take, List.append, bnds, bhi, blo, srcOf, simprocAttr, -Int.reduceAbs, spLnAway, g1, g2, g3, g4, g5, g6, g7, g8, g9, g10, g11, g12, eA1, eA2, eA3, eA4, eB1, eB2, eB3, eB4, eD1, eD2, eD3, eD4, eU1, eU2, eU3, eV1, eV2, eV3, tE, iE]
    refine lp_step ?_
    simp only [↓R0, R1, rdL, rdH, isCall, istep, ibin, vcells, fillI, setR, flat, okCell, isBase, List.set, List.drop, List.take, List.append, bnds, bhi, blo, srcOf, simprocAttr, -Int.reduceAbs, e1, e2, e3, e4, e5, e6, eN1, eN2, eN3, w1, w2, w3, w4, i1, i2, i3, i4, spLnMinor, iE]
    refine lp_step ?_
    simp only [↓R0, R1, rdL, rdH, isCall, istep, ibin, vcells, fillI, setR, flat, okCell, isBase, List.set, List.drop, List.take, List.append, bnds, bhi, blo, srcOf, simprocAttr, -Int.reduceAbs, e1, e2, e3, e4, e5, e6, eN1, eN2, eN3, w1, w2, w3, w4, i1, i2, i3, i4, spLnMinor, iE]
    refine lp_step ?_
    simp only [↓R0, R1, rdL, rdH, isCall, istep, ibin, vcells, fillI, setR, flat, okCell, isBase, List.set, List.drop, List.take, List.append, bnds, bhi, blo, srcOf, simprocAttr, -Int.reduceAbs, e1, e2, e3, e4, e5, e6, eN1, eN2, eN3, w1, w2, w3, w4, i1, i2, i3, i4, spLnMinor, iE]
    refine lp_step ?_
    simp only [↓R0, R1, rdL, rdH, isCall, istep, ibin, vcells, fillI, setR, flat, okCell, isBase, List.set, List.drop, List.take, List.append, bnds, bhi, blo, srcOf, simprocAttr, -Int.reduceAbs, o1, o2, o3, f1, f2, f3, f4, eA1, eA2, eA3, eA4, x1, x2, x3, y2, spIMul, spIAdd, iE]
    refine lp_step ?_
    simp only [↓R0, R1, rdL, rdH, isCall, istep, ibin, vcells, fillI, setR, flat, okCell, isBase, List.set, List.drop, List.take, List.append, bnds, bhi, blo, srcOf, simprocAttr, -Int.reduceAbs, o1, o2, o3, f1, f2, f3, f4, eA1, eA2, eA3, eA4, w1, w2, w3, spIMul, iE]
    refine lp_step ?_
    simp only [↓R0, R1, rdL, rdH, isCall, istep, ibin, vcells, fillI, setR, flat, okCell, isBase, List.set, List.drop, List.take, List.append, bnds, bhi, blo, srcOf, simprocAttr, -Int.reduceAbs, o1, o2, o3, f1, f2, f3, f4, eA1, eA2, eA3, eA4, w1, w2, w3, spIMul, iE]
    refine lp_step ?_
    simp only [↓R0, R1, rdL, rdH, isCall, istep, ibin, vcells, fillI, setR, flat, okCell, isBase, List.set, List.drop, List.take, List.append, bnds, bhi, blo, srcOf, simprocAttr, -Int.reduceAbs, o1, o2, o3, f1, f2, f3, f4, eA1, eA2, eA3, eA4, w1, w2, w3, spIMul, iE]
    refine lp_step ?_
    simp only [↓R0, R1, rdL, rdH, isCall, istep, ibin, vcells, fillI, setR, flat, okCell, isBase, List.set, List.drop, List.take, List.append, bnds, bhi, blo, srcOf, simprocAttr, -Int.reduceAbs, spId8, spLnNorm, r1, r2, r3, y3, hh, pZ, lE, Fin, isEnd, resL, res1, iE, rE]
    exact ⟨_, rfl, rfl, fun k hk => by simp only [ne_nb hk, if_false]⟩
end Go.Eng
end
section
set_option linter.unusedVariables false
set_option linter.unusedSimpArgs false
set_option linter.unusedSectionVars false
set_option maxRecDepth 20000
namespace Go.Eng
open Go Go.Proofs Go.IntWalk
theorem thC_len {a1 a2 a3 a4 b1 b2 b3 b4 c1 c2 c3 c4 : Int} (h1 : (bl a1.natAbs).length ≤ 67108864) (h2 : (bl a2.natAbs).length ≤ 67108864) (h3 : (bl a3.natAbs).length ≤ 67108864) (h4 : (bl a4.natAbs).length ≤ 67108864)
    (h5 : (bl b1.natAbs).length ≤ 67108864) (h6 : (bl b2.natAbs).length ≤ 67108864) (h7 : (bl b3.natAbs).length ≤ 67108864) (h8 : (bl b4.natAbs).length ≤ 67108864)
    (h9 : (bl c1.natAbs).length ≤ 67108864) (h10 : (bl c2.natAbs).length ≤ 67108864) (h11 : (bl c3.natAbs).length ≤ 67108864) (h12 : (bl c4.natAbs).length ≤ 67108864) :
    (bl (thC a1 a2 a3 a4 b1 b2 b3 b4 c1 c2 c3 c4).x.natAbs).length ≤ 4294967296 ∧ (bl (thC a1 a2 a3 a4 b1 b2 b3 b4 c1 c2 c3 c4).y.natAbs).length ≤ 4294967296 ∧ (bl (thC a1 a2 a3 a4 b1 b2 b3 b4 c1 c2 c3 c4).z.natAbs).length ≤ 4294967296 ∧ (bl (thC a1 a2 a3 a4 b1 b2 b3 b4 c1 c2 c3 c4).w.natAbs).length ≤ 4294967296 := by
  have lu : ∀ {x w y v : Int}, (bl x.natAbs).length ≤ 67108864 → (bl w.natAbs).length ≤ 67108864 → (bl y.natAbs).length ≤ 67108864 → (bl v.natAbs).length ≤ 67108864 → (bl (aw x w y v).natAbs).length ≤ 268435456 :=
    fun hx hw hy hv => lsub (lmul (k := 134217728) hy hw (by omega)) (lmul (k := 134217728) hx hv (by omega)) (by omega)
  have ln : ∀ {x y w v : Int}, (bl x.natAbs).length ≤ 268435456 → (bl y.natAbs).length ≤ 268435456 → (bl w.natAbs).length ≤ 268435456 → (bl v.natAbs).length ≤ 268435456 → (bl (x * v - y * w).natAbs).length ≤ 536870913 :=
    fun hx hy hw hv => lsub (lmul (k := 536870912) hx hv (by omega)) (lmul (k := 536870912) hy hw (by omega)) (by omega)
  have u1 := lu h1 h4 h5 h8
  have u2 := lu h2 h4 h6 h8
  have u3 := lu h3 h4 h7 h8
  have v1 := lu h1 h4 h9 h12
  have v2 := lu h2 h4 h10 h12
  have v3 := lu h3 h4 h11 h12
  have n1 := ln u2 u3 v2 v3
  have n2 := ln u3 u1 v3 v1
  have n3 := ln u1 u2 v1 v2
  have lp : ∀ {x y : Int}, (bl x.natAbs).length ≤ 536870913 → (bl y.natAbs).length ≤ 67108864 → (bl (x * y).natAbs).length ≤ 603979777 :=
    fun hx hy => lmul hx hy (by omega)
  refine ⟨lle (lp n1 h4) (by omega), lle (lp n2 h4) (by omega), lle (lp n3 h4) (by omega), ?_⟩
  exact lle (ladd (k := 603979779) (ladd (k := 603979778) (lp n1 h1) (lp n2 h2) (by omega)) (lp n3 h3) (by omega)) (by omega)
def spXOrient : List Value → Option Value
  | [.agg ⟨[.bool s1, .string ⟨⟨l1⟩⟩, .bool s2, .string ⟨⟨l2⟩⟩, .bool s3, .string ⟨⟨l3⟩⟩, .bool s4, .string ⟨⟨l4⟩⟩]⟩, .agg ⟨[.bool t1, .string ⟨⟨m1⟩⟩, .bool t2, .string ⟨⟨m2⟩⟩, .bool t3, .string ⟨⟨m3⟩⟩, .bool t4, .string ⟨⟨m4⟩⟩]⟩, .agg ⟨[.bool q1, .string ⟨⟨k1⟩⟩, .bool q2, .string ⟨⟨k2⟩⟩, .bool q3, .string ⟨⟨k3⟩⟩, .bool q4, .string ⟨⟨k4⟩⟩]⟩, .agg ⟨[.bool p1, .string ⟨⟨j1⟩⟩, .bool p2, .string ⟨⟨j2⟩⟩, .bool p3, .string ⟨⟨j3⟩⟩, .bool p4, .string ⟨⟨j4⟩⟩]⟩] =>
    if (l1.length ≤ 67108864 ∧ l2.length ≤ 67108864 ∧ l3.length ≤ 67108864 ∧ l4.length ≤ 67108864 ∧ m1.length ≤ 67108864 ∧ m2.length ≤ 67108864 ∧ m3.length ≤ 67108864 ∧ m4.length ≤ 67108864 ∧ k1.length ≤ 67108864 ∧ k2.length ≤ 67108864 ∧ k3.length ≤ 67108864 ∧ k4.length ≤ 67108864 ∧ j1.length ≤ 67108864 ∧ j2.length ≤ 67108864 ∧ j3.length ≤ 67108864 ∧ j4.length ≤ 67108864) ∧ sv s4 l4 ≠ 0 then
      some (.int .i64 (dt4 (sv s1 l1) (sv s2 l2) (sv s3 l3) (sv s4 l4) (sv t1 m1) (sv t2 m2) (sv t3 m3) (sv t4 m4) (sv q1 k1) (sv q2 k2) (sv q3 k3) (sv q4 k4) (sv p1 j1) (sv p2 j2) (sv p3 j3) (sv p4 j4)).sign) else none
  | _ => none
def c17 : ICode :=
  (.seq (.reg [⟨(some 4), none, (.box 30 8 (.t 0))⟩, ⟨(some 5), none, (.box 30 8 (.t 1))⟩, ⟨(some 6), none, (.box 30 8 (.t 2))⟩, ⟨(some 7), none, (.box 30 8 (.t 3))⟩, ⟨(some 8), none, (.mv (.c (.int .i64 0)))⟩])
  (.seq (.reg [⟨(some 12), none, (.load true 8 (.t 4))⟩, ⟨(some 13), none, (.load true 8 (.t 5))⟩, ⟨(some 14), none, (.load true 8 (.t 6))⟩, ⟨(some 15), none, (.call 58 [(.t 12), (.t 13), (.t 14)])⟩, ⟨(some 11), none, (.mv (.t 15))⟩, ⟨(some 16), none, (.ext (.t 11) 0)⟩, ⟨(some 17), none, (.ext (.t 11) 1)⟩, ⟨(some 9), none, (.alloc 25 8 [(.bool false), (.string ⟨⟨[]⟩⟩), (.bool false), (.string ⟨⟨[]⟩⟩), (.bool false), (.string ⟨⟨[]⟩⟩), (.bool false), (.string ⟨⟨[]⟩⟩)])⟩, ⟨none, none, (.store 8 (.t 9) (.t 16))⟩, ⟨(some 10), none, (.mv (.t 17))⟩])
  (.seq (.seq (.reg [⟨(some 18), none, (.mv (.t 10))⟩, ⟨(some 19), none, (.un .not (.t 18))⟩])
  (.cond (.t 19)
  (.seq (.reg [⟨(some 8), none, (.mv (.c (.int .i64 0)))⟩])
  .ret)
  .skip))
  (.seq (.reg [⟨(some 20), none, (.load true 8 (.t 9))⟩, ⟨(some 21), none, (.load true 8 (.t 7))⟩, ⟨(some 22), none, (.call 59 [(.t 20), (.t 21)])⟩, ⟨(some 8), none, (.mv (.t 22))⟩])
  .ret))))
theorem tr17 : trFun Tryz.prog 17 = some ⟨23, [.t 8], c17⟩ := by kernel_rfl
set_option maxHeartbeats 2000000 in
theorem ok_xOrient : SpecOK Tryz.prog 17 (flat spXOrient) := by
  refine flat_run (env_cons ok_lnThrough (env_cons ok_lnSide (env_nil _))) mixed tr17 ?_
  intro args v h N hG
  unfold spXOrient at hG
  split at hG
  case h_2 => cases hG
  rename_i s1 l1 s2 l2 s3 l3 s4 l4 t1 m1 t2 m2 t3 m3 t4 m4 q1 k1 q2 k2 q3 k3 q4 k4 p1 j1 p2 j2 p3 j3 p4 j4
  split at hG
  case isFalse => cases hG
  rename_i hl
  obtain ⟨⟨h1, h2, h3, h4, h5, h6, h7, h8, h9, h10, h11, h12, h13, h14, h15, h16⟩, hne⟩ := hl
  have hL := thC_len (len_sv (s := s1) h1) (len_sv (s := s2) h2) (len_sv (s := s3) h3) (len_sv (s := s4) h4) (len_sv (s := t1) h5) (len_sv (s := t2) h6) (len_sv (s := t3) h7) (len_sv (s := t4) h8) (len_sv (s := q1) h9) (len_sv (s := q2) h10) (len_sv (s := q3) h11) (len_sv (s := q4) h12)
  have hD := thC_dot (sv s1 l1) (sv s2 l2) (sv s3 l3) (sv s4 l4) (sv t1 m1) (sv t2 m2) (sv t3 m3) (sv t4 m4) (sv q1 k1) (sv q2 k2) (sv q3 k3) (sv q4 k4) (sv p1 j1) (sv p2 j2) (sv p3 j3) (sv p4 j4)
  have hF := thC_zero (a1 := sv s1 l1) (a2 := sv s2 l2) (a3 := sv s3 l3) (b1 := sv t1 m1) (b2 := sv t2 m2) (b3 := sv t3 m3) (b4 := sv t4 m4) (c1 := sv q1 k1) (c2 := sv q2 k2) (c3 := sv q3 k3) (c4 := sv q4 k4) hne
  obtain ⟨T, hT⟩ : ∃ T, thC (sv s1 l1) (sv s2 l2) (sv s3 l3) (sv s4 l4) (sv t1 m1) (sv t2 m2) (sv t3 m3) (sv t4 m4) (sv q1 k1) (sv q2 k2) (sv q3 k3) (sv q4 k4) = T := ⟨_, rfl⟩
  rw [hT] at hL hD hF
  obtain ⟨x, y, z, w⟩ := T
  obtain ⟨L1, L2, L3, L4⟩ := hL
  simp only at L1 L2 L3 L4 hD hF
  have f1 : j1.length ≤ 4294967296 := by omega
  have f2 : j2.length ≤ 4294967296 := by omega
  have f3 : j3.length ≤ 4294967296 := by omega
  have f4 : j4.length ≤ 4294967296 := by omega
  have g1 : l1.length ≤ 1073741824 := by omega
  have g2 : l2.length ≤ 1073741824 := by omega
  have g3 : l3.length ≤ 1073741824 := by omega
  have g4 : l4.length ≤ 1073741824 := by omega
  have g5 : m1.length ≤ 1073741824 := by omega
  have g6 : m2.length ≤ 1073741824 := by omega
  have g7 : m3.length ≤ 1073741824 := by omega
  have g8 : m4.length ≤ 1073741824 := by omega
  have g9 : k1.length ≤ 1073741824 := by omega
  have g10 : k2.length ≤ 1073741824 := by omega
  have g11 : k3.length ≤ 1073741824 := by omega
  have g12 : k4.length ≤ 1073741824 := by omega
  cases hG
  refine ⟨rfl, by simp, ?_⟩
  by_cases h0 : x = 0 ∧ y = 0 ∧ z = 0
  · have hz := flt_dt4 (d1 := sv p1 j1) (d2 := sv p2 j2) (d3 := sv p3 j3) (d4 := sv p4 j4) hne (hF ▸ h0)
    have hh := eq_true h0
    simp only [c17, initT, List.zipIdx_cons, List.zipIdx_nil, List.map_cons, List.map_nil, Nat.reduceAdd]
    simp only [↓R0, R1, rdL, rdH, isCall, istep, ibin, vcells, fillI, setR, flat, okCell, isBase, List.set, List.drop, List.take, List.append, bnds, bhi, blo, srcOf, simprocAttr, -Int.reduceAbs, spLnThrough, g1, g2, g3, g4, g5, g6, g7, g8, g9, g10, g11, g12, hT, hh, pZ, hz, Int.sign_zero, Bool.not_false, Bool.not_true, Fin, isEnd, resL, res1, iE, rE]
    exact ⟨_, rfl, rfl, fun k hk => by simp only [ne_nb hk, if_false]⟩
  · have hh := eq_false h0
    have hs := lG_side (w := w) (sv p1 j1) (sv p2 j2) (sv p3 j3) (sv p4 j4) h0
    rw [hD, sign_sq hne] at hs
    rw [← hs]
    have c1 : (bl (x / (lG x y z w : Int)).natAbs).length ≤ 4294967296 := by
      refine Nat.le_trans (bl_length_mono ?_) L1; rw [Int.natAbs_ediv_of_dvd (lG_d1 ..)]; exact Nat.div_le_self _ _
    have c2 : (bl (y / (lG x y z w : Int)).natAbs).length ≤ 4294967296 := by
      refine Nat.le_trans (bl_length_mono ?_) L2; rw [Int.natAbs_ediv_of_dvd (lG_d2 ..)]; exact Nat.div_le_self _ _
    have c3 : (bl (z / (lG x y z w : Int)).natAbs).length ≤ 4294967296 := by
      refine Nat.le_trans (bl_length_mono ?_) L3; rw [Int.natAbs_ediv_of_dvd (lG_d3 ..)]; exact Nat.div_le_self _ _
    have c4 : (bl (w / (lG x y z w : Int)).natAbs).length ≤ 4294967296 := by
      refine Nat.le_trans (bl_length_mono ?_) L4; rw [Int.natAbs_ediv_of_dvd (lG_d4 ..)]; exact Nat.div_le_self _ _
    simp only [c17, initT, List.zipIdx_cons, List.zipIdx_nil, List.map_cons, List.map_nil, Nat.reduceAdd]
    simp only [↓R0, R1, rdL, rdH, isCall, istep, ibin, vcells, fillI, setR, flat, okCell, isBase, List.set, List.drop, List.take, List.append, bnds, bhi, blo, srcOf, simprocAttr, -Int.reduceAbs, spLnThrough, g1, g2, g3, g4, g5, g6, g7, g8, g9, g10, g11, g12, hT, hh, Bool.not_false, Bool.not_true, lE, iE]
    simp only [↓R0, R1, rdL, rdH, isCall, istep, ibin, vcells, fillI, setR, flat, okCell, isBase, List.set, List.drop, List.take, List.append, bnds, bhi, blo, srcOf, simprocAttr, -Int.reduceAbs, spLnSide, f1, f2, f3, f4, c1, c2, c3, c4, Fin, isEnd, resL, res1, iE, rE]
    exact ⟨_, rfl, rfl, fun k hk => by simp only [ne_nb hk, if_false]⟩
def spXCollin : List Value → Option Value
  | [.agg ⟨[.bool s1, .string ⟨⟨l1⟩⟩, .bool s2, .string ⟨⟨l2⟩⟩, .bool s3, .string ⟨⟨l3⟩⟩, .bool s4, .string ⟨⟨l4⟩⟩]⟩, .agg ⟨[.bool t1, .string ⟨⟨m1⟩⟩, .bool t2, .string ⟨⟨m2⟩⟩, .bool t3, .string ⟨⟨m3⟩⟩, .bool t4, .string ⟨⟨m4⟩⟩]⟩, .agg ⟨[.bool q1, .string ⟨⟨k1⟩⟩, .bool q2, .string ⟨⟨k2⟩⟩, .bool q3, .string ⟨⟨k3⟩⟩, .bool q4, .string ⟨⟨k4⟩⟩]⟩] =>
    if (l1.length ≤ 67108864 ∧ l2.length ≤ 67108864 ∧ l3.length ≤ 67108864 ∧ l4.length ≤ 67108864 ∧ m1.length ≤ 67108864 ∧ m2.length ≤ 67108864 ∧ m3.length ≤ 67108864 ∧ m4.length ≤ 67108864 ∧ k1.length ≤ 67108864 ∧ k2.length ≤ 67108864 ∧ k3.length ≤ 67108864 ∧ k4.length ≤ 67108864) ∧ sv s4 l4 ≠ 0 then
      some (.bool (decide (flt (sv s1 l1) (sv s2 l2) (sv s3 l3) (sv s4 l4) (sv t1 m1) (sv t2 m2) (sv t3 m3) (sv t4 m4) (sv q1 k1) (sv q2 k2) (sv q3 k3) (sv q4 k4)))) else none
  | _ => none
def c19 : ICode :=
  (.seq (.reg [⟨(some 3), none, (.box 30 8 (.t 0))⟩, ⟨(some 4), none, (.box 30 8 (.t 1))⟩, ⟨(some 5), none, (.box 30 8 (.t 2))⟩, ⟨(some 6), none, (.mv (.c (.bool false)))⟩])
  (.seq (.reg [⟨(some 10), none, (.load true 8 (.t 3))⟩, ⟨(some 11), none, (.load true 8 (.t 4))⟩, ⟨(some 12), none, (.load true 8 (.t 5))⟩, ⟨(some 13), none, (.call 58 [(.t 10), (.t 11), (.t 12)])⟩, ⟨(some 9), none, (.mv (.t 13))⟩, ⟨(some 14), none, (.ext (.t 9) 0)⟩, ⟨(some 15), none, (.ext (.t 9) 1)⟩, ⟨(some 7), none, (.alloc 25 8 [(.bool false), (.string ⟨⟨[]⟩⟩), (.bool false), (.string ⟨⟨[]⟩⟩), (.bool false), (.string ⟨⟨[]⟩⟩), (.bool false), (.string ⟨⟨[]⟩⟩)])⟩, ⟨none, none, (.store 8 (.t 7) (.t 14))⟩, ⟨(some 8), none, (.mv (.t 15))⟩])
  (.seq (.reg [⟨(some 16), none, (.mv (.t 8))⟩, ⟨(some 17), none, (.un .not (.t 16))⟩, ⟨(some 6), none, (.mv (.t 17))⟩])
  .ret)))
theorem tr19 : trFun Tryz.prog 19 = some ⟨18, [.t 6], c19⟩ := by kernel_rfl
set_option maxHeartbeats 2000000 in
theorem ok_xCollin : SpecOK Tryz.prog 19 (flat spXCollin) := by
  refine flat_run (env_cons ok_lnThrough (env_nil _)) mixed tr19 ?_
  intro args v h N hG
  unfold spXCollin at hG
  split at hG
  case h_2 => cases hG
  rename_i s1 l1 s2 l2 s3 l3 s4 l4 t1 m1 t2 m2 t3 m3 t4 m4 q1 k1 q2 k2 q3 k3 q4 k4
  split at hG
  case isFalse => cases hG
  rename_i hl
  obtain ⟨⟨h1, h2, h3, h4, h5, h6, h7, h8, h9, h10, h11, h12⟩, hne⟩ := hl
  have hF := thC_zero (a1 := sv s1 l1) (a2 := sv s2 l2) (a3 := sv s3 l3) (b1 := sv t1 m1) (b2 := sv t2 m2) (b3 := sv t3 m3) (b4 := sv t4 m4) (c1 := sv q1 k1) (c2 := sv q2 k2) (c3 := sv q3 k3) (c4 := sv q4 k4) hne
  obtain ⟨T, hT⟩ : ∃ T, thC (sv s1 l1) (sv s2 l2) (sv s3 l3) (sv s4 l4) (sv t1 m1) (sv t2 m2) (sv t3 m3) (sv t4 m4) (sv q1 k1) (sv q2 k2) (sv q3 k3) (sv q4 k4) = T := ⟨_, rfl⟩
  rw [hT] at hF
  obtain ⟨x, y, z, w⟩ := T
  simp only at hF
  have g1 : l1.length ≤ 1073741824 := by omega
  have g2 : l2.length ≤ 1073741824 := by omega
  have g3 : l3.length ≤ 1073741824 := by omega
  have g4 : l4.length ≤ 1073741824 := by omega
  have g5 : m1.length ≤ 1073741824 := by omega
  have g6 : m2.length ≤ 1073741824 := by omega
  have g7 : m3.length ≤ 1073741824 := by omega
  have g8 : m4.length ≤ 1073741824 := by omega
  have g9 : k1.length ≤ 1073741824 := by omega
  have g10 : k2.length ≤ 1073741824 := by omega
  have g11 : k3.length ≤ 1073741824 := by omega
  have g12 : k4.length ≤ 1073741824 := by omega
  cases hG
  refine ⟨rfl, by simp, ?_⟩
  by_cases h0 : x = 0 ∧ y = 0 ∧ z = 0
  · have hd := eq_true (hF ▸ h0)
    have hh := eq_true h0
    simp only [c19, initT, List.zipIdx_cons, List.zipIdx_nil, List.map_cons, List.map_nil, Nat.reduceAdd]
    simp only [↓R0, R1, rdL, rdH, isCall, istep, ibin, vcells, fillI, setR, flat, okCell, isBase, List.set, List.drop, List.take, List.append, bnds, bhi, blo, srcOf, simprocAttr, -Int.reduceAbs, spLnThrough, g1, g2, g3, g4, g5, g6, g7, g8, g9, g10, g11, g12, hT, hh, pZ, hd, Bool.not_false, Bool.not_true, Fin, isEnd, resL, res1, iE, rE]
    exact ⟨_, rfl, rfl, fun k hk => by simp only [ne_nb hk, if_false]⟩
  · have hh := eq_false h0
    have hd := eq_false (hF ▸ h0)
    simp only [c19, initT, List.zipIdx_cons, List.zipIdx_nil, List.map_cons, List.map_nil, Nat.reduceAdd]
    simp only [↓R0, R1, rdL, rdH, isCall, istep, ibin, vcells, fillI, setR, flat, okCell, isBase, List.set, List.drop, List.take, List.append, bnds, bhi, blo, srcOf, simprocAttr, -Int.reduceAbs, spLnThrough, g1, g2, g3, g4, g5, g6, g7, g8, g9, g10, g11, g12, hT, hh, lE, hd, Bool.not_false, Bool.not_true, Fin, isEnd, resL, res1, iE, rE]
    exact ⟨_, rfl, rfl, fun k hk => by simp only [ne_nb hk, if_false]⟩
end Go.Eng
end
section
set_option linter.unusedVariables false
set_option linter.unusedSimpArgs false
set_option linter.unusedSectionVars false
namespace Go.Eng
def lex3 (x y z : Int) : Int := if x.sign = 0 then (if y.sign = 0 then z.sign else y.sign) else x.sign
def cmp4 (a1 a2 a3 a4 b1 b2 b3 b4 : Int) : Int := lex3 (a1 * b4 - b1 * a4) (a2 * b4 - b2 * a4) (a3 * b4 - b3 * a4)
theorem sg_cases (x : Int) : (x.sign = 1 ∧ 0 < x) ∨ (x.sign = 0 ∧ x = 0) ∨ (x.sign = -1 ∧ x < 0) := by
  rcases Int.lt_trichotomy x 0 with h | h | h
  · exact .inr (.inr ⟨Int.sign_eq_neg_one_of_neg h, h⟩)
  · exact .inr (.inl ⟨by rw [h]; rfl, h⟩)
  · exact .inl ⟨Int.sign_eq_one_of_pos h, h⟩
theorem lex3_vals (x y z : Int) : -1 ≤ lex3 x y z ∧ lex3 x y z ≤ 1 := by
  unfold lex3
  rcases sg_cases x with ⟨h, _⟩ | ⟨h, _⟩ | ⟨h, _⟩ <;> rcases sg_cases y with ⟨g, _⟩ | ⟨g, _⟩ | ⟨g, _⟩ <;> rcases sg_cases z with ⟨k, _⟩ | ⟨k, _⟩ | ⟨k, _⟩ <;> rw [h, g, k] <;> decide
theorem lex3_neg (x y z : Int) : lex3 (-x) (-y) (-z) = -lex3 x y z := by
  unfold lex3
  rw [Int.sign_neg, Int.sign_neg, Int.sign_neg]
  rcases sg_cases x with ⟨h, _⟩ | ⟨h, _⟩ | ⟨h, _⟩ <;> rcases sg_cases y with ⟨g, _⟩ | ⟨g, _⟩ | ⟨g, _⟩ <;> rcases sg_cases z with ⟨k, _⟩ | ⟨k, _⟩ | ⟨k, _⟩ <;> rw [h, g, k] <;> decide
theorem lex3_zero {x y z : Int} (h : lex3 x y z = 0) : x = 0 ∧ y = 0 ∧ z = 0 := by
  unfold lex3 at h
  rcases sg_cases x with ⟨e, p⟩ | ⟨e, p⟩ | ⟨e, p⟩ <;> rcases sg_cases y with ⟨g, q⟩ | ⟨g, q⟩ | ⟨g, q⟩ <;> rcases sg_cases z with ⟨k, r⟩ | ⟨k, r⟩ | ⟨k, r⟩ <;> rw [e, g, k] at h <;> first | exact ⟨p, q, r⟩ | exact absurd h (by decide)
def pos3 (x y z : Int) : Prop := 0 < x ∨ (x = 0 ∧ (0 < y ∨ (y = 0 ∧ 0 < z)))
theorem lex3_one (x y z : Int) : lex3 x y z = 1 ↔ pos3 x y z := by
  unfold lex3 pos3
  rcases sg_cases x with ⟨e, p⟩ | ⟨e, p⟩ | ⟨e, p⟩ <;> rcases sg_cases y with ⟨g, q⟩ | ⟨g, q⟩ | ⟨g, q⟩ <;> rcases sg_cases z with ⟨k, r⟩ | ⟨k, r⟩ | ⟨k, r⟩ <;> rw [e, g, k] <;> simp <;> omega
theorem cmp4_vals (a1 a2 a3 a4 b1 b2 b3 b4 : Int) : -1 ≤ cmp4 a1 a2 a3 a4 b1 b2 b3 b4 ∧ cmp4 a1 a2 a3 a4 b1 b2 b3 b4 ≤ 1 := lex3_vals ..
theorem cmp4_neg (a1 a2 a3 a4 b1 b2 b3 b4 : Int) : cmp4 b1 b2 b3 b4 a1 a2 a3 a4 = -cmp4 a1 a2 a3 a4 b1 b2 b3 b4 := by
  unfold cmp4; rw [← lex3_neg, Int.neg_sub, Int.neg_sub, Int.neg_sub]
theorem cmp4_zero {a1 a2 a3 a4 b1 b2 b3 b4 : Int} (h : cmp4 a1 a2 a3 a4 b1 b2 b3 b4 = 0) : a1 * b4 = b1 * a4 ∧ a2 * b4 = b2 * a4 ∧ a3 * b4 = b3 * a4 := by
  obtain ⟨h1, h2, h3⟩ := lex3_zero h
  exact ⟨by omega, by omega, by omega⟩
section
variable {x b a m n p : Int}
theorem mix_a (hx : 0 < x) (hb : 0 < b) (ha : 0 < a) (h : x * p = b * m + a * n) (hm : 0 < m) (hn : 0 ≤ n) : 0 < p := by
  have h1 := Int.mul_pos hb hm
  have h2 := Int.mul_nonneg (Int.le_of_lt ha) hn
  exact Int.pos_of_mul_pos_right (a := x) (by omega) hx
theorem mix_b (hx : 0 < x) (hb : 0 < b) (ha : 0 < a) (h : x * p = b * m + a * n) (hm : 0 ≤ m) (hn : 0 < n) : 0 < p :=
  mix_a (m := n) (n := m) hx ha hb (by rw [h, Int.add_comm]) hn hm
theorem mix_0 (hx : 0 < x) (h : x * p = b * m + a * n) (hm : m = 0) (hn : n = 0) : p = 0 := by
  rw [hm, hn, Int.mul_zero, Int.mul_zero] at h
  rcases Int.mul_eq_zero.1 h with z | z
  · omega
  · exact z
end
theorem cmp4_trans {a1 a2 a3 a4 b1 b2 b3 b4 x1 x2 x3 x4 : Int} (ha : 0 < a4) (hb : 0 < b4) (hx : 0 < x4) (h1 : cmp4 a1 a2 a3 a4 x1 x2 x3 x4 = 1) (h2 : cmp4 x1 x2 x3 x4 b1 b2 b3 b4 = 1) : cmp4 a1 a2 a3 a4 b1 b2 b3 b4 = 1 := by
  unfold cmp4 at *
  rw [lex3_one] at *
  have e1 : x4 * (a1 * b4 - b1 * a4) = b4 * (a1 * x4 - x1 * a4) + a4 * (x1 * b4 - b1 * x4) := by grind
  have e2 : x4 * (a2 * b4 - b2 * a4) = b4 * (a2 * x4 - x2 * a4) + a4 * (x2 * b4 - b2 * x4) := by grind
  have e3 : x4 * (a3 * b4 - b3 * a4) = b4 * (a3 * x4 - x3 * a4) + a4 * (x3 * b4 - b3 * x4) := by grind
  generalize a1 * b4 - b1 * a4 = p1 at *
  generalize a2 * b4 - b2 * a4 = p2 at *
  generalize a3 * b4 - b3 * a4 = p3 at *
  generalize a1 * x4 - x1 * a4 = m1 at *
  generalize a2 * x4 - x2 * a4 = m2 at *
  generalize a3 * x4 - x3 * a4 = m3 at *
  generalize x1 * b4 - b1 * x4 = n1 at *
  generalize x2 * b4 - b2 * x4 = n2 at *
  generalize x3 * b4 - b3 * x4 = n3 at *
  unfold pos3 at *
  rcases h1 with m | ⟨m, h1⟩
  · rcases h2 with n | ⟨n, h2⟩
    · exact .inl (mix_a hx hb ha e1 m (by omega))
    · exact .inl (mix_a hx hb ha e1 m (by omega))
  · rcases h2 with n | ⟨n, h2⟩
    · exact .inl (mix_b hx hb ha e1 (by omega) n)
    · refine .inr ⟨mix_0 hx e1 m n, ?_⟩
      rcases h1 with m | ⟨m, h1⟩
      · rcases h2 with n | ⟨n, h2⟩
        · exact .inl (mix_a hx hb ha e2 m (by omega))
        · exact .inl (mix_a hx hb ha e2 m (by omega))
      · rcases h2 with n | ⟨n, h2⟩
        · exact .inl (mix_b hx hb ha e2 (by omega) n)
        · exact .inr ⟨mix_0 hx e2 m n, mix_a hx hb ha e3 h1 (by omega)⟩
def btw (a1 a2 a3 a4 b1 b2 b3 b4 x1 x2 x3 x4 : Int) : Prop :=
  (¬ cmp4 a1 a2 a3 a4 x1 x2 x3 x4 = 0) ∧ cmp4 a1 a2 a3 a4 x1 x2 x3 x4 = cmp4 x1 x2 x3 x4 b1 b2 b3 b4 ∧ flt a1 a2 a3 a4 b1 b2 b3 b4 x1 x2 x3 x4
instance {a1 a2 a3 a4 b1 b2 b3 b4 x1 x2 x3 x4 : Int} : Decidable (btw a1 a2 a3 a4 b1 b2 b3 b4 x1 x2 x3 x4) := by unfold btw; infer_instance
theorem btw_ref {a1 a2 a3 a4 b1 b2 b3 b4 x1 x2 x3 x4 : Int} (ha : 0 < a4) (hb : 0 < b4) (hx : 0 < x4) :
    btw a1 a2 a3 a4 b1 b2 b3 b4 x1 x2 x3 x4 = (flt a1 a2 a3 a4 b1 b2 b3 b4 x1 x2 x3 x4 ∧ (¬ cmp4 a1 a2 a3 a4 b1 b2 b3 b4 = 0) ∧ cmp4 a1 a2 a3 a4 x1 x2 x3 x4 * cmp4 x1 x2 x3 x4 b1 b2 b3 b4 = 1) := by
  have v1 := cmp4_vals a1 a2 a3 a4 x1 x2 x3 x4
  have v2 := cmp4_vals x1 x2 x3 x4 b1 b2 b3 b4
  have t1 := cmp4_trans (a1 := a1) (a2 := a2) (a3 := a3) (b1 := b1) (b2 := b2) (b3 := b3) (x1 := x1) (x2 := x2) (x3 := x3) ha hb hx
  have t2 := cmp4_trans (a1 := b1) (a2 := b2) (a3 := b3) (b1 := a1) (b2 := a2) (b3 := a3) (x1 := x1) (x2 := x2) (x3 := x3) hb ha hx
  rw [cmp4_neg x1 x2 x3 x4 b1 b2 b3 b4, cmp4_neg a1 a2 a3 a4 x1 x2 x3 x4, cmp4_neg a1 a2 a3 a4 b1 b2 b3 b4] at t2
  unfold btw
  generalize cmp4 a1 a2 a3 a4 x1 x2 x3 x4 = k at *
  generalize cmp4 x1 x2 x3 x4 b1 b2 b3 b4 = j at *
  generalize cmp4 a1 a2 a3 a4 b1 b2 b3 b4 = i at *
  apply propext
  constructor
  · intro ⟨h1, h2, h3⟩
    subst h2
    rcases (by omega : k = 1 ∨ k = -1) with e | e
    · subst e; exact ⟨h3, by have := t1 rfl rfl; omega, by decide⟩
    · subst e; exact ⟨h3, by have := t2 (by decide) (by decide); omega, by decide⟩
  · intro ⟨h1, h2, h3⟩
    rcases (by omega : k = 1 ∨ k = -1 ∨ k = 0) with e | e | e
    · subst e; exact ⟨by decide, by omega, h1⟩
    · subst e; exact ⟨by decide, by omega, h1⟩
    · subst e; rw [Int.zero_mul] at h3; omega
theorem num_sign {q : Rat} {n d : Int} (h : q = Rat.divInt n d) (hd : 0 < d) : q.num.sign = n.sign := by
  have hq : 0 < (q.den : Int) := by have := q.den_pos; omega
  have e : q.num * d = n * q.den := (Rat.divInt_eq_divInt_iff (by omega) (by omega)).1 (by rw [← h]; exact Rat.num_divInt_den q)
  rw [← sign_pos_mul (x := q.num) hd, e, sign_pos_mul hq]
theorem sub_sign {a c : Int} {b d : Int} (hb : 0 < b) (hd : 0 < d) : (Rat.divInt a b - Rat.divInt c d).num.sign = (a * d - c * b).sign := by
  refine num_sign (d := b * d) ?_ (Int.mul_pos hb hd)
  have e1 : (b : Rat) ≠ 0 := fun e => by have : b = 0 := by exact_mod_cast e
                                         omega
  have e2 : (d : Rat) ≠ 0 := fun e => by have : d = 0 := by exact_mod_cast e
                                         omega
  simp only [Rat.divInt_eq_div, Rat.intCast_sub, Rat.intCast_mul]
  generalize (b : Rat) = B at *
  generalize (d : Rat) = D at *
  grind
end Go.Eng
end
section
set_option linter.unusedVariables false
set_option linter.unusedSimpArgs false
set_option linter.unusedSectionVars false
set_option maxRecDepth 20000
namespace Go.Eng
open Go Go.Proofs Go.IntWalk
theorem pQ_cross {x y z w x' y' z' w' a a' : Int} (hw : 0 < w) (hw' : 0 < w') (ha : (pG x y z w : Int) ∣ a) (ha' : (pG x' y' z' w' : Int) ∣ a') :
    (pQ x y z w a * pQ x' y' z' w' w' - pQ x' y' z' w' a' * pQ x y z w w).sign = (a * w' - a' * w).sign := by
  have h1 := pQ_mul ha
  have h2 := pQ_mul ha'
  have h3 := pQ_mul (pG_dvd_w x y z w)
  have h4 := pQ_mul (pG_dvd_w x' y' z' w')
  have g1 := pG_pos x y z w
  have g2 := pG_pos x' y' z' w'
  rw [pW_of (by omega : w ≠ 0)] at h1 h3
  rw [pW_of (by omega : w' ≠ 0)] at h2 h4
  rw [if_neg (by omega)] at h1 h2 h3 h4
  have g1' : 0 < (pG x y z w : Int) := by omega
  have g2' : 0 < (pG x' y' z' w' : Int) := by omega
  generalize (pG x y z w : Int) = g at *
  generalize (pG x' y' z' w' : Int) = g' at *
  generalize pQ x y z w a = A at *
  generalize pQ x y z w w = W at *
  generalize pQ x' y' z' w' a' = A' at *
  generalize pQ x' y' z' w' w' = W' at *
  rw [← sign_pos_mul (x := A * W' - A' * W) (Int.mul_pos g1' g2')]
  have e : (A * W' - A' * W) * (g * g') = a * w' - a' * w := by grind
  rw [e]
def spPCmp : List Value → Option Value
  | [.agg ⟨[.bool s1, .string ⟨⟨l1⟩⟩, .bool s2, .string ⟨⟨l2⟩⟩, .bool s3, .string ⟨⟨l3⟩⟩, .bool s4, .string ⟨⟨l4⟩⟩]⟩, .agg ⟨[.bool t1, .string ⟨⟨m1⟩⟩, .bool t2, .string ⟨⟨m2⟩⟩, .bool t3, .string ⟨⟨m3⟩⟩, .bool t4, .string ⟨⟨m4⟩⟩]⟩] =>
    if (l1.length ≤ 65536 ∧ l2.length ≤ 65536 ∧ l3.length ≤ 65536 ∧ l4.length ≤ 65536 ∧ m1.length ≤ 65536 ∧ m2.length ≤ 65536 ∧ m3.length ≤ 65536 ∧ m4.length ≤ 65536) ∧ 0 < (sv s4 l4) ∧ 0 < (sv t4 m4) then some (.int .i64 (cmp4 (sv s1 l1) (sv s2 l2) (sv s3 l3) (sv s4 l4) (sv t1 m1) (sv t2 m2) (sv t3 m3) (sv t4 m4))) else none
  | _ => none
def c28 : ICode :=
  (.seq (.reg [⟨(some 2), none, (.box 30 8 (.t 0))⟩, ⟨(some 3), none, (.box 30 8 (.t 1))⟩, ⟨(some 4), none, (.mv (.c (.int .i64 0)))⟩])
  (.seq (.dreg [⟨(some 10), none, [], (.load true 8 (.t 2))⟩, ⟨(some 11), none, [], (.call 75 [(.t 10)])⟩, ⟨(some 12), none, [1], (.load true 8 (.t 3))⟩, ⟨(some 13), none, [], (.call 75 [(.t 12)])⟩, ⟨none, none, [], (.store 8 (.t 2) (.t 11))⟩, ⟨none, none, [], (.store 8 (.t 3) (.t 13))⟩])
  (.seq (.dreg [⟨(some 14), none, [], (.faddr 0 (.t 2))⟩, ⟨(some 15), none, [], (.load true 2 (.t 14))⟩, ⟨(some 16), none, [], (.faddr 2 (.t 2))⟩, ⟨(some 17), none, [], (.load true 2 (.t 16))⟩, ⟨(some 18), none, [], (.faddr 4 (.t 2))⟩, ⟨(some 19), none, [], (.load true 2 (.t 18))⟩, ⟨(some 20), none, [], (.build [(.bool false), (.string ⟨⟨[]⟩⟩), (.bool false), (.string ⟨⟨[]⟩⟩), (.bool false), (.string ⟨⟨[]⟩⟩)] [(0, 2, (.t 15)), (2, 2, (.t 17)), (4, 2, (.t 19))])⟩, ⟨(some 21), none, [], (.faddr 0 (.t 3))⟩, ⟨(some 22), none, [], (.load true 2 (.t 21))⟩, ⟨(some 23), none, [], (.faddr 2 (.t 3))⟩, ⟨(some 24), none, [], (.load true 2 (.t 23))⟩, ⟨(some 25), none, [], (.faddr 4 (.t 3))⟩, ⟨(some 26), none, [], (.load true 2 (.t 25))⟩, ⟨(some 27), none, [], (.build [(.bool false), (.string ⟨⟨[]⟩⟩), (.bool false), (.string ⟨⟨[]⟩⟩), (.bool false), (.string ⟨⟨[]⟩⟩)] [(0, 2, (.t 22)), (2, 2, (.t 24)), (4, 2, (.t 26))])⟩, ⟨(some 5), none, [], (.alloc 59 6 [(.bool false), (.string ⟨⟨[]⟩⟩), (.bool false), (.string ⟨⟨[]⟩⟩), (.bool false), (.string ⟨⟨[]⟩⟩)])⟩, ⟨(some 6), none, [], (.alloc 59 6 [(.bool false), (.string ⟨⟨[]⟩⟩), (.bool false), (.string ⟨⟨[]⟩⟩), (.bool false), (.string ⟨⟨[]⟩⟩)])⟩, ⟨none, none, [1008, 1010, 1012], (.store 6 (.t 5) (.t 20))⟩, ⟨none, none, [], (.store 6 (.t 6) (.t 27))⟩])
  (.seq (.seq (.reg [⟨(some 28), none, (.load true 6 (.t 5))⟩, ⟨(some 29), none, (.mv (.c (.int .i64 0)))⟩])
  (.block 0 (.loop (.seq (.reg [⟨(some 30), none, (.bin .lss (.t 29) (.c (.int .i64 3)))⟩])
  (.seq (.cond (.t 30)
  .skip
  (.exit 0))
  (.seq (.block 1 (.seq (.reg [⟨(some 31), none, (.mv (.t 29))⟩, ⟨(some 32), none, (.idarr 3 true 2 (.t 28) (.t 29))⟩, ⟨(some 8), none, (.alloc 23 2 [(.bool false), (.string ⟨⟨[]⟩⟩)])⟩, ⟨(some 7), none, (.mv (.t 31))⟩, ⟨none, none, (.store 2 (.t 8) (.t 32))⟩])
  (.seq (.dreg [⟨(some 33), none, [], (.load true 2 (.t 8))⟩, ⟨(some 34), none, [], (.faddr 6 (.t 3))⟩, ⟨(some 35), none, [], (.load true 2 (.t 34))⟩, ⟨(some 36), none, [], (.call 35 [(.t 33), (.t 35)])⟩, ⟨(some 37), none, [], (.mv (.t 7))⟩, ⟨(some 38), none, [], (.ixarr 3 2 (.t 6) (.t 37))⟩, ⟨(some 39), none, [3], (.load true 2 (.t 38))⟩, ⟨(some 40), none, [], (.faddr 6 (.t 2))⟩, ⟨(some 41), none, [3], (.load true 2 (.t 40))⟩, ⟨(some 42), none, [], (.call 35 [(.t 39), (.t 41)])⟩, ⟨(some 43), none, [], (.call 76 [(.t 36), (.t 42)])⟩, ⟨(some 9), none, [], (.mv (.t 43))⟩])
  (.seq (.reg [⟨(some 44), none, (.mv (.t 9))⟩, ⟨(some 45), none, (.bin .neq (.t 44) (.c (.int .i64 0)))⟩])
  (.cond (.t 45)
  (.seq (.reg [⟨(some 46), none, (.mv (.t 9))⟩, ⟨(some 4), none, (.mv (.t 46))⟩])
  .ret)
  .skip)))))
  (.reg [⟨(some 47), none, (.bin .add (.t 29) (.c (.int .i64 1)))⟩, ⟨(some 29), none, (.mv (.t 47))⟩])))))))
  (.seq (.reg [⟨(some 4), none, (.mv (.c (.int .i64 0)))⟩])
  .ret)))))
theorem tr28 : trFun Tryz.prog 28 = some ⟨48, [.t 4], c28⟩ := by kernel_rfl
set_option maxHeartbeats 4000000 in
theorem ok_pCmp : SpecOK Tryz.prog 28 (flat spPCmp) := by
  refine flat_run (env_cons ok_pNorm (env_cons ok_iMul (env_cons ok_iCmp (env_nil _)))) mixed tr28 ?_
  intro args v h N hG
  unfold spPCmp at hG
  split at hG
  case h_2 => cases hG
  rename_i s1 l1 s2 l2 s3 l3 s4 l4 t1 m1 t2 m2 t3 m3 t4 m4
  split at hG
  case isFalse => cases hG
  rename_i hl
  obtain ⟨⟨ha1, ha2, ha3, ha4, hb1, hb2, hb3, hb4⟩, pa, pb⟩ := hl
  have ga1 : l1.length ≤ 34359738368 := by omega
  have ea1 := len_sv (s := s1) ha1
  obtain ⟨a1, fa1⟩ : ∃ z, sv s1 l1 = z := ⟨_, rfl⟩
  rw [fa1] at ea1 hG
  have ga2 : l2.length ≤ 34359738368 := by omega
  have ea2 := len_sv (s := s2) ha2
  obtain ⟨a2, fa2⟩ : ∃ z, sv s2 l2 = z := ⟨_, rfl⟩
  rw [fa2] at ea2 hG
  have ga3 : l3.length ≤ 34359738368 := by omega
  have ea3 := len_sv (s := s3) ha3
  obtain ⟨a3, fa3⟩ : ∃ z, sv s3 l3 = z := ⟨_, rfl⟩
  rw [fa3] at ea3 hG
  have ga4 : l4.length ≤ 34359738368 := by omega
  have ea4 := len_sv (s := s4) ha4
  obtain ⟨a4, fa4⟩ : ∃ z, sv s4 l4 = z := ⟨_, rfl⟩
  rw [fa4] at ea4 hG
  rw [fa4] at pa
  have pwa := pW_of (by omega : a4 ≠ 0)
  have gb1 : m1.length ≤ 34359738368 := by omega
  have eb1 := len_sv (s := t1) hb1
  obtain ⟨b1, fb1⟩ : ∃ z, sv t1 m1 = z := ⟨_, rfl⟩
  rw [fb1] at eb1 hG
  have gb2 : m2.length ≤ 34359738368 := by omega
  have eb2 := len_sv (s := t2) hb2
  obtain ⟨b2, fb2⟩ : ∃ z, sv t2 m2 = z := ⟨_, rfl⟩
  rw [fb2] at eb2 hG
  have gb3 : m3.length ≤ 34359738368 := by omega
  have eb3 := len_sv (s := t3) hb3
  obtain ⟨b3, fb3⟩ : ∃ z, sv t3 m3 = z := ⟨_, rfl⟩
  rw [fb3] at eb3 hG
  have gb4 : m4.length ≤ 34359738368 := by omega
  have eb4 := len_sv (s := t4) hb4
  obtain ⟨b4, fb4⟩ : ∃ z, sv t4 m4 = z := ⟨_, rfl⟩
  rw [fb4] at eb4 hG
  rw [fb4] at pb
  have pwb := pW_of (by omega : b4 ≠ 0)
  have sg1 := pQ_cross pa pb (pG_dvd_x a1 a2 a3 a4) (pG_dvd_x b1 b2 b3 b4)
  have sg2 := pQ_cross pa pb (pG_dvd_y a1 a2 a3 a4) (pG_dvd_y b1 b2 b3 b4)
  have sg3 := pQ_cross pa pb (pG_dvd_z a1 a2 a3 a4) (pG_dvd_z b1 b2 b3 b4)
  have na1 := pQ_len (x := a1) (y := a2) (z := a3) (w := a4) ea1
  obtain ⟨A1, ca1⟩ : ∃ z, pQ a1 a2 a3 a4 a1 = z := ⟨_, rfl⟩
  rw [ca1] at na1
  have na2 := pQ_len (x := a1) (y := a2) (z := a3) (w := a4) ea2
  obtain ⟨A2, ca2⟩ : ∃ z, pQ a1 a2 a3 a4 a2 = z := ⟨_, rfl⟩
  rw [ca2] at na2
  have na3 := pQ_len (x := a1) (y := a2) (z := a3) (w := a4) ea3
  obtain ⟨A3, ca3⟩ : ∃ z, pQ a1 a2 a3 a4 a3 = z := ⟨_, rfl⟩
  rw [ca3] at na3
  have na4 := pQ_len (x := a1) (y := a2) (z := a3) (w := a4) ea4
  obtain ⟨A4, ca4⟩ : ∃ z, pQ a1 a2 a3 a4 a4 = z := ⟨_, rfl⟩
  rw [ca4] at na4
  have nb1 := pQ_len (x := b1) (y := b2) (z := b3) (w := b4) eb1
  obtain ⟨B1, cb1⟩ : ∃ z, pQ b1 b2 b3 b4 b1 = z := ⟨_, rfl⟩
  rw [cb1] at nb1
  have nb2 := pQ_len (x := b1) (y := b2) (z := b3) (w := b4) eb2
  obtain ⟨B2, cb2⟩ : ∃ z, pQ b1 b2 b3 b4 b2 = z := ⟨_, rfl⟩
  rw [cb2] at nb2
  have nb3 := pQ_len (x := b1) (y := b2) (z := b3) (w := b4) eb3
  obtain ⟨B3, cb3⟩ : ∃ z, pQ b1 b2 b3 b4 b3 = z := ⟨_, rfl⟩
  rw [cb3] at nb3
  have nb4 := pQ_len (x := b1) (y := b2) (z := b3) (w := b4) eb4
  obtain ⟨B4, cb4⟩ : ∃ z, pQ b1 b2 b3 b4 b4 = z := ⟨_, rfl⟩
  rw [cb4] at nb4
  rw [ca1, ca4, cb1, cb4] at sg1
  rw [ca2, ca4, cb2, cb4] at sg2
  rw [ca3, ca4, cb3, cb4] at sg3
  have ka1 := lle (k := 34359738368) na1 (by omega)
  have ka2 := lle (k := 34359738368) na2 (by omega)
  have ka3 := lle (k := 34359738368) na3 (by omega)
  have ka4 := lle (k := 34359738368) na4 (by omega)
  have kb1 := lle (k := 34359738368) nb1 (by omega)
  have kb2 := lle (k := 34359738368) nb2 (by omega)
  have kb3 := lle (k := 34359738368) nb3 (by omega)
  have kb4 := lle (k := 34359738368) nb4 (by omega)
  have u1 := lmul (k := 68719476736) na1 nb4 (by omega)
  have v1 := lmul (k := 68719476736) nb1 na4 (by omega)
  have u2 := lmul (k := 68719476736) na2 nb4 (by omega)
  have v2 := lmul (k := 68719476736) nb2 na4 (by omega)
  have u3 := lmul (k := 68719476736) na3 nb4 (by omega)
  have v3 := lmul (k := 68719476736) nb3 na4 (by omega)
  unfold cmp4 lex3 at hG
  rw [← sg1, ← sg2, ← sg3] at hG
  have w1 : IntKind.i64.wrap 1 = 1 := i64_in _ (by omega)
  have w2 : IntKind.i64.wrap 2 = 2 := i64_in _ (by omega)
  have w3 : IntKind.i64.wrap 3 = 3 := i64_in _ (by omega)
  obtain ⟨S1, eS1⟩ : ∃ z, (A1 * B4 - B1 * A4).sign = z := ⟨_, rfl⟩
  rw [eS1] at hG
  obtain ⟨S2, eS2⟩ : ∃ z, (A2 * B4 - B2 * A4).sign = z := ⟨_, rfl⟩
  rw [eS2] at hG
  obtain ⟨S3, eS3⟩ : ∃ z, (A3 * B4 - B3 * A4).sign = z := ⟨_, rfl⟩
  rw [eS3] at hG
  clear sg1 sg2 sg3 na1 ea1 na2 ea2 na3 ea3 na4 ea4 nb1 eb1 nb2 eb2 nb3 eb3 nb4 eb4
  by_cases z1 : S1 = 0
  case neg =>
    simp only [z1, if_false, reduceCtorEq] at hG
    cases hG
    refine ⟨rfl, by simp, ?_⟩
    simp only [c28, initT, List.zipIdx_cons, List.zipIdx_nil, List.map_cons, List.map_nil, Nat.reduceAdd]
    simp only [↓R0, R1, rdL, rdH, isCall, istep, ibin, vcells, fillI, setR, flat, okCell, isBase, List.set, List.drop, List.take, List.append, bnds, bhi, blo, srcOf, simprocAttr, -Int.reduceAbs, spPNorm, pE, iE, ga1, fa1, ga2, fa2, ga3, fa3, ga4, fa4, pwa, gb1, fb1, gb2, fb2, gb3, fb3, gb4, fb4, pwb, ca1, ca2, ca3, ca4, cb1, cb2, cb3, cb4, ka1, ka2, ka3, ka4, kb1, kb2, kb3, kb4, u1, v1, u2, v2, u3, v3, eS1, eS2, eS3, w1, w2, w3]
    refine lp_step ?_
    simp only [↓R0, R1, rdL, rdH, isCall, istep, ibin, vcells, fillI, setR, flat, okCell, isBase, List.set, List.drop, List.take, List.append, bnds, bhi, blo, srcOf, simprocAttr, -Int.reduceAbs, spIMul, spICmp, iE, z1, not_true_eq_false, not_false_eq_true, ga1, fa1, ga2, fa2, ga3, fa3, ga4, fa4, pwa, gb1, fb1, gb2, fb2, gb3, fb3, gb4, fb4, pwb, ca1, ca2, ca3, ca4, cb1, cb2, cb3, cb4, ka1, ka2, ka3, ka4, kb1, kb2, kb3, kb4, u1, v1, u2, v2, u3, v3, eS1, eS2, eS3, w1, w2, w3, Fin, isEnd, resL, res1, iE, rE]
    exact ⟨_, rfl, rfl, fun k hk => by simp only [ne_nb hk, if_false]⟩
  by_cases z2 : S2 = 0
  case neg =>
    simp only [z2, if_false, z1, if_true, reduceCtorEq] at hG
    cases hG
    refine ⟨rfl, by simp, ?_⟩
    simp only [c28, initT, List.zipIdx_cons, List.zipIdx_nil, List.map_cons, List.map_nil, Nat.reduceAdd]
    simp only [↓R0, R1, rdL, rdH, isCall, istep, ibin, vcells, fillI, setR, flat, okCell, isBase, List.set, List.drop, List.take, List.append, bnds, bhi, blo, srcOf, simprocAttr, -Int.reduceAbs, spPNorm, pE, iE, ga1, fa1, ga2, fa2, ga3, fa3, ga4, fa4, pwa, gb1, fb1, gb2, fb2, gb3, fb3, gb4, fb4, pwb, ca1, ca2, ca3, ca4, cb1, cb2, cb3, cb4, ka1, ka2, ka3, ka4, kb1, kb2, kb3, kb4, u1, v1, u2, v2, u3, v3, eS1, eS2, eS3, w1, w2, w3]
    refine lp_step ?_
    simp only [↓R0, R1, rdL, rdH, isCall, istep, ibin, vcells, fillI, setR, flat, okCell, isBase, List.set, List.drop, List.take, List.append, bnds, bhi, blo, srcOf, simprocAttr, -Int.reduceAbs, spIMul, spICmp, iE, z1, z2, not_true_eq_false, not_false_eq_true, ga1, fa1, ga2, fa2, ga3, fa3, ga4, fa4, pwa, gb1, fb1, gb2, fb2, gb3, fb3, gb4, fb4, pwb, ca1, ca2, ca3, ca4, cb1, cb2, cb3, cb4, ka1, ka2, ka3, ka4, kb1, kb2, kb3, kb4, u1, v1, u2, v2, u3, v3, eS1, eS2, eS3, w1, w2, w3]
    refine lp_step ?_
    simp only [↓R0, R1, rdL, rdH, isCall, istep, ibin, vcells, fillI, setR, flat, okCell, isBase, List.set, List.drop, List.take, List.append, bnds, bhi, blo, srcOf, simprocAttr, -Int.reduceAbs, spIMul, spICmp, iE, z1, z2, not_true_eq_false, not_false_eq_true, ga1, fa1, ga2, fa2, ga3, fa3, ga4, fa4, pwa, gb1, fb1, gb2, fb2, gb3, fb3, gb4, fb4, pwb, ca1, ca2, ca3, ca4, cb1, cb2, cb3, cb4, ka1, ka2, ka3, ka4, kb1, kb2, kb3, kb4, u1, v1, u2, v2, u3, v3, eS1, eS2, eS3, w1, w2, w3, Fin, isEnd, resL, res1, iE, rE]
    exact ⟨_, rfl, rfl, fun k hk => by simp only [ne_nb hk, if_false]⟩
  by_cases z3 : S3 = 0
  case neg =>
    simp only [z3, if_false, z1, if_true, z2, if_true, reduceCtorEq] at hG
    cases hG
    refine ⟨rfl, by simp, ?_⟩
    simp only [c28, initT, List.zipIdx_cons, List.zipIdx_nil, List.map_cons, List.map_nil, Nat.reduceAdd]
    simp only [↓R0, R1, rdL, rdH, isCall, istep, ibin, vcells, fillI, setR, flat, okCell, isBase, List.set, List.drop, List.take, List.append, bnds, bhi, blo, srcOf, simprocAttr, -Int.reduceAbs, spPNorm, pE, iE, ga1, fa1, ga2, fa2, ga3, fa3, ga4, fa4, pwa, gb1, fb1, gb2, fb2, gb3, fb3, gb4, fb4, pwb, ca1, ca2, ca3, ca4, cb1, cb2, cb3, cb4, ka1, ka2, ka3, ka4, kb1, kb2, kb3, kb4, u1, v1, u2, v2, u3, v3, eS1, eS2, eS3, w1, w2, w3]
    refine lp_step ?_
    simp only [↓R0, R1, rdL, rdH, isCall, istep, ibin, vcells, fillI, setR, flat, okCell, isBase, List.set, List.drop, List.take, List.append, bnds, bhi, blo, srcOf, simprocAttr, -Int.reduceAbs, spIMul, spICmp, iE, z1, z2, z3, not_true_eq_false, not_false_eq_true, ga1, fa1, ga2, fa2, ga3, fa3, ga4, fa4, pwa, gb1, fb1, gb2, fb2, gb3, fb3, gb4, fb4, pwb, ca1, ca2, ca3, ca4, cb1, cb2, cb3, cb4, ka1, ka2, ka3, ka4, kb1, kb2, kb3, kb4, u1, v1, u2, v2, u3, v3, eS1, eS2, eS3, w1, w2, w3]
    refine lp_step ?_
    simp only [↓R0, R1, rdL, rdH, isCall, istep, ibin, vcells, fillI, setR, flat, okCell, isBase, List.set, List.drop, List.take, List.append, bnds, bhi, blo, srcOf, simprocAttr, -Int.reduceAbs, spIMul, spICmp, iE, z1, z2, z3, not_true_eq_false, not_false_eq_true, ga1, fa1, ga2, fa2, ga3, fa3, ga4, fa4, pwa, gb1, fb1, gb2, fb2, gb3, fb3, gb4, fb4, pwb, ca1, ca2, ca3, ca4, cb1, cb2, cb3, cb4, ka1, ka2, ka3, ka4, kb1, kb2, kb3, kb4, u1, v1, u2, v2, u3, v3, eS1, eS2, eS3, w1, w2, w3]
    refine lp_step ?_
    simp only [↓R0, R1, rdL, rdH, isCall, istep, ibin, vcells, fillI, setR, flat, okCell, isBase, List.set, List.drop, List.take, List.append, bnds, bhi, blo, srcOf, simprocAttr, -Int.reduceAbs, spIMul, spICmp, iE, z1, z2, z3, not_true_eq_false, not_false_eq_true, ga1, fa1, ga2, fa2, ga3, fa3, ga4, fa4, pwa, gb1, fb1, gb2, fb2, gb3, fb3, gb4, fb4, pwb, ca1, ca2, ca3, ca4, cb1, cb2, cb3, cb4, ka1, ka2, ka3, ka4, kb1, kb2, kb3, kb4, u1, v1, u2, v2, u3, v3, eS1, eS2, eS3, w1, w2, w3, Fin, isEnd, resL, res1, iE, rE]
    exact ⟨_, rfl, rfl, fun k hk => by simp only [ne_nb hk, if_false]⟩
  simp only [z1, z2, z3, if_true] at hG
  cases hG
  refine ⟨rfl, by simp, ?_⟩
  simp only [c28, initT, List.zipIdx_cons, List.zipIdx_nil, List.map_cons, List.map_nil, Nat.reduceAdd]
  simp only [↓R0, R1, rdL, rdH, isCall, istep, ibin, vcells, fillI, setR, flat, okCell, isBase, List.set, List.drop, List.take, List.append, bnds, bhi, blo, srcOf, simprocAttr, -Int.reduceAbs, spPNorm, pE, iE, ga1, fa1, ga2, fa2, ga3, fa3, ga4, fa4, pwa, gb1, fb1, gb2, fb2, gb3, fb3, gb4, fb4, pwb, ca1, ca2, ca3, ca4, cb1, cb2, cb3, cb4, ka1, ka2, ka3, ka4, kb1, kb2, kb3, kb4, u1, v1, u2, v2, u3, v3, eS1, eS2, eS3, w1, w2, w3]
  refine lp_step ?_
  simp only [↓R0, R1, rdL, rdH, isCall, istep, ibin, vcells, fillI, setR, flat, okCell, isBase, List.set, List.drop, List.take, List.append, bnds, bhi, blo, srcOf, simprocAttr, -Int.reduceAbs, spIMul, spICmp, iE, z1, z2, z3, not_true_eq_false, not_false_eq_true, ga1, fa1, ga2, fa2, ga3, fa3, ga4, fa4, pwa, gb1, fb1, gb2, fb2, gb3, fb3, gb4, fb4, pwb, ca1, ca2, ca3, ca4, cb1, cb2, cb3, cb4, ka1, ka2, ka3, ka4, kb1, kb2, kb3, kb4, u1, v1, u2, v2, u3, v3, eS1, eS2, eS3, w1, w2, w3]
  refine lp_step ?_
  simp only [↓R0, R1, rdL, rdH, isCall, istep, ibin, vcells, fillI, setR, flat, okCell, isBase, List.set, List.drop, List.take, List.append, bnds, bhi, blo, srcOf, simprocAttr, -Int.reduceAbs, spIMul, spICmp, iE, z1, z2, z3, not_true_eq_false, not_false_eq_true, ga1, fa1, ga2, fa2, ga3, fa3, ga4, fa4, pwa, gb1, fb1, gb2, fb2, gb3, fb3, gb4, fb4, pwb, ca1, ca2, ca3, ca4, cb1, cb2, cb3, cb4, ka1, ka2, ka3, ka4, kb1, kb2, kb3, kb4, u1, v1, u2, v2, u3, v3, eS1, eS2, eS3, w1, w2, w3]
  refine lp_step ?_
  simp only [↓R0, R1, rdL, rdH, isCall, istep, ibin, vcells, fillI, setR, flat, okCell, isBase, List.set, List.drop, List.take, List.append, bnds, bhi, blo, srcOf, simprocAttr, -Int.reduceAbs, spIMul, spICmp, iE, z1, z2, z3, not_true_eq_false, not_false_eq_true, ga1, fa1, ga2, fa2, ga3, fa3, ga4, fa4, pwa, gb1, fb1, gb2, fb2, gb3, fb3, gb4, fb4, pwb, ca1, ca2, ca3, ca4, cb1, cb2, cb3, cb4, ka1, ka2, ka3, ka4, kb1, kb2, kb3, kb4, u1, v1, u2, v2, u3, v3, eS1, eS2, eS3, w1, w2, w3]
  refine lp_step ?_
  simp only [↓R0, R1, rdL, rdH, isCall, istep, ibin, vcells, fillI, setR, flat, okCell, isBase, List.set, List.drop, List.take, List.append, bnds, bhi, blo, srcOf, simprocAttr, -Int.reduceAbs, Fin, isEnd, resL, res1, iE, rE]
  exact ⟨_, rfl, rfl, fun k hk => by simp only [ne_nb hk, if_false]⟩
def spR4Cmp : List Value → Option Value
  | [.agg ⟨[.bool s1, .string ⟨⟨l1⟩⟩, .bool s2, .string ⟨⟨l2⟩⟩, .bool s3, .string ⟨⟨l3⟩⟩, .bool s4, .string ⟨⟨l4⟩⟩]⟩, .agg ⟨[.bool t1, .string ⟨⟨m1⟩⟩, .bool t2, .string ⟨⟨m2⟩⟩, .bool t3, .string ⟨⟨m3⟩⟩, .bool t4, .string ⟨⟨m4⟩⟩]⟩] =>
    if (l1.length ≤ 65536 ∧ l2.length ≤ 65536 ∧ l3.length ≤ 65536 ∧ l4.length ≤ 65536 ∧ m1.length ≤ 65536 ∧ m2.length ≤ 65536 ∧ m3.length ≤ 65536 ∧ m4.length ≤ 65536) ∧ 0 < (sv s4 l4) ∧ 0 < (sv t4 m4) then some (.int .i64 (cmp4 (sv s1 l1) (sv s2 l2) (sv s3 l3) (sv s4 l4) (sv t1 m1) (sv t2 m2) (sv t3 m3) (sv t4 m4))) else none
  | _ => none
def c63 : ICode :=
  (.seq (.reg [⟨(some 2), none, (.box 30 8 (.t 0))⟩, ⟨(some 3), none, (.box 30 8 (.t 1))⟩, ⟨(some 4), none, (.mv (.c (.int .i64 0)))⟩])
  (.seq (.dreg [⟨(some 9), none, [], (.load true 8 (.t 2))⟩, ⟨(some 10), none, [], (.call 57 [(.t 9)])⟩, ⟨(some 11), none, [1], (.load true 8 (.t 3))⟩, ⟨(some 12), none, [], (.call 57 [(.t 11)])⟩, ⟨(some 5), none, [], (.alloc 67 9 [(.bool false), (.string ⟨⟨[]⟩⟩), (.string ⟨⟨[]⟩⟩), (.bool false), (.string ⟨⟨[]⟩⟩), (.string ⟨⟨[]⟩⟩), (.bool false), (.string ⟨⟨[]⟩⟩), (.string ⟨⟨[]⟩⟩)])⟩, ⟨(some 6), none, [], (.alloc 67 9 [(.bool false), (.string ⟨⟨[]⟩⟩), (.string ⟨⟨[]⟩⟩), (.bool false), (.string ⟨⟨[]⟩⟩), (.string ⟨⟨[]⟩⟩), (.bool false), (.string ⟨⟨[]⟩⟩), (.string ⟨⟨[]⟩⟩)])⟩, ⟨none, none, [], (.store 9 (.t 5) (.t 10))⟩, ⟨none, none, [], (.store 9 (.t 6) (.t 12))⟩])
  (.seq (.seq (.reg [⟨(some 13), none, (.mv (.c (.int .i64 0)))⟩])
  (.block 0 (.loop (.seq (.reg [⟨(some 14), none, (.bin .lss (.t 13) (.c (.int .i64 3)))⟩])
  (.seq (.cond (.t 14)
  .skip
  (.exit 0))
  (.seq (.block 1 (.seq (.reg [⟨(some 15), none, (.mv (.t 13))⟩, ⟨(some 7), none, (.mv (.t 15))⟩])
  (.seq (.dreg [⟨(some 16), none, [], (.mv (.t 7))⟩, ⟨(some 17), none, [], (.ixarr 3 3 (.t 5) (.t 16))⟩, ⟨(some 18), none, [], (.load true 3 (.t 17))⟩, ⟨(some 19), none, [], (.mv (.t 7))⟩, ⟨(some 20), none, [], (.ixarr 3 3 (.t 6) (.t 19))⟩, ⟨(some 21), none, [], (.load true 3 (.t 20))⟩, ⟨(some 22), none, [], (.call 107 [(.t 18), (.t 21)])⟩, ⟨(some 8), none, [], (.mv (.t 22))⟩])
  (.seq (.reg [⟨(some 23), none, (.mv (.t 8))⟩, ⟨(some 24), none, (.bin .neq (.t 23) (.c (.int .i64 0)))⟩])
  (.cond (.t 24)
  (.seq (.reg [⟨(some 25), none, (.mv (.t 8))⟩, ⟨(some 4), none, (.mv (.t 25))⟩])
  .ret)
  .skip)))))
  (.reg [⟨(some 26), none, (.bin .add (.t 13) (.c (.int .i64 1)))⟩, ⟨(some 13), none, (.mv (.t 26))⟩])))))))
  (.seq (.reg [⟨(some 4), none, (.mv (.c (.int .i64 0)))⟩])
  .ret))))
theorem tr63 : trFun Tryz.prog 63 = some ⟨27, [.t 4], c63⟩ := by kernel_rfl
set_option maxHeartbeats 4000000 in
theorem ok_r4Cmp : SpecOK Tryz.prog 63 (flat spR4Cmp) := by
  refine flat_run (env_cons ok_r4Coords (env_cons ok_r3Cmp (env_nil _))) mixed tr63 ?_
  intro args v h N hG
  unfold spR4Cmp at hG
  split at hG
  case h_2 => cases hG
  rename_i s1 l1 s2 l2 s3 l3 s4 l4 t1 m1 t2 m2 t3 m3 t4 m4
  split at hG
  case isFalse => cases hG
  rename_i hl
  obtain ⟨⟨ha1, ha2, ha3, ha4, hb1, hb2, hb3, hb4⟩, pa, pb⟩ := hl
  have ga1 : l1.length ≤ 34359738368 := by omega
  have ea1 := len_sv (s := s1) ha1
  obtain ⟨a1, fa1⟩ : ∃ z, sv s1 l1 = z := ⟨_, rfl⟩
  rw [fa1] at ea1 hG
  have ga2 : l2.length ≤ 34359738368 := by omega
  have ea2 := len_sv (s := s2) ha2
  obtain ⟨a2, fa2⟩ : ∃ z, sv s2 l2 = z := ⟨_, rfl⟩
  rw [fa2] at ea2 hG
  have ga3 : l3.length ≤ 34359738368 := by omega
  have ea3 := len_sv (s := s3) ha3
  obtain ⟨a3, fa3⟩ : ∃ z, sv s3 l3 = z := ⟨_, rfl⟩
  rw [fa3] at ea3 hG
  have ga4 : l4.length ≤ 34359738368 := by omega
  have ea4 := len_sv (s := s4) ha4
  obtain ⟨a4, fa4⟩ : ∃ z, sv s4 l4 = z := ⟨_, rfl⟩
  rw [fa4] at ea4 hG
  rw [fa4] at pa
  have nea : a4 ≠ 0 := by omega
  have pwa := pW_of nea
  have gb1 : m1.length ≤ 34359738368 := by omega
  have eb1 := len_sv (s := t1) hb1
  obtain ⟨b1, fb1⟩ : ∃ z, sv t1 m1 = z := ⟨_, rfl⟩
  rw [fb1] at eb1 hG
  have gb2 : m2.length ≤ 34359738368 := by omega
  have eb2 := len_sv (s := t2) hb2
  obtain ⟨b2, fb2⟩ : ∃ z, sv t2 m2 = z := ⟨_, rfl⟩
  rw [fb2] at eb2 hG
  have gb3 : m3.length ≤ 34359738368 := by omega
  have eb3 := len_sv (s := t3) hb3
  obtain ⟨b3, fb3⟩ : ∃ z, sv t3 m3 = z := ⟨_, rfl⟩
  rw [fb3] at eb3 hG
  have gb4 : m4.length ≤ 34359738368 := by omega
  have eb4 := len_sv (s := t4) hb4
  obtain ⟨b4, fb4⟩ : ∃ z, sv t4 m4 = z := ⟨_, rfl⟩
  rw [fb4] at eb4 hG
  rw [fb4] at pb
  have neb : b4 ≠ 0 := by omega
  have pwb := pW_of neb
  have sg1 := sub_sign (a := a1) (c := b1) pa pb
  have sg2 := sub_sign (a := a2) (c := b2) pa pb
  have sg3 := sub_sign (a := a3) (c := b3) pa pb
  have rx1 := divInt_RB nea ea1 ea4
  obtain ⟨x1, fx1⟩ : ∃ z, Rat.divInt a1 a4 = z := ⟨_, rfl⟩
  rw [fx1] at rx1 sg1
  have Fx1n := rx1.num (k := 4294967296) (by omega)
  have Fx1d := rx1.den (k := 4294967296) (by omega)
  have rx2 := divInt_RB nea ea2 ea4
  obtain ⟨x2, fx2⟩ : ∃ z, Rat.divInt a2 a4 = z := ⟨_, rfl⟩
  rw [fx2] at rx2 sg2
  have Fx2n := rx2.num (k := 4294967296) (by omega)
  have Fx2d := rx2.den (k := 4294967296) (by omega)
  have rx3 := divInt_RB nea ea3 ea4
  obtain ⟨x3, fx3⟩ : ∃ z, Rat.divInt a3 a4 = z := ⟨_, rfl⟩
  rw [fx3] at rx3 sg3
  have Fx3n := rx3.num (k := 4294967296) (by omega)
  have Fx3d := rx3.den (k := 4294967296) (by omega)
  have ry1 := divInt_RB neb eb1 eb4
  obtain ⟨y1, fy1⟩ : ∃ z, Rat.divInt b1 b4 = z := ⟨_, rfl⟩
  rw [fy1] at ry1 sg1
  have Fy1n := ry1.num (k := 4294967296) (by omega)
  have Fy1d := ry1.den (k := 4294967296) (by omega)
  have ry2 := divInt_RB neb eb2 eb4
  obtain ⟨y2, fy2⟩ : ∃ z, Rat.divInt b2 b4 = z := ⟨_, rfl⟩
  rw [fy2] at ry2 sg2
  have Fy2n := ry2.num (k := 4294967296) (by omega)
  have Fy2d := ry2.den (k := 4294967296) (by omega)
  have ry3 := divInt_RB neb eb3 eb4
  obtain ⟨y3, fy3⟩ : ∃ z, Rat.divInt b3 b4 = z := ⟨_, rfl⟩
  rw [fy3] at ry3 sg3
  have Fy3n := ry3.num (k := 4294967296) (by omega)
  have Fy3d := ry3.den (k := 4294967296) (by omega)
  unfold cmp4 lex3 at hG
  rw [← sg1, ← sg2, ← sg3] at hG
  have w1 : IntKind.i64.wrap 1 = 1 := i64_in _ (by omega)
  have w2 : IntKind.i64.wrap 2 = 2 := i64_in _ (by omega)
  have w3 : IntKind.i64.wrap 3 = 3 := i64_in _ (by omega)
  obtain ⟨S1, eS1⟩ : ∃ z, (x1 - y1).num.sign = z := ⟨_, rfl⟩
  rw [eS1] at hG
  obtain ⟨S2, eS2⟩ : ∃ z, (x2 - y2).num.sign = z := ⟨_, rfl⟩
  rw [eS2] at hG
  obtain ⟨S3, eS3⟩ : ∃ z, (x3 - y3).num.sign = z := ⟨_, rfl⟩
  rw [eS3] at hG
  clear sg1 sg2 sg3 ea1 ea2 ea3 ea4 eb1 eb2 eb3 eb4
  by_cases z1 : S1 = 0
  case neg =>
    simp only [z1, if_false, reduceCtorEq] at hG
    cases hG
    refine ⟨rfl, by simp, ?_⟩
    simp only [c63, initT, List.zipIdx_cons, List.zipIdx_nil, List.map_cons, List.map_nil, Nat.reduceAdd]
    simp only [↓R0, R1, rdL, rdH, isCall, istep, ibin, vcells, fillI, setR, flat, okCell, isBase, List.set, List.drop, List.take, List.append, bnds, bhi, blo, srcOf, simprocAttr, -Int.reduceAbs, spR4Coords, r3E, rE, ga1, fa1, ga2, fa2, ga3, fa3, ga4, fa4, pwa, gb1, fb1, gb2, fb2, gb3, fb3, gb4, fb4, pwb, fx1, Fx1n, Fx1d, fx2, Fx2n, Fx2d, fx3, Fx3n, Fx3d, fy1, Fy1n, Fy1d, fy2, Fy2n, Fy2d, fy3, Fy3n, Fy3d, eS1, eS2, eS3, w1, w2, w3]
    refine lp_step ?_
    simp only [↓R0, R1, rdL, rdH, isCall, istep, ibin, vcells, fillI, setR, flat, okCell, isBase, List.set, List.drop, List.take, List.append, bnds, bhi, blo, srcOf, simprocAttr, -Int.reduceAbs, spR3Cmp, rv_can, rE, z1, not_true_eq_false, not_false_eq_true, ga1, fa1, ga2, fa2, ga3, fa3, ga4, fa4, pwa, gb1, fb1, gb2, fb2, gb3, fb3, gb4, fb4, pwb, fx1, Fx1n, Fx1d, fx2, Fx2n, Fx2d, fx3, Fx3n, Fx3d, fy1, Fy1n, Fy1d, fy2, Fy2n, Fy2d, fy3, Fy3n, Fy3d, eS1, eS2, eS3, w1, w2, w3, Fin, isEnd, resL, res1, iE, rE]
    exact ⟨_, rfl, rfl, fun k hk => by simp only [ne_nb hk, if_false]⟩
  by_cases z2 : S2 = 0
  case neg =>
    simp only [z2, if_false, z1, if_true, reduceCtorEq] at hG
    cases hG
    refine ⟨rfl, by simp, ?_⟩
    simp only [c63, initT, List.zipIdx_cons, List.zipIdx_nil, List.map_cons, List.map_nil, Nat.reduceAdd]
    simp only [↓R0, R1, rdL, rdH, isCall, istep, ibin, vcells, fillI, setR, flat, okCell, isBase, List.set, List.drop, List.take, List.append, bnds, bhi, blo, srcOf, simprocAttr, -Int.reduceAbs, spR4Coords, r3E, rE, ga1, fa1, ga2, fa2, ga3, fa3, ga4, fa4, pwa, gb1, fb1, gb2, fb2, gb3, fb3, gb4, fb4, pwb, fx1, Fx1n, Fx1d, fx2, Fx2n, Fx2d, fx3, Fx3n, Fx3d, fy1, Fy1n, Fy1d, fy2, Fy2n, Fy2d, fy3, Fy3n, Fy3d, eS1, eS2, eS3, w1, w2, w3]
    refine lp_step ?_
    simp only [↓R0, R1, rdL, rdH, isCall, istep, ibin, vcells, fillI, setR, flat, okCell, isBase, List.set, List.drop, List.take, List.append, bnds, bhi, blo, srcOf, simprocAttr, -Int.reduceAbs, spR3Cmp, rv_can, rE, z1, z2, not_true_eq_false, not_false_eq_true, ga1, fa1, ga2, fa2, ga3, fa3, ga4, fa4, pwa, gb1, fb1, gb2, fb2, gb3, fb3, gb4, fb4, pwb, fx1, Fx1n, Fx1d, fx2, Fx2n, Fx2d, fx3, Fx3n, Fx3d, fy1, Fy1n, Fy1d, fy2, Fy2n, Fy2d, fy3, Fy3n, Fy3d, eS1, eS2, eS3, w1, w2, w3]
    refine lp_step ?_
    simp only [↓R0, R1, rdL, rdH, isCall, istep, ibin, vcells, fillI, setR, flat, okCell, isBase, List.set, List.drop, List.take, List.append, bnds, bhi, blo, srcOf, simprocAttr, -Int.reduceAbs, spR3Cmp, rv_can, rE, z1, z2, not_true_eq_false, not_false_eq_true, ga1, fa1, ga2, fa2, ga3, fa3, ga4, fa4, pwa, gb1, fb1, gb2, fb2, gb3, fb3, gb4, fb4, pwb, fx1, Fx1n, Fx1d, fx2, Fx2n, Fx2d, fx3, Fx3n, Fx3d, fy1, Fy1n, Fy1d, fy2, Fy2n, Fy2d, fy3, Fy3n, Fy3d, eS1, eS2, eS3, w1, w2, w3, Fin, isEnd, resL, res1, iE, rE]
    exact ⟨_, rfl, rfl, fun k hk => by simp only [ne_nb hk, if_false]⟩
  by_cases z3 : S3 = 0
  case neg =>
    simp only [z3, if_false, z1, if_true, z2, if_true, reduceCtorEq] at hG
    cases hG
    refine ⟨rfl, by simp, ?_⟩
    simp only [c63, initT, List.zipIdx_cons, List.zipIdx_nil, List.map_cons, List.map_nil, Nat.reduceAdd]
    simp only [↓R0, R1, rdL, rdH, isCall, istep, ibin, vcells, fillI, setR, flat, okCell, isBase, List.set, List.drop, List.take, List.append, bnds, bhi, blo, srcOf, simprocAttr, -Int.reduceAbs, spR4Coords, r3E, rE, ga1, fa1, ga2, fa2, ga3, fa3, ga4, fa4, pwa, gb1, fb1, gb2, fb2, gb3, fb3, gb4, fb4, pwb, fx1, Fx1n, Fx1d, fx2, Fx2n, Fx2d, fx3, Fx3n, Fx3d, fy1, Fy1n, Fy1d, fy2, Fy2n, Fy2d, fy3, Fy3n, Fy3d, eS1, eS2, eS3, w1, w2, w3]
    refine lp_step ?_
    simp only [↓R0, R1, rdL, rdH, isCall, istep, ibin, vcells, fillI, setR, flat, okCell, isBase, List.set, List.drop, List.take, List.append, bnds, bhi, blo, srcOf, simprocAttr, -Int.reduceAbs, spR3Cmp, rv_can, rE, z1, z2, z3, not_true_eq_false, not_false_eq_true, ga1, fa1, ga2, fa2, ga3, fa3, ga4, fa4, pwa, gb1, fb1, gb2, fb2, gb3, fb3, gb4, fb4, pwb, fx1, Fx1n, Fx1d, fx2, Fx2n, Fx2d, fx3, Fx3n, Fx3d, fy1, Fy1n, Fy1d, fy2, Fy2n, Fy2d, fy3, Fy3n, Fy3d, eS1, eS2, eS3, w1, w2, w3]
    refine lp_step ?_
    simp only [↓R0, R1, rdL, rdH, isCall, istep, ibin, vcells, fillI, setR, flat, okCell, isBase, List.set, List.drop, List.take, List.append, bnds, bhi, blo, srcOf, simprocAttr, -Int.reduceAbs, spR3Cmp, rv_can, rE, z1, z2, z3, not_true_eq_false, not_false_eq_true, ga1, fa1, ga2, fa2, ga3, fa3, ga4, fa4, pwa, gb1, fb1, gb2, fb2, gb3, fb3, gb4, fb4, pwb, fx1, Fx1n, Fx1d, fx2, Fx2n, Fx2d, fx3, Fx3n, Fx3d, fy1, Fy1n, Fy1d, fy2, Fy2n, Fy2d, fy3, Fy3n, Fy3d, eS1, eS2, eS3, w1, w2, w3]
    refine lp_step ?_
    simp only [↓R0, R1, rdL, rdH, isCall, istep, ibin, vcells, fillI, setR, flat, okCell, isBase, List.set, List.drop, List.take, List.append, bnds, bhi, blo, srcOf, simprocAttr, -Int.reduceAbs, spR3Cmp, rv_can, rE, z1, z2, z3, not_true_eq_false, not_false_eq_true, ga1, fa1, ga2, fa2, ga3, fa3, ga4, fa4, pwa, gb1, fb1, gb2, fb2, gb3, fb3, gb4, fb4, pwb, fx1, Fx1n, Fx1d, fx2, Fx2n, Fx2d, fx3, Fx3n, Fx3d, fy1, Fy1n, Fy1d, fy2, Fy2n, Fy2d, fy3, Fy3n, Fy3d, eS1, eS2, eS3, w1, w2, w3, Fin, isEnd, resL, res1, iE, rE]
    exact ⟨_, rfl, rfl, fun k hk => by simp only [ne_nb hk, if_false]⟩
  simp only [z1, z2, z3, if_true] at hG
  cases hG
  refine ⟨rfl, by simp, ?_⟩
  simp only [c63, initT, List.zipIdx_cons, List.zipIdx_nil, List.map_cons, List.map_nil, Nat.reduceAdd]
  simp only [↓R0, R1, rdL, rdH, isCall, istep, ibin, vcells, fillI, setR, flat, okCell, isBase, List.set, List.drop, List.take, List.append, bnds, bhi, blo, srcOf, simprocAttr, -Int.reduceAbs, spR4Coords, r3E, rE, ga1, fa1, ga2, fa2, ga3, fa3, ga4, fa4, pwa, gb1, fb1, gb2, fb2, gb3, fb3, gb4, fb4, pwb, fx1, Fx1n, Fx1d, fx2, Fx2n, Fx2d, fx3, Fx3n, Fx3d, fy1, Fy1n, Fy1d, fy2, Fy2n, Fy2d, fy3, Fy3n, Fy3d, eS1, eS2, eS3, w1, w2, w3]
  refine lp_step ?_
  simp only [↓R0, R1, rdL, rdH, isCall, istep, ibin, vcells, fillI, setR, flat, okCell, isBase, List.set, List.drop, List.take, List.append, bnds, bhi, blo, srcOf, simprocAttr, -Int.reduceAbs, spR3Cmp, rv_can, rE, z1, z2, z3, not_true_eq_false, not_false_eq_true, ga1, fa1, ga2, fa2, ga3, fa3, ga4, fa4, pwa, gb1, fb1, gb2, fb2, gb3, fb3, gb4, fb4, pwb, fx1, Fx1n, Fx1d, fx2, Fx2n, Fx2d, fx3, Fx3n, Fx3d, fy1, Fy1n, Fy1d, fy2, Fy2n, Fy2d, fy3, Fy3n, Fy3d, eS1, eS2, eS3, w1, w2, w3]
  refine lp_step ?_
  simp only [↓R0, R1, rdL, rdH, isCall, istep, ibin, vcells, fillI, setR, flat, okCell, isBase, List.set, List.drop, List.take, List.append, bnds, bhi, blo, srcOf, simprocAttr, -Int.reduceAbs, spR3Cmp, rv_can, rE, z1, z2, z3, not_true_eq_false, not_false_eq_true, ga1, fa1, ga2, fa2, ga3, fa3, ga4, fa4, pwa, gb1, fb1, gb2, fb2, gb3, fb3, gb4, fb4, pwb, fx1, Fx1n, Fx1d, fx2, Fx2n, Fx2d, fx3, Fx3n, Fx3d, fy1, Fy1n, Fy1d, fy2, Fy2n, Fy2d, fy3, Fy3n, Fy3d, eS1, eS2, eS3, w1, w2, w3]
  refine lp_step ?_
  simp only [↓R0, R1, rdL, rdH, isCall, istep, ibin, vcells, fillI, setR, flat, okCell, isBase, List.set, List.drop, List.take, List.append, bnds, bhi, blo, srcOf, simprocAttr, -Int.reduceAbs, spR3Cmp, rv_can, rE, z1, z2, z3, not_true_eq_false, not_false_eq_true, ga1, fa1, ga2, fa2, ga3, fa3, ga4, fa4, pwa, gb1, fb1, gb2, fb2, gb3, fb3, gb4, fb4, pwb, fx1, Fx1n, Fx1d, fx2, Fx2n, Fx2d, fx3, Fx3n, Fx3d, fy1, Fy1n, Fy1d, fy2, Fy2n, Fy2d, fy3, Fy3n, Fy3d, eS1, eS2, eS3, w1, w2, w3]
  refine lp_step ?_
  simp only [↓R0, R1, rdL, rdH, isCall, istep, ibin, vcells, fillI, setR, flat, okCell, isBase, List.set, List.drop, List.take, List.append, bnds, bhi, blo, srcOf, simprocAttr, -Int.reduceAbs, Fin, isEnd, resL, res1, iE, rE]
  exact ⟨_, rfl, rfl, fun k hk => by simp only [ne_nb hk, if_false]⟩
def spXBtw : List Value → Option Value
  | [.agg ⟨[.bool s1, .string ⟨⟨l1⟩⟩, .bool s2, .string ⟨⟨l2⟩⟩, .bool s3, .string ⟨⟨l3⟩⟩, .bool s4, .string ⟨⟨l4⟩⟩]⟩, .agg ⟨[.bool t1, .string ⟨⟨m1⟩⟩, .bool t2, .string ⟨⟨m2⟩⟩, .bool t3, .string ⟨⟨m3⟩⟩, .bool t4, .string ⟨⟨m4⟩⟩]⟩, .agg ⟨[.bool q1, .string ⟨⟨k1⟩⟩, .bool q2, .string ⟨⟨k2⟩⟩, .bool q3, .string ⟨⟨k3⟩⟩, .bool q4, .string ⟨⟨k4⟩⟩]⟩] =>
    if (l1.length ≤ 65536 ∧ l2.length ≤ 65536 ∧ l3.length ≤ 65536 ∧ l4.length ≤ 65536 ∧ m1.length ≤ 65536 ∧ m2.length ≤ 65536 ∧ m3.length ≤ 65536 ∧ m4.length ≤ 65536 ∧ k1.length ≤ 65536 ∧ k2.length ≤ 65536 ∧ k3.length ≤ 65536 ∧ k4.length ≤ 65536) ∧ 0 < (sv s4 l4) ∧ 0 < (sv t4 m4) ∧ 0 < (sv q4 k4) then some (.bool (decide (btw (sv s1 l1) (sv s2 l2) (sv s3 l3) (sv s4 l4) (sv t1 m1) (sv t2 m2) (sv t3 m3) (sv t4 m4) (sv q1 k1) (sv q2 k2) (sv q3 k3) (sv q4 k4)))) else none
  | _ => none
def c21 : ICode :=
  (.seq (.reg [⟨(some 3), none, (.box 30 8 (.t 0))⟩, ⟨(some 4), none, (.box 30 8 (.t 1))⟩, ⟨(some 5), none, (.box 30 8 (.t 2))⟩, ⟨(some 6), none, (.mv (.c (.bool false)))⟩])
  (.seq (.reg [⟨(some 8), none, (.load true 8 (.t 3))⟩, ⟨(some 9), none, (.load true 8 (.t 5))⟩, ⟨(some 10), none, (.call 28 [(.t 8), (.t 9)])⟩, ⟨(some 7), none, (.mv (.t 10))⟩])
  (.seq (.reg [⟨(some 11), none, (.mv (.t 7))⟩, ⟨(some 12), none, (.bin .neq (.t 11) (.c (.int .i64 0)))⟩, ⟨(some 13), none, (.mv (.t 12))⟩, ⟨(some 14), (some (13, true)), (.mv (.t 7))⟩, ⟨(some 15), (some (13, true)), (.load true 8 (.t 5))⟩, ⟨(some 16), (some (13, true)), (.load true 8 (.t 4))⟩, ⟨(some 17), (some (13, true)), (.call 28 [(.t 15), (.t 16)])⟩, ⟨(some 18), (some (13, true)), (.bin .eql (.t 14) (.t 17))⟩, ⟨(some 19), none, (.pick (.t 13) (.t 18) (.c (.bool false)))⟩, ⟨(some 20), none, (.mv (.t 19))⟩, ⟨(some 21), (some (20, true)), (.load true 8 (.t 3))⟩, ⟨(some 22), (some (20, true)), (.load true 8 (.t 4))⟩, ⟨(some 23), (some (20, true)), (.load true 8 (.t 5))⟩, ⟨(some 24), (some (20, true)), (.call 19 [(.t 21), (.t 22), (.t 23)])⟩, ⟨(some 25), none, (.pick (.t 20) (.t 24) (.c (.bool false)))⟩, ⟨(some 6), none, (.mv (.t 25))⟩])
  .ret)))
theorem tr21 : trFun Tryz.prog 21 = some ⟨26, [.t 6], c21⟩ := by kernel_rfl
set_option maxHeartbeats 4000000 in
theorem ok_xBtw : SpecOK Tryz.prog 21 (flat spXBtw) := by
  refine flat_run (env_cons ok_pCmp (env_cons ok_xCollin (env_nil _))) mixed tr21 ?_
  intro args v h N hG
  unfold spXBtw at hG
  split at hG
  case h_2 => cases hG
  rename_i s1 l1 s2 l2 s3 l3 s4 l4 t1 m1 t2 m2 t3 m3 t4 m4 q1 k1 q2 k2 q3 k3 q4 k4
  split at hG
  case isFalse => cases hG
  rename_i hl
  obtain ⟨⟨ha1, ha2, ha3, ha4, hb1, hb2, hb3, hb4, hc1, hc2, hc3, hc4⟩, pa, pb, pc⟩ := hl
  have ga1 : l1.length ≤ 67108864 := by omega
  obtain ⟨a1, fa1⟩ : ∃ z, sv s1 l1 = z := ⟨_, rfl⟩
  rw [fa1] at hG
  have ga2 : l2.length ≤ 67108864 := by omega
  obtain ⟨a2, fa2⟩ : ∃ z, sv s2 l2 = z := ⟨_, rfl⟩
  rw [fa2] at hG
  have ga3 : l3.length ≤ 67108864 := by omega
  obtain ⟨a3, fa3⟩ : ∃ z, sv s3 l3 = z := ⟨_, rfl⟩
  rw [fa3] at hG
  have ga4 : l4.length ≤ 67108864 := by omega
  obtain ⟨a4, fa4⟩ : ∃ z, sv s4 l4 = z := ⟨_, rfl⟩
  rw [fa4] at hG
  rw [fa4] at pa
  have gb1 : m1.length ≤ 67108864 := by omega
  obtain ⟨b1, fb1⟩ : ∃ z, sv t1 m1 = z := ⟨_, rfl⟩
  rw [fb1] at hG
  have gb2 : m2.length ≤ 67108864 := by omega
  obtain ⟨b2, fb2⟩ : ∃ z, sv t2 m2 = z := ⟨_, rfl⟩
  rw [fb2] at hG
  have gb3 : m3.length ≤ 67108864 := by omega
  obtain ⟨b3, fb3⟩ : ∃ z, sv t3 m3 = z := ⟨_, rfl⟩
  rw [fb3] at hG
  have gb4 : m4.length ≤ 67108864 := by omega
  obtain ⟨b4, fb4⟩ : ∃ z, sv t4 m4 = z := ⟨_, rfl⟩
  rw [fb4] at hG
  rw [fb4] at pb
  have gc1 : k1.length ≤ 67108864 := by omega
  obtain ⟨c1, fc1⟩ : ∃ z, sv q1 k1 = z := ⟨_, rfl⟩
  rw [fc1] at hG
  have gc2 : k2.length ≤ 67108864 := by omega
  obtain ⟨c2, fc2⟩ : ∃ z, sv q2 k2 = z := ⟨_, rfl⟩
  rw [fc2] at hG
  have gc3 : k3.length ≤ 67108864 := by omega
  obtain ⟨c3, fc3⟩ : ∃ z, sv q3 k3 = z := ⟨_, rfl⟩
  rw [fc3] at hG
  have gc4 : k4.length ≤ 67108864 := by omega
  obtain ⟨c4, fc4⟩ : ∃ z, sv q4 k4 = z := ⟨_, rfl⟩
  rw [fc4] at hG
  rw [fc4] at pc
  have nea : a4 ≠ 0 := by omega
  unfold btw at hG
  have vj := cmp4_vals a1 a2 a3 a4 c1 c2 c3 c4
  have vi := cmp4_vals c1 c2 c3 c4 b1 b2 b3 b4
  obtain ⟨f, ef⟩ : ∃ p : Prop, flt a1 a2 a3 a4 b1 b2 b3 b4 c1 c2 c3 c4 = p := ⟨_, rfl⟩
  obtain ⟨i, ei⟩ : ∃ z, cmp4 c1 c2 c3 c4 b1 b2 b3 b4 = z := ⟨_, rfl⟩
  obtain ⟨j, ej⟩ : ∃ z, cmp4 a1 a2 a3 a4 c1 c2 c3 c4 = z := ⟨_, rfl⟩
  obtain ⟨m, em⟩ : ∃ z, cmp4 a1 a2 a3 a4 b1 b2 b3 b4 = z := ⟨_, rfl⟩
  rw [ei] at vi; rw [ej] at vj
  simp only [ei, ej] at hG
  by_cases z1 : j = 0
  · simp only [z1, not_true_eq_false, false_and, decide_false] at hG
    cases hG
    refine ⟨rfl, by simp, ?_⟩
    simp only [c21, initT, List.zipIdx_cons, List.zipIdx_nil, List.map_cons, List.map_nil, Nat.reduceAdd]
    simp only [↓R0, R1, rdL, rdH, isCall, istep, ibin, vcells, fillI, setR, flat, okCell, isBase, List.set, List.drop, List.take, List.append, bnds, bhi, blo, srcOf, simprocAttr, -Int.reduceAbs, spPCmp, spXCollin, ga1, fa1, ha1, ga2, fa2, ha2, ga3, fa3, ha3, ga4, fa4, ha4, pa, gb1, fb1, hb1, gb2, fb2, hb2, gb3, fb3, hb3, gb4, fb4, hb4, pb, gc1, fc1, hc1, gc2, fc2, hc2, gc3, fc3, hc3, gc4, fc4, hc4, pc, nea, ei, ej, em, z1, not_true_eq_false, Fin, isEnd, resL, res1, iE, rE]
    exact ⟨_, rfl, rfl, fun k hk => by simp only [ne_nb hk, if_false]⟩
  · by_cases z2 : j = i
    · simp only [z1, z2, not_false_eq_true, true_and] at hG
      have z3 : ¬ (i = 0) := by omega
      simp only [z3, not_false_eq_true, true_and] at hG
      cases hG
      refine ⟨rfl, by simp, ?_⟩
      simp only [c21, initT, List.zipIdx_cons, List.zipIdx_nil, List.map_cons, List.map_nil, Nat.reduceAdd]
      simp only [↓R0, R1, rdL, rdH, isCall, istep, ibin, vcells, fillI, setR, flat, okCell, isBase, List.set, List.drop, List.take, List.append, bnds, bhi, blo, srcOf, simprocAttr, -Int.reduceAbs, spPCmp, spXCollin, ga1, fa1, ha1, ga2, fa2, ha2, ga3, fa3, ha3, ga4, fa4, ha4, pa, gb1, fb1, hb1, gb2, fb2, hb2, gb3, fb3, hb3, gb4, fb4, hb4, pb, gc1, fc1, hc1, gc2, fc2, hc2, gc3, fc3, hc3, gc4, fc4, hc4, pc, nea, ei, ej, em, z2, z3, not_false_eq_true, ne_eq, Fin, isEnd, resL, res1, iE, rE]
      exact ⟨_, rfl, rfl, fun k hk => by simp only [ne_nb hk, if_false]⟩
    · simp only [z1, z2, not_false_eq_true, true_and, false_and, and_false, decide_false] at hG
      cases hG
      refine ⟨rfl, by simp, ?_⟩
      simp only [c21, initT, List.zipIdx_cons, List.zipIdx_nil, List.map_cons, List.map_nil, Nat.reduceAdd]
      simp only [↓R0, R1, rdL, rdH, isCall, istep, ibin, vcells, fillI, setR, flat, okCell, isBase, List.set, List.drop, List.take, List.append, bnds, bhi, blo, srcOf, simprocAttr, -Int.reduceAbs, spPCmp, spXCollin, ga1, fa1, ha1, ga2, fa2, ha2, ga3, fa3, ha3, ga4, fa4, ha4, pa, gb1, fb1, hb1, gb2, fb2, hb2, gb3, fb3, hb3, gb4, fb4, hb4, pb, gc1, fc1, hc1, gc2, fc2, hc2, gc3, fc3, hc3, gc4, fc4, hc4, pc, nea, ei, ej, em, z1, z2, not_false_eq_true, Fin, isEnd, resL, res1, iE, rE]
      exact ⟨_, rfl, rfl, fun k hk => by simp only [ne_nb hk, if_false]⟩
def spR6Btw : List Value → Option Value
  | [.agg ⟨[.bool s1, .string ⟨⟨l1⟩⟩, .bool s2, .string ⟨⟨l2⟩⟩, .bool s3, .string ⟨⟨l3⟩⟩, .bool s4, .string ⟨⟨l4⟩⟩]⟩, .agg ⟨[.bool t1, .string ⟨⟨m1⟩⟩, .bool t2, .string ⟨⟨m2⟩⟩, .bool t3, .string ⟨⟨m3⟩⟩, .bool t4, .string ⟨⟨m4⟩⟩]⟩, .agg ⟨[.bool q1, .string ⟨⟨k1⟩⟩, .bool q2, .string ⟨⟨k2⟩⟩, .bool q3, .string ⟨⟨k3⟩⟩, .bool q4, .string ⟨⟨k4⟩⟩]⟩] =>
    if (l1.length ≤ 65536 ∧ l2.length ≤ 65536 ∧ l3.length ≤ 65536 ∧ l4.length ≤ 65536 ∧ m1.length ≤ 65536 ∧ m2.length ≤ 65536 ∧ m3.length ≤ 65536 ∧ m4.length ≤ 65536 ∧ k1.length ≤ 65536 ∧ k2.length ≤ 65536 ∧ k3.length ≤ 65536 ∧ k4.length ≤ 65536) ∧ 0 < (sv s4 l4) ∧ 0 < (sv t4 m4) ∧ 0 < (sv q4 k4) then some (.bool (decide (btw (sv s1 l1) (sv s2 l2) (sv s3 l3) (sv s4 l4) (sv t1 m1) (sv t2 m2) (sv t3 m3) (sv t4 m4) (sv q1 k1) (sv q2 k2) (sv q3 k3) (sv q4 k4)))) else none
  | _ => none
def c22 : ICode :=
  (.seq (.reg [⟨(some 3), none, (.box 30 8 (.t 0))⟩, ⟨(some 4), none, (.box 30 8 (.t 1))⟩, ⟨(some 5), none, (.box 30 8 (.t 2))⟩, ⟨(some 6), none, (.mv (.c (.bool false)))⟩])
  (.seq (.dreg [⟨(some 7), none, [], (.load true 8 (.t 3))⟩, ⟨(some 8), none, [], (.load true 8 (.t 4))⟩, ⟨(some 9), none, [], (.load true 8 (.t 5))⟩, ⟨(some 10), none, [], (.call 20 [(.t 7), (.t 8), (.t 9)])⟩, ⟨(some 11), none, [], (.mv (.t 10))⟩, ⟨(some 12), (some (11, true)), [], (.load true 8 (.t 3))⟩, ⟨(some 13), (some (11, true)), [], (.load true 8 (.t 4))⟩, ⟨(some 14), (some (11, true)), [], (.call 63 [(.t 12), (.t 13)])⟩, ⟨(some 15), (some (11, true)), [], (.bin .neq (.t 14) (.c (.int .i64 0)))⟩, ⟨(some 16), none, [], (.pick (.t 11) (.t 15) (.c (.bool false)))⟩, ⟨(some 17), none, [], (.mv (.t 16))⟩, ⟨(some 18), (some (17, true)), [], (.load true 8 (.t 3))⟩, ⟨(some 19), (some (17, true)), [], (.load true 8 (.t 5))⟩, ⟨(some 20), (some (17, true)), [], (.call 63 [(.t 18), (.t 19)])⟩, ⟨(some 21), (some (17, true)), [13], (.load true 8 (.t 5))⟩, ⟨(some 22), (some (17, true)), [13], (.load true 8 (.t 4))⟩, ⟨(some 23), (some (17, true)), [], (.call 63 [(.t 21), (.t 22)])⟩, ⟨(some 24), (some (17, true)), [], (.bin .mul (.t 20) (.t 23))⟩, ⟨(some 25), (some (17, true)), [], (.bin .eql (.t 24) (.c (.int .i64 1)))⟩, ⟨(some 26), none, [], (.pick (.t 17) (.t 25) (.c (.bool false)))⟩, ⟨(some 6), none, [], (.mv (.t 26))⟩])
  .ret))
theorem tr22 : trFun Tryz.prog 22 = some ⟨27, [.t 6], c22⟩ := by kernel_rfl
set_option maxHeartbeats 4000000 in
theorem ok_r6Btw : SpecOK Tryz.prog 22 (flat spR6Btw) := by
  refine flat_run (env_cons ok_r4Cmp (env_cons ok_r6Straight (env_nil _))) mixed tr22 ?_
  intro args v h N hG
  unfold spR6Btw at hG
  split at hG
  case h_2 => cases hG
  rename_i s1 l1 s2 l2 s3 l3 s4 l4 t1 m1 t2 m2 t3 m3 t4 m4 q1 k1 q2 k2 q3 k3 q4 k4
  split at hG
  case isFalse => cases hG
  rename_i hl
  obtain ⟨⟨ha1, ha2, ha3, ha4, hb1, hb2, hb3, hb4, hc1, hc2, hc3, hc4⟩, pa, pb, pc⟩ := hl
  have ga1 : l1.length ≤ 67108864 := by omega
  obtain ⟨a1, fa1⟩ : ∃ z, sv s1 l1 = z := ⟨_, rfl⟩
  rw [fa1] at hG
  have ga2 : l2.length ≤ 67108864 := by omega
  obtain ⟨a2, fa2⟩ : ∃ z, sv s2 l2 = z := ⟨_, rfl⟩
  rw [fa2] at hG
  have ga3 : l3.length ≤ 67108864 := by omega
  obtain ⟨a3, fa3⟩ : ∃ z, sv s3 l3 = z := ⟨_, rfl⟩
  rw [fa3] at hG
  have ga4 : l4.length ≤ 67108864 := by omega
  obtain ⟨a4, fa4⟩ : ∃ z, sv s4 l4 = z := ⟨_, rfl⟩
  rw [fa4] at hG
  rw [fa4] at pa
  have gb1 : m1.length ≤ 67108864 := by omega
  obtain ⟨b1, fb1⟩ : ∃ z, sv t1 m1 = z := ⟨_, rfl⟩
  rw [fb1] at hG
  have gb2 : m2.length ≤ 67108864 := by omega
  obtain ⟨b2, fb2⟩ : ∃ z, sv t2 m2 = z := ⟨_, rfl⟩
  rw [fb2] at hG
  have gb3 : m3.length ≤ 67108864 := by omega
  obtain ⟨b3, fb3⟩ : ∃ z, sv t3 m3 = z := ⟨_, rfl⟩
  rw [fb3] at hG
  have gb4 : m4.length ≤ 67108864 := by omega
  obtain ⟨b4, fb4⟩ : ∃ z, sv t4 m4 = z := ⟨_, rfl⟩
  rw [fb4] at hG
  rw [fb4] at pb
  have gc1 : k1.length ≤ 67108864 := by omega
  obtain ⟨c1, fc1⟩ : ∃ z, sv q1 k1 = z := ⟨_, rfl⟩
  rw [fc1] at hG
  have gc2 : k2.length ≤ 67108864 := by omega
  obtain ⟨c2, fc2⟩ : ∃ z, sv q2 k2 = z := ⟨_, rfl⟩
  rw [fc2] at hG
  have gc3 : k3.length ≤ 67108864 := by omega
  obtain ⟨c3, fc3⟩ : ∃ z, sv q3 k3 = z := ⟨_, rfl⟩
  rw [fc3] at hG
  have gc4 : k4.length ≤ 67108864 := by omega
  obtain ⟨c4, fc4⟩ : ∃ z, sv q4 k4 = z := ⟨_, rfl⟩
  rw [fc4] at hG
  rw [fc4] at pc
  have nea : a4 ≠ 0 := by omega
  have eR := btw_ref (a1 := a1) (a2 := a2) (a3 := a3) (b1 := b1) (b2 := b2) (b3 := b3) (x1 := c1) (x2 := c2) (x3 := c3) pa pb pc
  simp only [eR] at hG
  have vj := cmp4_vals a1 a2 a3 a4 c1 c2 c3 c4
  have vi := cmp4_vals c1 c2 c3 c4 b1 b2 b3 b4
  obtain ⟨f, ef⟩ : ∃ p : Prop, flt a1 a2 a3 a4 b1 b2 b3 b4 c1 c2 c3 c4 = p := ⟨_, rfl⟩
  obtain ⟨i, ei⟩ : ∃ z, cmp4 c1 c2 c3 c4 b1 b2 b3 b4 = z := ⟨_, rfl⟩
  obtain ⟨j, ej⟩ : ∃ z, cmp4 a1 a2 a3 a4 c1 c2 c3 c4 = z := ⟨_, rfl⟩
  obtain ⟨m, em⟩ : ∃ z, cmp4 a1 a2 a3 a4 b1 b2 b3 b4 = z := ⟨_, rfl⟩
  rw [ei] at vi; rw [ej] at vj
  have vw : IntKind.i64.wrap (j * i) = j * i := i64_in _ (by
    rcases (by omega : j = 1 ∨ j = 0 ∨ j = -1) with e | e | e <;> subst e <;> omega)
  simp only [ei, ej, em] at hG
  by_cases z0 : flt a1 a2 a3 a4 b1 b2 b3 b4 c1 c2 c3 c4
  · by_cases z1 : m = 0
    · simp only [z1, z0, not_true_eq_false, false_and, and_false, decide_false] at hG
      cases hG
      refine ⟨rfl, by simp, ?_⟩
      simp only [c22, initT, List.zipIdx_cons, List.zipIdx_nil, List.map_cons, List.map_nil, Nat.reduceAdd]
      simp only [↓R0, R1, rdL, rdH, isCall, istep, ibin, vcells, fillI, setR, flat, okCell, isBase, List.set, List.drop, List.take, List.append, bnds, bhi, blo, srcOf, simprocAttr, -Int.reduceAbs, spR4Cmp, spR6Straight, ga1, fa1, ha1, ga2, fa2, ha2, ga3, fa3, ha3, ga4, fa4, ha4, pa, gb1, fb1, hb1, gb2, fb2, hb2, gb3, fb3, hb3, gb4, fb4, hb4, pb, gc1, fc1, hc1, gc2, fc2, hc2, gc3, fc3, hc3, gc4, fc4, hc4, pc, nea, ei, ej, em, z0, z1, not_true_eq_false, Fin, isEnd, resL, res1, iE, rE]
      exact ⟨_, rfl, rfl, fun k hk => by simp only [ne_nb hk, if_false]⟩
    · simp only [z1, z0, not_false_eq_true, true_and] at hG
      cases hG
      refine ⟨rfl, by simp, ?_⟩
      simp only [c22, initT, List.zipIdx_cons, List.zipIdx_nil, List.map_cons, List.map_nil, Nat.reduceAdd]
      simp only [↓R0, R1, rdL, rdH, isCall, istep, ibin, vcells, fillI, setR, flat, okCell, isBase, List.set, List.drop, List.take, List.append, bnds, bhi, blo, srcOf, simprocAttr, -Int.reduceAbs, spR4Cmp, spR6Straight, ga1, fa1, ha1, ga2, fa2, ha2, ga3, fa3, ha3, ga4, fa4, ha4, pa, gb1, fb1, hb1, gb2, fb2, hb2, gb3, fb3, hb3, gb4, fb4, hb4, pb, gc1, fc1, hc1, gc2, fc2, hc2, gc3, fc3, hc3, gc4, fc4, hc4, pc, nea, ei, ej, em, z0, z1, vw, not_false_eq_true, Fin, isEnd, resL, res1, iE, rE]
      exact ⟨_, rfl, rfl, fun k hk => by simp only [ne_nb hk, if_false]⟩
  · simp only [z0, false_and, decide_false] at hG
    cases hG
    refine ⟨rfl, by simp, ?_⟩
    simp only [c22, initT, List.zipIdx_cons, List.zipIdx_nil, List.map_cons, List.map_nil, Nat.reduceAdd]
    simp only [↓R0, R1, rdL, rdH, isCall, istep, ibin, vcells, fillI, setR, flat, okCell, isBase, List.set, List.drop, List.take, List.append, bnds, bhi, blo, srcOf, simprocAttr, -Int.reduceAbs, spR4Cmp, spR6Straight, ga1, fa1, ha1, ga2, fa2, ha2, ga3, fa3, ha3, ga4, fa4, ha4, pa, gb1, fb1, hb1, gb2, fb2, hb2, gb3, fb3, hb3, gb4, fb4, hb4, pb, gc1, fc1, hc1, gc2, fc2, hc2, gc3, fc3, hc3, gc4, fc4, hc4, pc, nea, ei, ej, em, z0, not_false_eq_true, Fin, isEnd, resL, res1, iE, rE]
    exact ⟨_, rfl, rfl, fun k hk => by simp only [ne_nb hk, if_false]⟩
end Go.Eng
end
section
set_option linter.unusedVariables false
set_option linter.unusedSimpArgs false
set_option linter.unusedSectionVars false
set_option maxRecDepth 20000
namespace Go.Eng
open Go Go.Proofs Go.IntWalk
def det3 (a1 a2 a3 b1 b2 b3 c1 c2 c3 : Int) : Int := a1 * (b2 * c3 - b3 * c2) + a2 * (b3 * c1 - b1 * c3) + a3 * (b1 * c2 - b2 * c1)
def sum3 (d z e y f x : Int) : Int := d * z + e * y + f * x
def spXThree : List Value → Option Value
  | [.agg ⟨[.bool sa1, .string ⟨⟨la1⟩⟩, .bool sa2, .string ⟨⟨la2⟩⟩, .bool sa3, .string ⟨⟨la3⟩⟩, .bool sa4, .string ⟨⟨la4⟩⟩]⟩, .agg ⟨[.bool sb1, .string ⟨⟨lb1⟩⟩, .bool sb2, .string ⟨⟨lb2⟩⟩, .bool sb3, .string ⟨⟨lb3⟩⟩, .bool sb4, .string ⟨⟨lb4⟩⟩]⟩, .agg ⟨[.bool sc1, .string ⟨⟨lc1⟩⟩, .bool sc2, .string ⟨⟨lc2⟩⟩, .bool sc3, .string ⟨⟨lc3⟩⟩, .bool sc4, .string ⟨⟨lc4⟩⟩]⟩] =>
    if la1.length ≤ 2147483648 ∧ la2.length ≤ 2147483648 ∧ la3.length ≤ 2147483648 ∧ la4.length ≤ 2147483648 ∧ lb1.length ≤ 2147483648 ∧ lb2.length ≤ 2147483648 ∧ lb3.length ≤ 2147483648 ∧ lb4.length ≤ 2147483648 ∧ lc1.length ≤ 2147483648 ∧ lc2.length ≤ 2147483648 ∧ lc3.length ≤ 2147483648 ∧ lc4.length ≤ 2147483648 then
      (if sv sa1 la1 * (sv sb2 lb2 * sv sc3 lc3 - sv sb3 lb3 * sv sc2 lc2) + sv sa2 la2 * (sv sb3 lb3 * sv sc1 lc1 - sv sb1 lb1 * sv sc3 lc3) + sv sa3 la3 * (sv sb1 lb1 * sv sc2 lc2 - sv sb2 lb2 * sv sc1 lc1) = 0 then some (.tuple ⟨[.agg ⟨pZ⟩, .bool false]⟩) else some (.tuple ⟨[.agg ⟨pE (sv sa4 la4 * (sv sb2 lb2 * sv sc3 lc3 - sv sb3 lb3 * sv sc2 lc2) + sv sb4 lb4 * (sv sc2 lc2 * sv sa3 la3 - sv sc3 lc3 * sv sa2 la2) + sv sc4 lc4 * (sv sa2 la2 * sv sb3 lb3 - sv sa3 la3 * sv sb2 lb2)) (sv sa4 la4 * (sv sb3 lb3 * sv sc1 lc1 - sv sb1 lb1 * sv sc3 lc3) + sv sb4 lb4 * (sv sc3 lc3 * sv sa1 la1 - sv sc1 lc1 * sv sa3 la3) + sv sc4 lc4 * (sv sa3 la3 * sv sb1 lb1 - sv sa1 la1 * sv sb3 lb3)) (sv sa4 la4 * (sv sb1 lb1 * sv sc2 lc2 - sv sb2 lb2 * sv sc1 lc1) + sv sb4 lb4 * (sv sc1 lc1 * sv sa2 la2 - sv sc2 lc2 * sv sa1 la1) + sv sc4 lc4 * (sv sa1 la1 * sv sb2 lb2 - sv sa2 la2 * sv sb1 lb1)) (sv sa1 la1 * (sv sb2 lb2 * sv sc3 lc3 - sv sb3 lb3 * sv sc2 lc2) + sv sa2 la2 * (sv sb3 lb3 * sv sc1 lc1 - sv sb1 lb1 * sv sc3 lc3) + sv sa3 la3 * (sv sb1 lb1 * sv sc2 lc2 - sv sb2 lb2 * sv sc1 lc1))⟩, .bool true]⟩)) else none
  | _ => none
def c11 : ICode :=
  (.seq (.reg [⟨(some 3), none, (.box 25 8 (.t 0))⟩, ⟨(some 4), none, (.box 25 8 (.t 1))⟩, ⟨(some 5), none, (.box 25 8 (.t 2))⟩, ⟨(some 6), none, (.alloc 30 8 [(.bool false), (.string ⟨⟨[]⟩⟩), (.bool false), (.string ⟨⟨[]⟩⟩), (.bool false), (.string ⟨⟨[]⟩⟩), (.bool false), (.string ⟨⟨[]⟩⟩)])⟩, ⟨(some 7), none, (.mv (.c (.bool false)))⟩])
  (.seq (.reg [⟨(some 14), none, (.load true 8 (.t 3))⟩, ⟨(some 15), none, (.load true 8 (.t 4))⟩, ⟨(some 16), none, (.load true 8 (.t 5))⟩, ⟨(some 17), none, (.build [(.bool false), (.string ⟨⟨[]⟩⟩), (.bool false), (.string ⟨⟨[]⟩⟩), (.bool false), (.string ⟨⟨[]⟩⟩), (.bool false), (.string ⟨⟨[]⟩⟩), (.bool false), (.string ⟨⟨[]⟩⟩), (.bool false), (.string ⟨⟨[]⟩⟩), (.bool false), (.string ⟨⟨[]⟩⟩), (.bool false), (.string ⟨⟨[]⟩⟩), (.bool false), (.string ⟨⟨[]⟩⟩), (.bool false), (.string ⟨⟨[]⟩⟩), (.bool false), (.string ⟨⟨[]⟩⟩), (.bool false), (.string ⟨⟨[]⟩⟩)] [(0, 8, (.t 14)), (8, 8, (.t 15)), (16, 8, (.t 16))])⟩, ⟨(some 8), none, (.alloc 58 24 [(.bool false), (.string ⟨⟨[]⟩⟩), (.bool false), (.string ⟨⟨[]⟩⟩), (.bool false), (.string ⟨⟨[]⟩⟩), (.bool false), (.string ⟨⟨[]⟩⟩), (.bool false), (.string ⟨⟨[]⟩⟩), (.bool false), (.string ⟨⟨[]⟩⟩), (.bool false), (.string ⟨⟨[]⟩⟩), (.bool false), (.string ⟨⟨[]⟩⟩), (.bool false), (.string ⟨⟨[]⟩⟩), (.bool false), (.string ⟨⟨[]⟩⟩), (.bool false), (.string ⟨⟨[]⟩⟩), (.bool false), (.string ⟨⟨[]⟩⟩)])⟩, ⟨none, none, (.store 24 (.t 8) (.t 17))⟩])
  (.seq (.reg [⟨(some 9), none, (.alloc 60 6 [(.bool false), (.string ⟨⟨[]⟩⟩), (.bool false), (.string ⟨⟨[]⟩⟩), (.bool false), (.string ⟨⟨[]⟩⟩)])⟩])
  (.seq (.seq (.reg [⟨(some 18), none, (.load true 24 (.t 8))⟩, ⟨(some 19), none, (.mv (.c (.int .i64 0)))⟩])
  (.block 0 (.loop (.seq (.reg [⟨(some 20), none, (.bin .lss (.t 19) (.c (.int .i64 3)))⟩])
  (.seq (.cond (.t 20)
  .skip
  (.exit 0))
  (.seq (.block 1 (.seq (.reg [⟨(some 21), none, (.mv (.t 19))⟩, ⟨(some 22), none, (.idarr 3 true 8 (.t 18) (.t 19))⟩, ⟨(some 11), none, (.alloc 25 8 [(.bool false), (.string ⟨⟨[]⟩⟩), (.bool false), (.string ⟨⟨[]⟩⟩), (.bool false), (.string ⟨⟨[]⟩⟩), (.bool false), (.string ⟨⟨[]⟩⟩)])⟩, ⟨(some 10), none, (.mv (.t 21))⟩, ⟨none, none, (.store 8 (.t 11) (.t 22))⟩])
  (.seq (.dreg [⟨(some 23), none, [], (.mv (.t 10))⟩, ⟨(some 24), none, [], (.bin .add (.t 23) (.c (.int .i64 1)))⟩, ⟨(some 25), none, [], (.bin .rem (.t 24) (.c (.int .i64 3)))⟩, ⟨(some 26), none, [], (.ixarr 3 8 (.t 8) (.t 25))⟩, ⟨(some 27), none, [], (.load true 8 (.t 26))⟩, ⟨(some 28), none, [], (.call 33 [(.t 27)])⟩, ⟨(some 29), none, [], (.mv (.t 10))⟩, ⟨(some 30), none, [], (.bin .add (.t 29) (.c (.int .i64 2)))⟩, ⟨(some 31), none, [], (.bin .rem (.t 30) (.c (.int .i64 3)))⟩, ⟨(some 32), none, [], (.ixarr 3 8 (.t 8) (.t 31))⟩, ⟨(some 33), none, [5], (.load true 8 (.t 32))⟩, ⟨(some 34), none, [], (.call 33 [(.t 33)])⟩, ⟨(some 35), none, [], (.call 32 [(.t 28), (.t 34)])⟩, ⟨(some 12), none, [], (.alloc 60 6 [(.bool false), (.string ⟨⟨[]⟩⟩), (.bool false), (.string ⟨⟨[]⟩⟩), (.bool false), (.string ⟨⟨[]⟩⟩)])⟩, ⟨none, none, [], (.store 6 (.t 12) (.t 35))⟩])
  (.seq (.reg [⟨(some 36), none, (.mv (.c (.int .i64 0)))⟩])
  (.block 2 (.loop (.seq (.reg [⟨(some 37), none, (.bin .lss (.t 36) (.c (.int .i64 3)))⟩])
  (.seq (.cond (.t 37)
  .skip
  (.exit 2))
  (.seq (.block 3 (.seq (.reg [⟨(some 38), none, (.mv (.t 36))⟩, ⟨(some 13), none, (.mv (.t 38))⟩])
  (.dreg [⟨(some 39), none, [], (.mv (.t 13))⟩, ⟨(some 40), none, [], (.mv (.t 13))⟩, ⟨(some 41), none, [], (.ixarr 3 2 (.t 9) (.t 40))⟩, ⟨(some 42), none, [], (.load true 2 (.t 41))⟩, ⟨(some 43), none, [], (.faddr 6 (.t 11))⟩, ⟨(some 44), none, [], (.load true 2 (.t 43))⟩, ⟨(some 45), none, [], (.mv (.t 13))⟩, ⟨(some 46), none, [], (.ixarr 3 2 (.t 12) (.t 45))⟩, ⟨(some 47), none, [], (.load true 2 (.t 46))⟩, ⟨(some 48), none, [], (.call 35 [(.t 44), (.t 47)])⟩, ⟨(some 49), none, [], (.call 34 [(.t 42), (.t 48)])⟩, ⟨(some 50), none, [], (.ixarr 3 2 (.t 9) (.t 39))⟩, ⟨none, none, [], (.store 2 (.t 50) (.t 49))⟩])))
  (.reg [⟨(some 51), none, (.bin .add (.t 36) (.c (.int .i64 1)))⟩, ⟨(some 36), none, (.mv (.t 51))⟩]))))))))))
  (.reg [⟨(some 52), none, (.bin .add (.t 19) (.c (.int .i64 1)))⟩, ⟨(some 19), none, (.mv (.t 52))⟩])))))))
  (.seq (.dreg [⟨(some 53), none, [], (.load true 6 (.t 9))⟩, ⟨(some 54), none, [], (.load true 8 (.t 3))⟩, ⟨(some 55), none, [], (.call 33 [(.t 54)])⟩, ⟨(some 56), none, [2], (.load true 8 (.t 4))⟩, ⟨(some 57), none, [], (.call 33 [(.t 56)])⟩, ⟨(some 58), none, [2, 4], (.load true 8 (.t 5))⟩, ⟨(some 59), none, [], (.call 33 [(.t 58)])⟩, ⟨(some 60), none, [], (.call 32 [(.t 57), (.t 59)])⟩, ⟨(some 61), none, [], (.call 37 [(.t 55), (.t 60)])⟩, ⟨(some 62), none, [], (.call 36 [(.t 53), (.t 61)])⟩, ⟨(some 63), none, [], (.ext (.t 62) 0)⟩, ⟨(some 64), none, [], (.ext (.t 62) 1)⟩, ⟨none, none, [], (.store 8 (.t 6) (.t 63))⟩, ⟨(some 7), none, [], (.mv (.t 64))⟩])
  .ret)))))
theorem tr11 : trFun Tryz.prog 11 = some ⟨65, [.cell 6 true 8, .t 7], c11⟩ := by kernel_rfl
set_option maxHeartbeats 8000000 in
theorem ok_xThree : SpecOK Tryz.prog 11 (flat spXThree) := by
  refine flat_run (env_cons ok_xNormal (env_cons ok_xCross (env_cons ok_xDot (env_cons ok_xMade (env_cons ok_iMul (env_cons ok_iAdd (env_nil _))))))) mixed tr11 ?_
  intro args v h N hG
  unfold spXThree at hG
  split at hG
  case h_2 => cases hG
  rename_i sa1 la1 sa2 la2 sa3 la3 sa4 la4 sb1 lb1 sb2 lb2 sb3 lb3 sb4 lb4 sc1 lc1 sc2 lc2 sc3 lc3 sc4 lc4
  split at hG
  case isFalse => cases hG
  rename_i hl
  obtain ⟨ha1, ha2, ha3, ha4, hb1, hb2, hb3, hb4, hc1, hc2, hc3, hc4⟩ := hl
  have na1 := len_sv (s := sa1) ha1
  have ra1 : la1.length ≤ 4294967296 := by omega
  have qa1 : la1.length ≤ 17179869184 := by omega
  have na2 := len_sv (s := sa2) ha2
  have ra2 : la2.length ≤ 4294967296 := by omega
  have qa2 : la2.length ≤ 17179869184 := by omega
  have na3 := len_sv (s := sa3) ha3
  have ra3 : la3.length ≤ 4294967296 := by omega
  have qa3 : la3.length ≤ 17179869184 := by omega
  have na4 := len_sv (s := sa4) ha4
  have ra4 : la4.length ≤ 34359738368 := by omega
  have nb1 := len_sv (s := sb1) hb1
  have rb1 : lb1.length ≤ 4294967296 := by omega
  have qb1 : lb1.length ≤ 17179869184 := by omega
  have nb2 := len_sv (s := sb2) hb2
  have rb2 : lb2.length ≤ 4294967296 := by omega
  have qb2 : lb2.length ≤ 17179869184 := by omega
  have nb3 := len_sv (s := sb3) hb3
  have rb3 : lb3.length ≤ 4294967296 := by omega
  have qb3 : lb3.length ≤ 17179869184 := by omega
  have nb4 := len_sv (s := sb4) hb4
  have rb4 : lb4.length ≤ 34359738368 := by omega
  have nc1 := len_sv (s := sc1) hc1
  have rc1 : lc1.length ≤ 4294967296 := by omega
  have qc1 : lc1.length ≤ 17179869184 := by omega
  have nc2 := len_sv (s := sc2) hc2
  have rc2 : lc2.length ≤ 4294967296 := by omega
  have qc2 : lc2.length ≤ 17179869184 := by omega
  have nc3 := len_sv (s := sc3) hc3
  have rc3 : lc3.length ≤ 4294967296 := by omega
  have qc3 : lc3.length ≤ 17179869184 := by omega
  have nc4 := len_sv (s := sc4) hc4
  have rc4 : lc4.length ≤ 34359738368 := by omega
  have zbc0 := lsub (k := 8589934592) (lmul (k := 4294967296) nb2 nc3 (by omega)) (lmul (k := 4294967296) nb3 nc2 (by omega)) (by omega)
  obtain ⟨Zbc0, ebc0⟩ : ∃ z, sv sb2 lb2 * sv sc3 lc3 - sv sb3 lb3 * sv sc2 lc2 = z := ⟨_, rfl⟩
  rw [ebc0] at hG zbc0
  have ybc0 := lle (k := 34359738368) zbc0 (by omega)
  have xbc0 := lmul (k := 12884901888) na4 zbc0 (by omega)
  have wbc0 := lle (k := 68719476736) xbc0 (by omega)
  have zbc1 := lsub (k := 8589934592) (lmul (k := 4294967296) nb3 nc1 (by omega)) (lmul (k := 4294967296) nb1 nc3 (by omega)) (by omega)
  obtain ⟨Zbc1, ebc1⟩ : ∃ z, sv sb3 lb3 * sv sc1 lc1 - sv sb1 lb1 * sv sc3 lc3 = z := ⟨_, rfl⟩
  rw [ebc1] at hG zbc1
  have ybc1 := lle (k := 34359738368) zbc1 (by omega)
  have xbc1 := lmul (k := 12884901888) na4 zbc1 (by omega)
  have wbc1 := lle (k := 68719476736) xbc1 (by omega)
  have zbc2 := lsub (k := 8589934592) (lmul (k := 4294967296) nb1 nc2 (by omega)) (lmul (k := 4294967296) nb2 nc1 (by omega)) (by omega)
  obtain ⟨Zbc2, ebc2⟩ : ∃ z, sv sb1 lb1 * sv sc2 lc2 - sv sb2 lb2 * sv sc1 lc1 = z := ⟨_, rfl⟩
  rw [ebc2] at hG zbc2
  have ybc2 := lle (k := 34359738368) zbc2 (by omega)
  have xbc2 := lmul (k := 12884901888) na4 zbc2 (by omega)
  have wbc2 := lle (k := 68719476736) xbc2 (by omega)
  have zca0 := lsub (k := 8589934592) (lmul (k := 4294967296) nc2 na3 (by omega)) (lmul (k := 4294967296) nc3 na2 (by omega)) (by omega)
  obtain ⟨Zca0, eca0⟩ : ∃ z, sv sc2 lc2 * sv sa3 la3 - sv sc3 lc3 * sv sa2 la2 = z := ⟨_, rfl⟩
  rw [eca0] at hG zca0
  have yca0 := lle (k := 34359738368) zca0 (by omega)
  have xca0 := lmul (k := 12884901888) nb4 zca0 (by omega)
  have wca0 := lle (k := 68719476736) xca0 (by omega)
  have zca1 := lsub (k := 8589934592) (lmul (k := 4294967296) nc3 na1 (by omega)) (lmul (k := 4294967296) nc1 na3 (by omega)) (by omega)
  obtain ⟨Zca1, eca1⟩ : ∃ z, sv sc3 lc3 * sv sa1 la1 - sv sc1 lc1 * sv sa3 la3 = z := ⟨_, rfl⟩
  rw [eca1] at hG zca1
  have yca1 := lle (k := 34359738368) zca1 (by omega)
  have xca1 := lmul (k := 12884901888) nb4 zca1 (by omega)
  have wca1 := lle (k := 68719476736) xca1 (by omega)
  have zca2 := lsub (k := 8589934592) (lmul (k := 4294967296) nc1 na2 (by omega)) (lmul (k := 4294967296) nc2 na1 (by omega)) (by omega)
  obtain ⟨Zca2, eca2⟩ : ∃ z, sv sc1 lc1 * sv sa2 la2 - sv sc2 lc2 * sv sa1 la1 = z := ⟨_, rfl⟩
  rw [eca2] at hG zca2
  have yca2 := lle (k := 34359738368) zca2 (by omega)
  have xca2 := lmul (k := 12884901888) nb4 zca2 (by omega)
  have wca2 := lle (k := 68719476736) xca2 (by omega)
  have zab0 := lsub (k := 8589934592) (lmul (k := 4294967296) na2 nb3 (by omega)) (lmul (k := 4294967296) na3 nb2 (by omega)) (by omega)
  obtain ⟨Zab0, eab0⟩ : ∃ z, sv sa2 la2 * sv sb3 lb3 - sv sa3 la3 * sv sb2 lb2 = z := ⟨_, rfl⟩
  rw [eab0] at hG zab0
  have yab0 := lle (k := 34359738368) zab0 (by omega)
  have xab0 := lmul (k := 12884901888) nc4 zab0 (by omega)
  have wab0 := lle (k := 68719476736) xab0 (by omega)
  have zab1 := lsub (k := 8589934592) (lmul (k := 4294967296) na3 nb1 (by omega)) (lmul (k := 4294967296) na1 nb3 (by omega)) (by omega)
  obtain ⟨Zab1, eab1⟩ : ∃ z, sv sa3 la3 * sv sb1 lb1 - sv sa1 la1 * sv sb3 lb3 = z := ⟨_, rfl⟩
  rw [eab1] at hG zab1
  have yab1 := lle (k := 34359738368) zab1 (by omega)
  have xab1 := lmul (k := 12884901888) nc4 zab1 (by omega)
  have wab1 := lle (k := 68719476736) xab1 (by omega)
  have zab2 := lsub (k := 8589934592) (lmul (k := 4294967296) na1 nb2 (by omega)) (lmul (k := 4294967296) na2 nb1 (by omega)) (by omega)
  obtain ⟨Zab2, eab2⟩ : ∃ z, sv sa1 la1 * sv sb2 lb2 - sv sa2 la2 * sv sb1 lb1 = z := ⟨_, rfl⟩
  rw [eab2] at hG zab2
  have yab2 := lle (k := 34359738368) zab2 (by omega)
  have xab2 := lmul (k := 12884901888) nc4 zab2 (by omega)
  have wab2 := lle (k := 68719476736) xab2 (by omega)
  have t0 := lle (k := 17179869184) zbc0 (by omega)
  have u0 := ladd (k := 12884901889) xbc0 xca0 (by omega)
  have ul0 := lle (k := 68719476736) u0 (by omega)
  have S0 := ladd (k := 34359738368) u0 xab0 (by omega)
  have t1 := lle (k := 17179869184) zbc1 (by omega)
  have u1 := ladd (k := 12884901889) xbc1 xca1 (by omega)
  have ul1 := lle (k := 68719476736) u1 (by omega)
  have S1 := ladd (k := 34359738368) u1 xab1 (by omega)
  have t2 := lle (k := 17179869184) zbc2 (by omega)
  have u2 := ladd (k := 12884901889) xbc2 xca2 (by omega)
  have ul2 := lle (k := 68719476736) u2 (by omega)
  have S2 := ladd (k := 34359738368) u2 xab2 (by omega)
  have W0 := ladd (k := 34359738368) (ladd (k := 17179869184) (lmul (k := 12884901888) na1 zbc0 (by omega)) (lmul (k := 12884901888) na2 zbc1 (by omega)) (by omega)) (lmul (k := 12884901888) na3 zbc2 (by omega)) (by omega)
  have z0 : sv false [] = 0 := rfl
  have zl0 : (bl (Int.natAbs 0)).length ≤ 34359738368 := by rw [show Int.natAbs 0 = 0 from rfl, bl_zero]; exact Nat.zero_le _
  have zs0 : sv false (bl (Int.natAbs 0)) = 0 := by rw [sv_bl]; rfl
  have i1 : IntKind.i64.wrap 1 = 1 := i64_in _ (by omega)
  have i2 : IntKind.i64.wrap 2 = 2 := i64_in _ (by omega)
  have i3 : IntKind.i64.wrap 3 = 3 := i64_in _ (by omega)
  have i4 : IntKind.i64.wrap 4 = 4 := i64_in _ (by omega)
  have m1 : Int.tmod 1 3 = 1 := rfl
  have m2 : Int.tmod 2 3 = 2 := rfl
  have m3 : Int.tmod 3 3 = 0 := rfl
  have m4 : Int.tmod 4 3 = 1 := rfl
  split at hG
  · rename_i hw
    cases hG
    refine ⟨rfl, by simp, ?_⟩
    simp only [c11, initT, List.zipIdx_cons, List.zipIdx_nil, List.map_cons, List.map_nil, Nat.reduceAdd]
    simp only [↓R0, R1, rdL, rdH, isCall, istep, ibin, vcells, fillI, setR, flat, okCell, isBase, List.set, List.drop, List.take, List.append, bnds, bhi, blo, srcOf, simprocAttr, -Int.reduceAbs]
    refine lp_step ?_
    simp only [↓R0, R1, rdL, rdH, isCall, istep, ibin, vcells, fillI, setR, flat, okCell, isBase, List.set, List.drop, List.take, List.append, bnds, bhi, blo, srcOf, simprocAttr, -Int.reduceAbs, ra1, qa1, ra2, qa2, ra3, qa3, ra4, rb1, qb1, rb2, qb2, rb3, qb3, rb4, rc1, qc1, rc2, qc2, rc3, qc3, rc4, ebc0, ybc0, wbc0, ebc1, ybc1, wbc1, ebc2, ybc2, wbc2, eca0, yca0, wca0, eca1, yca1, wca1, eca2, yca2, wca2, eab0, yab0, wab0, eab1, yab1, wab1, eab2, yab2, wab2, t0, ul0, S0, t1, ul1, S1, t2, ul2, S2, W0, z0, Int.zero_add, Nat.zero_le, i1, i2, i3, i4, m1, m2, m3, m4, spXNormal, spXCross, tE, spIMul, spIAdd, iE]
    refine lp_step ?_
    simp only [↓R0, R1, rdL, rdH, isCall, istep, ibin, vcells, fillI, setR, flat, okCell, isBase, List.set, List.drop, List.take, List.append, bnds, bhi, blo, srcOf, simprocAttr, -Int.reduceAbs, ra1, qa1, ra2, qa2, ra3, qa3, ra4, rb1, qb1, rb2, qb2, rb3, qb3, rb4, rc1, qc1, rc2, qc2, rc3, qc3, rc4, ebc0, ybc0, wbc0, ebc1, ybc1, wbc1, ebc2, ybc2, wbc2, eca0, yca0, wca0, eca1, yca1, wca1, eca2, yca2, wca2, eab0, yab0, wab0, eab1, yab1, wab1, eab2, yab2, wab2, t0, ul0, S0, t1, ul1, S1, t2, ul2, S2, W0, z0, Int.zero_add, Nat.zero_le, i1, i2, i3, i4, m1, m2, m3, m4, spXNormal, spXCross, tE, spIMul, spIAdd, iE]
    refine lp_step ?_
    simp only [↓R0, R1, rdL, rdH, isCall, istep, ibin, vcells, fillI, setR, flat, okCell, isBase, List.set, List.drop, List.take, List.append, bnds, bhi, blo, srcOf, simprocAttr, -Int.reduceAbs, ra1, qa1, ra2, qa2, ra3, qa3, ra4, rb1, qb1, rb2, qb2, rb3, qb3, rb4, rc1, qc1, rc2, qc2, rc3, qc3, rc4, ebc0, ybc0, wbc0, ebc1, ybc1, wbc1, ebc2, ybc2, wbc2, eca0, yca0, wca0, eca1, yca1, wca1, eca2, yca2, wca2, eab0, yab0, wab0, eab1, yab1, wab1, eab2, yab2, wab2, t0, ul0, S0, t1, ul1, S1, t2, ul2, S2, W0, z0, Int.zero_add, Nat.zero_le, i1, i2, i3, i4, m1, m2, m3, m4, spXNormal, spXCross, tE, spIMul, spIAdd, iE]
    refine lp_step ?_
    simp only [↓R0, R1, rdL, rdH, isCall, istep, ibin, vcells, fillI, setR, flat, okCell, isBase, List.set, List.drop, List.take, List.append, bnds, bhi, blo, srcOf, simprocAttr, -Int.reduceAbs, ra1, qa1, ra2, qa2, ra3, qa3, ra4, rb1, qb1, rb2, qb2, rb3, qb3, rb4, rc1, qc1, rc2, qc2, rc3, qc3, rc4, ebc0, ybc0, wbc0, ebc1, ybc1, wbc1, ebc2, ybc2, wbc2, eca0, yca0, wca0, eca1, yca1, wca1, eca2, yca2, wca2, eab0, yab0, wab0, eab1, yab1, wab1, eab2, yab2, wab2, t0, ul0, S0, t1, ul1, S1, t2, ul2, S2, W0, z0, Int.zero_add, Nat.zero_le, i1, i2, i3, i4, m1, m2, m3, m4, spXNormal, spXCross, tE, spIMul, spIAdd, iE]
    refine lp_step ?_
    simp only [↓R0, R1, rdL, rdH, isCall, istep, ibin, vcells, fillI, setR, flat, okCell, isBase, List.set, List.drop, List.take, List.append, bnds, bhi, blo, srcOf, simprocAttr, -Int.reduceAbs, ra1, qa1, ra2, qa2, ra3, qa3, ra4, rb1, qb1, rb2, qb2, rb3, qb3, rb4, rc1, qc1, rc2, qc2, rc3, qc3, rc4, ebc0, ybc0, wbc0, ebc1, ybc1, wbc1, ebc2, ybc2, wbc2, eca0, yca0, wca0, eca1, yca1, wca1, eca2, yca2, wca2, eab0, yab0, wab0, eab1, yab1, wab1, eab2, yab2, wab2, t0, ul0, S0, t1, ul1, S1, t2, ul2, S2, W0, z0, Int.zero_add, Nat.zero_le, i1, i2, i3, i4, m1, m2, m3, m4, spXNormal, spXCross, tE, spIMul, spIAdd, iE]
    refine lp_step ?_
    simp only [↓R0, R1, rdL, rdH, isCall, istep, ibin, vcells, fillI, setR, flat, okCell, isBase, List.set, List.drop, List.take, List.append, bnds, bhi, blo, srcOf, simprocAttr, -Int.reduceAbs, ra1, qa1, ra2, qa2, ra3, qa3, ra4, rb1, qb1, rb2, qb2, rb3, qb3, rb4, rc1, qc1, rc2, qc2, rc3, qc3, rc4, ebc0, ybc0, wbc0, ebc1, ybc1, wbc1, ebc2, ybc2, wbc2, eca0, yca0, wca0, eca1, yca1, wca1, eca2, yca2, wca2, eab0, yab0, wab0, eab1, yab1, wab1, eab2, yab2, wab2, t0, ul0, S0, t1, ul1, S1, t2, ul2, S2, W0, z0, Int.zero_add, Nat.zero_le, i1, i2, i3, i4, m1, m2, m3, m4, spXNormal, spXCross, tE, spIMul, spIAdd, iE]
    refine lp_step ?_
    simp only [↓R0, R1, rdL, rdH, isCall, istep, ibin, vcells, fillI, setR, flat, okCell, isBase, List.set, List.drop, List.take, List.append, bnds, bhi, blo, srcOf, simprocAttr, -Int.reduceAbs, ra1, qa1, ra2, qa2, ra3, qa3, ra4, rb1, qb1, rb2, qb2, rb3, qb3, rb4, rc1, qc1, rc2, qc2, rc3, qc3, rc4, ebc0, ybc0, wbc0, ebc1, ybc1, wbc1, ebc2, ybc2, wbc2, eca0, yca0, wca0, eca1, yca1, wca1, eca2, yca2, wca2, eab0, yab0, wab0, eab1, yab1, wab1, eab2, yab2, wab2, t0, ul0, S0, t1, ul1, S1, t2, ul2, S2, W0, z0, Int.zero_add, Nat.zero_le, i1, i2, i3, i4, m1, m2, m3, m4, spXNormal, spXCross, tE, spIMul, spIAdd, iE]
    refine lp_step ?_
    simp only [↓R0, R1, rdL, rdH, isCall, istep, ibin, vcells, fillI, setR, flat, okCell, isBase, List.set, List.drop, List.take, List.append, bnds, bhi, blo, srcOf, simprocAttr, -Int.reduceAbs, ra1, qa1, ra2, qa2, ra3, qa3, ra4, rb1, qb1, rb2, qb2, rb3, qb3, rb4, rc1, qc1, rc2, qc2, rc3, qc3, rc4, ebc0, ybc0, wbc0, ebc1, ybc1, wbc1, ebc2, ybc2, wbc2, eca0, yca0, wca0, eca1, yca1, wca1, eca2, yca2, wca2, eab0, yab0, wab0, eab1, yab1, wab1, eab2, yab2, wab2, t0, ul0, S0, t1, ul1, S1, t2, ul2, S2, W0, z0, Int.zero_add, Nat.zero_le, i1, i2, i3, i4, m1, m2, m3, m4, spXNormal, spXCross, tE, spIMul, spIAdd, iE]
    refine lp_step ?_
    simp only [↓R0, R1, rdL, rdH, isCall, istep, ibin, vcells, fillI, setR, flat, okCell, isBase, List.set, List.drop, List.take, List.append, bnds, bhi, blo, srcOf, simprocAttr, -Int.reduceAbs, ra1, qa1, ra2, qa2, ra3, qa3, ra4, rb1, qb1, rb2, qb2, rb3, qb3, rb4, rc1, qc1, rc2, qc2, rc3, qc3, rc4, ebc0, ybc0, wbc0, ebc1, ybc1, wbc1, ebc2, ybc2, wbc2, eca0, yca0, wca0, eca1, yca1, wca1, eca2, yca2, wca2, eab0, yab0, wab0, eab1, yab1, wab1, eab2, yab2, wab2, t0, ul0, S0, t1, ul1, S1, t2, ul2, S2, W0, z0, Int.zero_add, Nat.zero_le, i1, i2, i3, i4, m1, m2, m3, m4, spXNormal, spXCross, tE, spIMul, spIAdd, iE]
    refine lp_step ?_
    simp only [↓R0, R1, rdL, rdH, isCall, istep, ibin, vcells, fillI, setR, flat, okCell, isBase, List.set, List.drop, List.take, List.append, bnds, bhi, blo, srcOf, simprocAttr, -Int.reduceAbs, ra1, qa1, ra2, qa2, ra3, qa3, ra4, rb1, qb1, rb2, qb2, rb3, qb3, rb4, rc1, qc1, rc2, qc2, rc3, qc3, rc4, ebc0, ybc0, wbc0, ebc1, ybc1, wbc1, ebc2, ybc2, wbc2, eca0, yca0, wca0, eca1, yca1, wca1, eca2, yca2, wca2, eab0, yab0, wab0, eab1, yab1, wab1, eab2, yab2, wab2, t0, ul0, S0, t1, ul1, S1, t2, ul2, S2, W0, z0, Int.zero_add, Nat.zero_le, i1, i2, i3, i4, m1, m2, m3, m4, spXNormal, spXCross, tE, spIMul, spIAdd, iE]
    refine lp_step ?_
    simp only [↓R0, R1, rdL, rdH, isCall, istep, ibin, vcells, fillI, setR, flat, okCell, isBase, List.set, List.drop, List.take, List.append, bnds, bhi, blo, srcOf, simprocAttr, -Int.reduceAbs, ra1, qa1, ra2, qa2, ra3, qa3, ra4, rb1, qb1, rb2, qb2, rb3, qb3, rb4, rc1, qc1, rc2, qc2, rc3, qc3, rc4, ebc0, ybc0, wbc0, ebc1, ybc1, wbc1, ebc2, ybc2, wbc2, eca0, yca0, wca0, eca1, yca1, wca1, eca2, yca2, wca2, eab0, yab0, wab0, eab1, yab1, wab1, eab2, yab2, wab2, t0, ul0, S0, t1, ul1, S1, t2, ul2, S2, W0, z0, Int.zero_add, Nat.zero_le, i1, i2, i3, i4, m1, m2, m3, m4, spXNormal, spXCross, tE, spIMul, spIAdd, iE]
    refine lp_step ?_
    simp only [↓R0, R1, rdL, rdH, isCall, istep, ibin, vcells, fillI, setR, flat, okCell, isBase, List.set, List.drop, List.take, List.append, bnds, bhi, blo, srcOf, simprocAttr, -Int.reduceAbs, ra1, qa1, ra2, qa2, ra3, qa3, ra4, rb1, qb1, rb2, qb2, rb3, qb3, rb4, rc1, qc1, rc2, qc2, rc3, qc3, rc4, ebc0, ybc0, wbc0, ebc1, ybc1, wbc1, ebc2, ybc2, wbc2, eca0, yca0, wca0, eca1, yca1, wca1, eca2, yca2, wca2, eab0, yab0, wab0, eab1, yab1, wab1, eab2, yab2, wab2, t0, ul0, S0, t1, ul1, S1, t2, ul2, S2, W0, z0, Int.zero_add, Nat.zero_le, i1, i2, i3, i4, m1, m2, m3, m4, spXNormal, spXCross, tE, spIMul, spIAdd, iE]
    refine lp_step ?_
    simp only [↓R0, R1, rdL, rdH, isCall, istep, ibin, vcells, fillI, setR, flat, okCell, isBase, List.set, List.drop, List.take, List.append, bnds, bhi, blo, srcOf, simprocAttr, -Int.reduceAbs, ra1, qa1, ra2, qa2, ra3, qa3, ra4, rb1, qb1, rb2, qb2, rb3, qb3, rb4, rc1, qc1, rc2, qc2, rc3, qc3, rc4, ebc0, ybc0, wbc0, ebc1, ybc1, wbc1, ebc2, ybc2, wbc2, eca0, yca0, wca0, eca1, yca1, wca1, eca2, yca2, wca2, eab0, yab0, wab0, eab1, yab1, wab1, eab2, yab2, wab2, t0, ul0, S0, t1, ul1, S1, t2, ul2, S2, W0, z0, Int.zero_add, Nat.zero_le, i1, i2, i3, i4, m1, m2, m3, m4, spXNormal, spXCross, tE, spIMul, spIAdd, iE]
    refine lp_step ?_
    simp only [↓R0, R1, rdL, rdH, isCall, istep, ibin, vcells, fillI, setR, flat, okCell, isBase, List.set, List.drop, List.take, List.append, bnds, bhi, blo, srcOf, simprocAttr, -Int.reduceAbs, ra1, qa1, ra2, qa2, ra3, qa3, ra4, rb1, qb1, rb2, qb2, rb3, qb3, rb4, rc1, qc1, rc2, qc2, rc3, qc3, rc4, ebc0, ybc0, wbc0, ebc1, ybc1, wbc1, ebc2, ybc2, wbc2, eca0, yca0, wca0, eca1, yca1, wca1, eca2, yca2, wca2, eab0, yab0, wab0, eab1, yab1, wab1, eab2, yab2, wab2, t0, ul0, S0, t1, ul1, S1, t2, ul2, S2, W0, z0, Int.zero_add, Nat.zero_le, i1, i2, i3, i4, m1, m2, m3, m4, spXNormal, spXCross, tE, spIMul, spIAdd, iE]
    refine lp_step ?_
    simp only [↓R0, R1, rdL, rdH, isCall, istep, ibin, vcells, fillI, setR, flat, okCell, isBase, List.set, List.drop, List.take, List.append, bnds, bhi, blo, srcOf, simprocAttr, -Int.reduceAbs, ra1, qa1, ra2, qa2, ra3, qa3, ra4, rb1, qb1, rb2, qb2, rb3, qb3, rb4, rc1, qc1, rc2, qc2, rc3, qc3, rc4, ebc0, ybc0, wbc0, ebc1, ybc1, wbc1, ebc2, ybc2, wbc2, eca0, yca0, wca0, eca1, yca1, wca1, eca2, yca2, wca2, eab0, yab0, wab0, eab1, yab1, wab1, eab2, yab2, wab2, t0, ul0, S0, t1, ul1, S1, t2, ul2, S2, W0, z0, Int.zero_add, Nat.zero_le, i1, i2, i3, i4, m1, m2, m3, m4, spXNormal, spXCross, tE, spIMul, spIAdd, iE]
    refine lp_step ?_
    simp only [↓R0, R1, rdL, rdH, isCall, istep, ibin, vcells, fillI, setR, flat, okCell, isBase, List.set, List.drop, List.take, List.append, bnds, bhi, blo, srcOf, simprocAttr, -Int.reduceAbs, ra1, qa1, ra2, qa2, ra3, qa3, ra4, rb1, qb1, rb2, qb2, rb3, qb3, rb4, rc1, qc1, rc2, qc2, rc3, qc3, rc4, ebc0, ybc0, wbc0, ebc1, ybc1, wbc1, ebc2, ybc2, wbc2, eca0, yca0, wca0, eca1, yca1, wca1, eca2, yca2, wca2, eab0, yab0, wab0, eab1, yab1, wab1, eab2, yab2, wab2, t0, ul0, S0, t1, ul1, S1, t2, ul2, S2, W0, z0, Int.zero_add, Nat.zero_le, spXNormal, spXCross, tE, spXDot, spXMade, hw, zl0, zs0, Int.lt_irrefl, pZ, pE, Fin, isEnd, resL, res1, iE, rE]
    exact ⟨_, rfl, rfl, fun k hk => by simp only [ne_nb hk, if_false]⟩
  · rename_i hw
    cases hG
    refine ⟨rfl, by simp, ?_⟩
    simp only [c11, initT, List.zipIdx_cons, List.zipIdx_nil, List.map_cons, List.map_nil, Nat.reduceAdd]
    simp only [↓R0, R1, rdL, rdH, isCall, istep, ibin, vcells, fillI, setR, flat, okCell, isBase, List.set, List.drop, List.take, List.append, bnds, bhi, blo, srcOf, simprocAttr, -Int.reduceAbs]
    refine lp_step ?_
    simp only [↓R0, R1, rdL, rdH, isCall, istep, ibin, vcells, fillI, setR, flat, okCell, isBase, List.set, List.drop, List.take, List.append, bnds, bhi, blo, srcOf, simprocAttr, -Int.reduceAbs, ra1, qa1, ra2, qa2, ra3, qa3, ra4, rb1, qb1, rb2, qb2, rb3, qb3, rb4, rc1, qc1, rc2, qc2, rc3, qc3, rc4, ebc0, ybc0, wbc0, ebc1, ybc1, wbc1, ebc2, ybc2, wbc2, eca0, yca0, wca0, eca1, yca1, wca1, eca2, yca2, wca2, eab0, yab0, wab0, eab1, yab1, wab1, eab2, yab2, wab2, t0, ul0, S0, t1, ul1, S1, t2, ul2, S2, W0, z0, Int.zero_add, Nat.zero_le, i1, i2, i3, i4, m1, m2, m3, m4, spXNormal, spXCross, tE, spIMul, spIAdd, iE]
    refine lp_step ?_
    simp only [↓R0, R1, rdL, rdH, isCall, istep, ibin, vcells, fillI, setR, flat, okCell, isBase, List.set, List.drop, List.take, List.append, bnds, bhi, blo, srcOf, simprocAttr, -Int.reduceAbs, ra1, qa1, ra2, qa2, ra3, qa3, ra4, rb1, qb1, rb2, qb2, rb3, qb3, rb4, rc1, qc1, rc2, qc2, rc3, qc3, rc4, ebc0, ybc0, wbc0, ebc1, ybc1, wbc1, ebc2, ybc2, wbc2, eca0, yca0, wca0, eca1, yca1, wca1, eca2, yca2, wca2, eab0, yab0, wab0, eab1, yab1, wab1, eab2, yab2, wab2, t0, ul0, S0, t1, ul1, S1, t2, ul2, S2, W0, z0, Int.zero_add, Nat.zero_le, i1, i2, i3, i4, m1, m2, m3, m4, spXNormal, spXCross, tE, spIMul, spIAdd, iE]
    refine lp_step ?_
    simp only [↓R0, R1, rdL, rdH, isCall, istep, ibin, vcells, fillI, setR, flat, okCell, isBase, List.set, List.drop, List.take, List.append, bnds, bhi, blo, srcOf, simprocAttr, -Int.reduceAbs, ra1, qa1, ra2, qa2, ra3, qa3, ra4, rb1, qb1, rb2, qb2, rb3, qb3, rb4, rc1, qc1, rc2, qc2, rc3, qc3, rc4, ebc0, ybc0, wbc0, ebc1, ybc1, wbc1, ebc2, ybc2, wbc2, eca0, yca0, wca0, eca1, yca1, wca1, eca2, yca2, wca2, eab0, yab0, wab0, eab1, yab1, wab1, eab2, yab2, wab2, t0, ul0, S0, t1, ul1, S1, t2, ul2, S2, W0, z0, Int.zero_add, Nat.zero_le, i1, i2, i3, i4, m1, m2, m3, m4, spXNormal, spXCross, tE, spIMul, spIAdd, iE]
    refine lp_step ?_
    simp only [↓R0, R1, rdL, rdH, isCall, istep, ibin, vcells, fillI, setR, flat, okCell, isBase, List.set, List.drop, List.take, List.append, bnds, bhi, blo, srcOf, simprocAttr, -Int.reduceAbs, ra1, qa1, ra2, qa2, ra3, qa3, ra4, rb1, qb1, rb2, qb2, rb3, qb3, rb4, rc1, qc1, rc2, qc2, rc3, qc3, rc4, ebc0, ybc0, wbc0, ebc1, ybc1, wbc1, ebc2, ybc2, wbc2, eca0, yca0, wca0, eca1, yca1, wca1, eca2, yca2, wca2, eab0, yab0, wab0, eab1, yab1, wab1, eab2, yab2, wab2, t0, ul0, S0, t1, ul1, S1, t2, ul2, S2, W0, z0, Int.zero_add, Nat.zero_le, i1, i2, i3, i4, m1, m2, m3, m4, spXNormal, spXCross, tE, spIMul, spIAdd, iE]
    refine lp_step ?_
    simp only [↓R0, R1, rdL, rdH, isCall, istep, ibin, vcells, fillI, setR, flat, okCell, isBase, List.set, List.drop, List.take, List.append, bnds, bhi, blo, srcOf, simprocAttr, -Int.reduceAbs, ra1, qa1, ra2, qa2, ra3, qa3, ra4, rb1, qb1, rb2, qb2, rb3, qb3, rb4, rc1, qc1, rc2, qc2, rc3, qc3, rc4, ebc0, ybc0, wbc0, ebc1, ybc1, wbc1, ebc2, ybc2, wbc2, eca0, yca0, wca0, eca1, yca1, wca1, eca2, yca2, wca2, eab0, yab0, wab0, eab1, yab1, wab1, eab2, yab2, wab2, t0, ul0, S0, t1, ul1, S1, t2, ul2, S2, W0, z0, Int.zero_add, Nat.zero_le, i1, i2, i3, i4, m1, m2, m3, m4, spXNormal, spXCross, tE, spIMul, spIAdd, iE]
    refine lp_step ?_
    simp only [↓R0, R1, rdL, rdH, isCall, istep, ibin, vcells, fillI, setR, flat, okCell, isBase, List.set, List.drop, List.take, List.append, bnds, bhi, blo, srcOf, simprocAttr, -Int.reduceAbs, ra1, qa1, ra2, qa2, ra3, qa3, ra4, rb1, qb1, rb2, qb2, rb3, qb3, rb4, rc1, qc1, rc2, qc2, rc3, qc3, rc4, ebc0, ybc0, wbc0, ebc1, ybc1, wbc1, ebc2, ybc2, wbc2, eca0, yca0, wca0, eca1, yca1, wca1, eca2, yca2, wca2, eab0, yab0, wab0, eab1, yab1, wab1, eab2, yab2, wab2, t0, ul0, S0, t1, ul1, S1, t2, ul2, S2, W0, z0, Int.zero_add, Nat.zero_le, i1, i2, i3, i4, m1, m2, m3, m4, spXNormal, spXCross, tE, spIMul, spIAdd, iE]
    refine lp_step ?_
    simp only [↓R0, R1, rdL, rdH, isCall, istep, ibin, vcells, fillI, setR, flat, okCell, isBase, List.set, List.drop, List.take, List.append, bnds, bhi, blo, srcOf, simprocAttr, -Int.reduceAbs, ra1, qa1, ra2, qa2, ra3, qa3, ra4, rb1, qb1, rb2, qb2, rb3, qb3, rb4, rc1, qc1, rc2, qc2, rc3, qc3, rc4, ebc0, ybc0, wbc0, ebc1, ybc1, wbc1, ebc2, ybc2, wbc2, eca0, yca0, wca0, eca1, yca1, wca1, eca2, yca2, wca2, eab0, yab0, wab0, eab1, yab1, wab1, eab2, yab2, wab2, t0, ul0, S0, t1, ul1, S1, t2, ul2, S2, W0, z0, Int.zero_add, Nat.zero_le, i1, i2, i3, i4, m1, m2, m3, m4, spXNormal, spXCross, tE, spIMul, spIAdd, iE]
    refine lp_step ?_
    simp only [↓R0, R1, rdL, rdH, isCall, istep, ibin, vcells, fillI, setR, flat, okCell, isBase, List.set, List.drop, List.take, List.append, bnds, bhi, blo, srcOf, simprocAttr, -Int.reduceAbs, ra1, qa1, ra2, qa2, ra3, qa3, ra4, rb1, qb1, rb2, qb2, rb3, qb3, rb4, rc1, qc1, rc2, qc2, rc3, qc3, rc4, ebc0, ybc0, wbc0, ebc1, ybc1, wbc1, ebc2, ybc2, wbc2, eca0, yca0, wca0, eca1, yca1, wca1, eca2, yca2, wca2, eab0, yab0, wab0, eab1, yab1, wab1, eab2, yab2, wab2, t0, ul0, S0, t1, ul1, S1, t2, ul2, S2, W0, z0, Int.zero_add, Nat.zero_le, i1, i2, i3, i4, m1, m2, m3, m4, spXNormal, spXCross, tE, spIMul, spIAdd, iE]
    refine lp_step ?_
    simp only [↓R0, R1, rdL, rdH, isCall, istep, ibin, vcells, fillI, setR, flat, okCell, isBase, List.set, List.drop, List.take, List.append, bnds, bhi, blo, srcOf, simprocAttr, -Int.reduceAbs, ra1, qa1, ra2, qa2, ra3, qa3, ra4, rb1, qb1, rb2, qb2, rb3, qb3, rb4, rc1, qc1, rc2, qc2, rc3, qc3, rc4, ebc0, ybc0, wbc0, ebc1, ybc1, wbc1, ebc2, ybc2, wbc2, eca0, yca0, wca0, eca1, yca1, wca1, eca2, yca2, wca2, eab0, yab0, wab0, eab1, yab1, wab1, eab2, yab2, wab2, t0, ul0, S0, t1, ul1, S1, t2, ul2, S2, W0, z0, Int.zero_add, Nat.zero_le, i1, i2, i3, i4, m1, m2, m3, m4, spXNormal, spXCross, tE, spIMul, spIAdd, iE]
    refine lp_step ?_
    simp only [↓R0, R1, rdL, rdH, isCall, istep, ibin, vcells, fillI, setR, flat, okCell, isBase, List.set, List.drop, List.take, List.append, bnds, bhi, blo, srcOf, simprocAttr, -Int.reduceAbs, ra1, qa1, ra2, qa2, ra3, qa3, ra4, rb1, qb1, rb2, qb2, rb3, qb3, rb4, rc1, qc1, rc2, qc2, rc3, qc3, rc4, ebc0, ybc0, wbc0, ebc1, ybc1, wbc1, ebc2, ybc2, wbc2, eca0, yca0, wca0, eca1, yca1, wca1, eca2, yca2, wca2, eab0, yab0, wab0, eab1, yab1, wab1, eab2, yab2, wab2, t0, ul0, S0, t1, ul1, S1, t2, ul2, S2, W0, z0, Int.zero_add, Nat.zero_le, i1, i2, i3, i4, m1, m2, m3, m4, spXNormal, spXCross, tE, spIMul, spIAdd, iE]
    refine lp_step ?_
    simp only [↓R0, R1, rdL, rdH, isCall, istep, ibin, vcells, fillI, setR, flat, okCell, isBase, List.set, List.drop, List.take, List.append, bnds, bhi, blo, srcOf, simprocAttr, -Int.reduceAbs, ra1, qa1, ra2, qa2, ra3, qa3, ra4, rb1, qb1, rb2, qb2, rb3, qb3, rb4, rc1, qc1, rc2, qc2, rc3, qc3, rc4, ebc0, ybc0, wbc0, ebc1, ybc1, wbc1, ebc2, ybc2, wbc2, eca0, yca0, wca0, eca1, yca1, wca1, eca2, yca2, wca2, eab0, yab0, wab0, eab1, yab1, wab1, eab2, yab2, wab2, t0, ul0, S0, t1, ul1, S1, t2, ul2, S2, W0, z0, Int.zero_add, Nat.zero_le, i1, i2, i3, i4, m1, m2, m3, m4, spXNormal, spXCross, tE, spIMul, spIAdd, iE]
    refine lp_step ?_
    simp only [↓R0, R1, rdL, rdH, isCall, istep, ibin, vcells, fillI, setR, flat, okCell, isBase, List.set, List.drop, List.take, List.append, bnds, bhi, blo, srcOf, simprocAttr, -Int.reduceAbs, ra1, qa1, ra2, qa2, ra3, qa3, ra4, rb1, qb1, rb2, qb2, rb3, qb3, rb4, rc1, qc1, rc2, qc2, rc3, qc3, rc4, ebc0, ybc0, wbc0, ebc1, ybc1, wbc1, ebc2, ybc2, wbc2, eca0, yca0, wca0, eca1, yca1, wca1, eca2, yca2, wca2, eab0, yab0, wab0, eab1, yab1, wab1, eab2, yab2, wab2, t0, ul0, S0, t1, ul1, S1, t2, ul2, S2, W0, z0, Int.zero_add, Nat.zero_le, i1, i2, i3, i4, m1, m2, m3, m4, spXNormal, spXCross, tE, spIMul, spIAdd, iE]
    refine lp_step ?_
    simp only [↓R0, R1, rdL, rdH, isCall, istep, ibin, vcells, fillI, setR, flat, okCell, isBase, List.set, List.drop, List.take, List.append, bnds, bhi, blo, srcOf, simprocAttr, -Int.reduceAbs, ra1, qa1, ra2, qa2, ra3, qa3, ra4, rb1, qb1, rb2, qb2, rb3, qb3, rb4, rc1, qc1, rc2, qc2, rc3, qc3, rc4, ebc0, ybc0, wbc0, ebc1, ybc1, wbc1, ebc2, ybc2, wbc2, eca0, yca0, wca0, eca1, yca1, wca1, eca2, yca2, wca2, eab0, yab0, wab0, eab1, yab1, wab1, eab2, yab2, wab2, t0, ul0, S0, t1, ul1, S1, t2, ul2, S2, W0, z0, Int.zero_add, Nat.zero_le, i1, i2, i3, i4, m1, m2, m3, m4, spXNormal, spXCross, tE, spIMul, spIAdd, iE]
    refine lp_step ?_
    simp only [↓R0, R1, rdL, rdH, isCall, istep, ibin, vcells, fillI, setR, flat, okCell, isBase, List.set, List.drop, List.take, List.append, bnds, bhi, blo, srcOf, simprocAttr, -Int.reduceAbs, ra1, qa1, ra2, qa2, ra3, qa3, ra4, rb1, qb1, rb2, qb2, rb3, qb3, rb4, rc1, qc1, rc2, qc2, rc3, qc3, rc4, ebc0, ybc0, wbc0, ebc1, ybc1, wbc1, ebc2, ybc2, wbc2, eca0, yca0, wca0, eca1, yca1, wca1, eca2, yca2, wca2, eab0, yab0, wab0, eab1, yab1, wab1, eab2, yab2, wab2, t0, ul0, S0, t1, ul1, S1, t2, ul2, S2, W0, z0, Int.zero_add, Nat.zero_le, i1, i2, i3, i4, m1, m2, m3, m4, spXNormal, spXCross, tE, spIMul, spIAdd, iE]
    refine lp_step ?_
    simp only [↓R0, R1, rdL, rdH, isCall, istep, ibin, vcells, fillI, setR, flat, okCell, isBase, List.set, List.drop, List.take, List.append, bnds, bhi, blo, srcOf, simprocAttr, -Int.reduceAbs, ra1, qa1, ra2, qa2, ra3, qa3, ra4, rb1, qb1, rb2, qb2, rb3, qb3, rb4, rc1, qc1, rc2, qc2, rc3, qc3, rc4, ebc0, ybc0, wbc0, ebc1, ybc1, wbc1, ebc2, ybc2, wbc2, eca0, yca0, wca0, eca1, yca1, wca1, eca2, yca2, wca2, eab0, yab0, wab0, eab1, yab1, wab1, eab2, yab2, wab2, t0, ul0, S0, t1, ul1, S1, t2, ul2, S2, W0, z0, Int.zero_add, Nat.zero_le, i1, i2, i3, i4, m1, m2, m3, m4, spXNormal, spXCross, tE, spIMul, spIAdd, iE]
    refine lp_step ?_
    simp only [↓R0, R1, rdL, rdH, isCall, istep, ibin, vcells, fillI, setR, flat, okCell, isBase, List.set, List.drop, List.take, List.append, bnds, bhi, blo, srcOf, simprocAttr, -Int.reduceAbs, ra1, qa1, ra2, qa2, ra3, qa3, ra4, rb1, qb1, rb2, qb2, rb3, qb3, rb4, rc1, qc1, rc2, qc2, rc3, qc3, rc4, ebc0, ybc0, wbc0, ebc1, ybc1, wbc1, ebc2, ybc2, wbc2, eca0, yca0, wca0, eca1, yca1, wca1, eca2, yca2, wca2, eab0, yab0, wab0, eab1, yab1, wab1, eab2, yab2, wab2, t0, ul0, S0, t1, ul1, S1, t2, ul2, S2, W0, z0, Int.zero_add, Nat.zero_le, spXNormal, spXCross, tE, spXDot, spXMade, hw, zl0, zs0, Int.lt_irrefl, pZ, pE, Fin, isEnd, resL, res1, iE, rE]
    exact ⟨_, rfl, rfl, fun k hk => by simp only [ne_nb hk, if_false]⟩
end Go.Eng
end
section
set_option linter.unusedVariables false
set_option linter.unusedSimpArgs false
set_option linter.unusedSectionVars false
set_option maxRecDepth 20000
namespace Go.Eng
open Go Go.Proofs Go.IntWalk
def spXAbove : List Value → Option Value
  | [.agg ⟨[.bool s1, .string ⟨⟨l1⟩⟩, .bool s2, .string ⟨⟨l2⟩⟩, .bool s3, .string ⟨⟨l3⟩⟩, .bool s4, .string ⟨⟨l4⟩⟩]⟩, .agg ⟨[.bool t1, .string ⟨⟨m1⟩⟩, .bool t2, .string ⟨⟨m2⟩⟩, .bool t3, .string ⟨⟨m3⟩⟩, .bool t4, .string ⟨⟨m4⟩⟩]⟩] =>
    if l1.length ≤ 4294967296 ∧ l2.length ≤ 4294967296 ∧ l3.length ≤ 4294967296 ∧ l4.length ≤ 4294967296 ∧ m1.length ≤ 4294967296 ∧ m2.length ≤ 4294967296 ∧ m3.length ≤ 4294967296 ∧ m4.length ≤ 4294967296 then
      some (.agg ⟨iE (sv s1 l1 * sv t1 m1 + sv s2 l2 * sv t2 m2 + sv s3 l3 * sv t3 m3 - sv s4 l4 * sv t4 m4)⟩) else none
  | _ => none
def c52 : ICode :=
  (.seq (.reg [⟨(some 2), none, (.box 25 8 (.t 0))⟩, ⟨(some 3), none, (.box 30 8 (.t 1))⟩, ⟨(some 4), none, (.alloc 23 2 [(.bool false), (.string ⟨⟨[]⟩⟩)])⟩])
  (.seq (.dreg [⟨(some 5), none, [], (.load true 8 (.t 2))⟩, ⟨(some 6), none, [], (.call 33 [(.t 5)])⟩, ⟨(some 7), none, [], (.faddr 0 (.t 3))⟩, ⟨(some 8), none, [1], (.load true 2 (.t 7))⟩, ⟨(some 9), none, [], (.faddr 2 (.t 3))⟩, ⟨(some 10), none, [1], (.load true 2 (.t 9))⟩, ⟨(some 11), none, [], (.faddr 4 (.t 3))⟩, ⟨(some 12), none, [1], (.load true 2 (.t 11))⟩, ⟨(some 13), none, [], (.build [(.bool false), (.string ⟨⟨[]⟩⟩), (.bool false), (.string ⟨⟨[]⟩⟩), (.bool false), (.string ⟨⟨[]⟩⟩)] [(0, 2, (.t 8)), (2, 2, (.t 10)), (4, 2, (.t 12))])⟩, ⟨(some 14), none, [], (.call 37 [(.t 6), (.t 13)])⟩, ⟨(some 15), none, [], (.faddr 6 (.t 2))⟩, ⟨(some 16), none, [1, 9], (.load true 2 (.t 15))⟩, ⟨(some 17), none, [], (.faddr 6 (.t 3))⟩, ⟨(some 18), none, [1, 9], (.load true 2 (.t 17))⟩, ⟨(some 19), none, [], (.call 35 [(.t 16), (.t 18)])⟩, ⟨(some 20), none, [], (.call 54 [(.t 14), (.t 19)])⟩, ⟨none, none, [], (.store 2 (.t 4) (.t 20))⟩])
  .ret))
theorem tr52 : trFun Tryz.prog 52 = some ⟨21, [.cell 4 true 2], c52⟩ := by kernel_rfl
set_option maxHeartbeats 2000000 in
theorem ok_xAbove : SpecOK Tryz.prog 52 (flat spXAbove) := by
  refine flat_run (env_cons ok_xNormal (env_cons ok_xDot (env_cons ok_iMul (env_cons ok_iSub (env_nil _))))) mixed tr52 ?_
  intro args v h N hG
  unfold spXAbove at hG
  split at hG
  case h_2 => cases hG
  rename_i s1 l1 s2 l2 s3 l3 s4 l4 t1 m1 t2 m2 t3 m3 t4 m4
  split at hG
  case isFalse => cases hG
  rename_i hl
  obtain ⟨h1, h2, h3, h4, g1, g2, g3, g4⟩ := hl
  cases hG
  refine ⟨rfl, by simp, ?_⟩
  have a1 : l1.length ≤ 17179869184 := by omega
  have a2 : l2.length ≤ 17179869184 := by omega
  have a3 : l3.length ≤ 17179869184 := by omega
  have a4 : l4.length ≤ 34359738368 := by omega
  have b1 : m1.length ≤ 17179869184 := by omega
  have b2 : m2.length ≤ 17179869184 := by omega
  have b3 : m3.length ≤ 17179869184 := by omega
  have b4 : m4.length ≤ 34359738368 := by omega
  have p1 := lmul (k := 8589934592) (len_sv (s := s1) h1) (len_sv (s := t1) g1) (by omega)
  have p2 := lmul (k := 8589934592) (len_sv (s := s2) h2) (len_sv (s := t2) g2) (by omega)
  have p3 := lmul (k := 8589934592) (len_sv (s := s3) h3) (len_sv (s := t3) g3) (by omega)
  have p4 := lmul (k := 68719476736) (len_sv (s := s4) h4) (len_sv (s := t4) g4) (by omega)
  have q1 := ladd (k := 68719476736) (ladd (k := 8589934593) p1 p2 (by omega)) p3 (by omega)
  simp only [c52, initT, List.zipIdx_cons, List.zipIdx_nil, List.map_cons, List.map_nil, Nat.reduceAdd]
  simp only [↓R0, R1, rdL, rdH, isCall, istep, ibin, vcells, fillI, setR, flat, okCell, isBase, List.set, List.drop, List.take, List.append, bnds, bhi, blo, srcOf, simprocAttr, -Int.reduceAbs, spXNormal, spXDot, spIMul, spISub, a1, a2, a3, a4, b1, b2, b3, b4, p4, q1, Fin, isEnd, resL, res1, iE, rE]
  exact ⟨_, rfl, rfl, fun k hk => by simp only [ne_nb hk, if_false]⟩
def spXBetw : List Value → Heap → Option Value
  | [.agg ⟨[.bool s1, .string ⟨⟨l1⟩⟩]⟩, .agg ⟨[.bool s2, .string ⟨⟨l2⟩⟩]⟩, .pointer (some ⟨k, 0, none⟩), .pointer (some ⟨k', 0, none⟩)], h => match hget h k, hget h k' with
    | some ⟨_, _, _, [.bool t1, .string ⟨⟨m1⟩⟩]⟩, some ⟨_, _, _, [.bool t2, .string ⟨⟨m2⟩⟩]⟩ =>
      if l1.length ≤ 17179869184 ∧ l2.length ≤ 17179869184 ∧ m1.length ≤ 17179869184 ∧ m2.length ≤ 17179869184 then some (.agg ⟨iE (sv s1 l1 * sv t1 m1 - sv s2 l2 * sv t2 m2)⟩) else none
    | _, _ => none
  | _, _ => none
def c53 : ICode :=
  (.seq (.reg [⟨(some 4), none, (.box 23 2 (.t 0))⟩, ⟨(some 5), none, (.box 23 2 (.t 1))⟩, ⟨(some 6), none, (.alloc 23 2 [(.bool false), (.string ⟨⟨[]⟩⟩)])⟩])
  (.seq (.dreg [⟨(some 7), none, [], (.load true 2 (.t 4))⟩, ⟨(some 8), none, [], (.load true 2 (.t 2))⟩, ⟨(some 9), none, [], (.call 35 [(.t 7), (.t 8)])⟩, ⟨(some 10), none, [2], (.load true 2 (.t 5))⟩, ⟨(some 11), none, [2], (.load true 2 (.t 3))⟩, ⟨(some 12), none, [], (.call 35 [(.t 10), (.t 11)])⟩, ⟨(some 13), none, [], (.call 54 [(.t 9), (.t 12)])⟩, ⟨none, none, [], (.store 2 (.t 6) (.t 13))⟩])
  .ret))
theorem tr53 : trFun Tryz.prog 53 = some ⟨14, [.cell 6 true 2], c53⟩ := by kernel_rfl
theorem ok_xBetw : SpecOK Tryz.prog 53 (rdS spXBetw) := by
  refine rd_run (env_cons ok_iMul (env_cons ok_iSub (env_nil _))) mixed tr53 ?_ ?_
  · intro args h h' v hle e
    unfold spXBetw at e ⊢
    split at e
    · split at e
      · rename_i b1 b2
        simp only [hle _ _ b1, hle _ _ b2]; exact e
      · cases e
    · cases e
  intro args v h N hG hN
  unfold spXBetw at hG
  split at hG
  case h_2 => cases hG
  rename_i s1 l1 s2 l2 k k'
  split at hG
  case h_2 => cases hG
  rename_i e1 z1 x1 t1 m1 e2 z2 x2 t2 m2 hb1 hb2
  split at hG
  case isFalse => cases hG
  rename_i hl
  obtain ⟨h1, h2, h3, h4⟩ := hl
  cases hG
  refine ⟨rfl, by simp, ?_⟩
  have k1 := hN _ _ hb1
  have k2 := hN _ _ hb2
  have ne1 : ∀ j, (N + j = k) = False := fun j => eq_false (by omega)
  have ne2 : ∀ j, (N + j = k') = False := fun j => eq_false (by omega)
  have a1 : l1.length ≤ 34359738368 := by omega
  have a2 : l2.length ≤ 34359738368 := by omega
  have b1 : m1.length ≤ 34359738368 := by omega
  have b2 : m2.length ≤ 34359738368 := by omega
  have p1 := lmul (k := 68719476736) (len_sv (s := s1) h1) (len_sv (s := t1) h3) (by omega)
  have p2 := lmul (k := 68719476736) (len_sv (s := s2) h2) (len_sv (s := t2) h4) (by omega)
  simp only [c53, initT, List.zipIdx_cons, List.zipIdx_nil, List.map_cons, List.map_nil, Nat.reduceAdd]
  simp only [↓R0, R1, rdL, rdH, isCall, istep, ibin, vcells, fillI, setR, flat, okCell, isBase, List.set, List.drop, List.take, List.append, bnds, bhi, blo, srcOf, simprocAttr, -Int.reduceAbs, ne1, ne2, hb1, hb2, spIMul, spISub, a1, a2, b1, b2, p1, p2, Fin, isEnd, resL, res1, iE, rE]
  exact ⟨_, rfl, rfl, fun k hk => by simp only [ne_nb hk, if_false]⟩
def spXLine : List Value → Option Value
  | [.agg ⟨[.bool s1, .string ⟨⟨l1⟩⟩, .bool s2, .string ⟨⟨l2⟩⟩, .bool s3, .string ⟨⟨l3⟩⟩, .bool s4, .string ⟨⟨l4⟩⟩]⟩, .agg ⟨[.bool t1, .string ⟨⟨m1⟩⟩, .bool t2, .string ⟨⟨m2⟩⟩, .bool t3, .string ⟨⟨m3⟩⟩, .bool t4, .string ⟨⟨m4⟩⟩]⟩,
      .agg ⟨[.bool u1, .string ⟨⟨o1⟩⟩, .bool u2, .string ⟨⟨o2⟩⟩, .bool u3, .string ⟨⟨o3⟩⟩, .bool u4, .string ⟨⟨o4⟩⟩]⟩] =>
    if l1.length ≤ 2147483648 ∧ l2.length ≤ 2147483648 ∧ l3.length ≤ 2147483648 ∧ l4.length ≤ 2147483648 ∧ m1.length ≤ 2147483648 ∧ m2.length ≤ 2147483648 ∧ m3.length ≤ 2147483648 ∧ m4.length ≤ 2147483648 ∧
      o1.length ≤ 2147483648 ∧ o2.length ≤ 2147483648 ∧ o3.length ≤ 2147483648 ∧ o4.length ≤ 2147483648 then
      (if t1 = u1 ∧ m1 = o1 ∧ t2 = u2 ∧ m2 = o2 ∧ t3 = u3 ∧ m3 = o3 ∧ t4 = u4 ∧ m4 = o4 then some (.tuple ⟨[.agg ⟨pZ⟩, .bool false]⟩) else
      if sv t4 m4 * (sv s1 l1 * sv u1 o1 + sv s2 l2 * sv u2 o2 + sv s3 l3 * sv u3 o3 - sv s4 l4 * sv u4 o4) - sv u4 o4 * (sv s1 l1 * sv t1 m1 + sv s2 l2 * sv t2 m2 + sv s3 l3 * sv t3 m3 - sv s4 l4 * sv t4 m4) = 0 then some (.tuple ⟨[.agg ⟨pZ⟩, .bool false]⟩) else
      some (.tuple ⟨[.agg ⟨pE (sv t1 m1 * (sv s1 l1 * sv u1 o1 + sv s2 l2 * sv u2 o2 + sv s3 l3 * sv u3 o3 - sv s4 l4 * sv u4 o4) - sv u1 o1 * (sv s1 l1 * sv t1 m1 + sv s2 l2 * sv t2 m2 + sv s3 l3 * sv t3 m3 - sv s4 l4 * sv t4 m4))
        (sv t2 m2 * (sv s1 l1 * sv u1 o1 + sv s2 l2 * sv u2 o2 + sv s3 l3 * sv u3 o3 - sv s4 l4 * sv u4 o4) - sv u2 o2 * (sv s1 l1 * sv t1 m1 + sv s2 l2 * sv t2 m2 + sv s3 l3 * sv t3 m3 - sv s4 l4 * sv t4 m4))
        (sv t3 m3 * (sv s1 l1 * sv u1 o1 + sv s2 l2 * sv u2 o2 + sv s3 l3 * sv u3 o3 - sv s4 l4 * sv u4 o4) - sv u3 o3 * (sv s1 l1 * sv t1 m1 + sv s2 l2 * sv t2 m2 + sv s3 l3 * sv t3 m3 - sv s4 l4 * sv t4 m4))
        (sv t4 m4 * (sv s1 l1 * sv u1 o1 + sv s2 l2 * sv u2 o2 + sv s3 l3 * sv u3 o3 - sv s4 l4 * sv u4 o4) - sv u4 o4 * (sv s1 l1 * sv t1 m1 + sv s2 l2 * sv t2 m2 + sv s3 l3 * sv t3 m3 - sv s4 l4 * sv t4 m4))⟩, .bool true]⟩)) else none
  | _ => none
def c15 : ICode :=
  (.seq (.reg [⟨(some 3), none, (.box 25 8 (.t 0))⟩, ⟨(some 4), none, (.box 30 8 (.t 1))⟩, ⟨(some 5), none, (.box 30 8 (.t 2))⟩, ⟨(some 6), none, (.alloc 30 8 [(.bool false), (.string ⟨⟨[]⟩⟩), (.bool false), (.string ⟨⟨[]⟩⟩), (.bool false), (.string ⟨⟨[]⟩⟩), (.bool false), (.string ⟨⟨[]⟩⟩)])⟩, ⟨(some 7), none, (.mv (.c (.bool false)))⟩])
  (.seq (.seq (.reg [⟨(some 11), none, (.load true 8 (.t 4))⟩, ⟨(some 12), none, (.load true 8 (.t 5))⟩, ⟨(some 13), none, (.eqa false [.b, .s, .b, .s, .b, .s, .b, .s] (.t 11) (.t 12))⟩])
  (.cond (.t 13)
  (.seq (.reg [⟨(some 14), none, (.build [(.bool false), (.string ⟨⟨[]⟩⟩), (.bool false), (.string ⟨⟨[]⟩⟩), (.bool false), (.string ⟨⟨[]⟩⟩), (.bool false), (.string ⟨⟨[]⟩⟩)] [])⟩, ⟨none, none, (.store 8 (.t 6) (.t 14))⟩, ⟨(some 7), none, (.mv (.c (.bool false)))⟩])
  .ret)
  .skip))
  (.seq (.dreg [⟨(some 15), none, [], (.load true 8 (.t 3))⟩, ⟨(some 16), none, [], (.load true 8 (.t 4))⟩, ⟨(some 17), none, [], (.call 52 [(.t 15), (.t 16)])⟩, ⟨(some 18), none, [2], (.load true 8 (.t 3))⟩, ⟨(some 19), none, [2], (.load true 8 (.t 5))⟩, ⟨(some 20), none, [], (.call 52 [(.t 18), (.t 19)])⟩, ⟨(some 8), none, [], (.alloc 23 2 [(.bool false), (.string ⟨⟨[]⟩⟩)])⟩, ⟨(some 9), none, [], (.alloc 23 2 [(.bool false), (.string ⟨⟨[]⟩⟩)])⟩, ⟨none, none, [], (.store 2 (.t 8) (.t 17))⟩, ⟨none, none, [], (.store 2 (.t 9) (.t 20))⟩])
  (.seq (.reg [⟨(some 21), none, (.mkfn 53 [(.t 9), (.t 8)])⟩, ⟨(some 10), none, (.mv (.t 21))⟩])
  (.seq (.dreg [⟨(some 22), none, [], (.mv (.t 10))⟩, ⟨(some 23), none, [], (.faddr 0 (.t 4))⟩, ⟨(some 24), none, [], (.load true 2 (.t 23))⟩, ⟨(some 25), none, [], (.faddr 0 (.t 5))⟩, ⟨(some 26), none, [], (.load true 2 (.t 25))⟩, ⟨(some 27), none, [], (.callv (.t 22) [(.t 24), (.t 26)])⟩, ⟨(some 28), none, [], (.mv (.t 10))⟩, ⟨(some 29), none, [], (.faddr 2 (.t 4))⟩, ⟨(some 30), none, [5], (.load true 2 (.t 29))⟩, ⟨(some 31), none, [], (.faddr 2 (.t 5))⟩, ⟨(some 32), none, [5], (.load true 2 (.t 31))⟩, ⟨(some 33), none, [], (.callv (.t 28) [(.t 30), (.t 32)])⟩, ⟨(some 34), none, [], (.mv (.t 10))⟩, ⟨(some 35), none, [], (.faddr 4 (.t 4))⟩, ⟨(some 36), none, [5, 11], (.load true 2 (.t 35))⟩, ⟨(some 37), none, [], (.faddr 4 (.t 5))⟩, ⟨(some 38), none, [5, 11], (.load true 2 (.t 37))⟩, ⟨(some 39), none, [], (.callv (.t 34) [(.t 36), (.t 38)])⟩, ⟨(some 40), none, [], (.build [(.bool false), (.string ⟨⟨[]⟩⟩), (.bool false), (.string ⟨⟨[]⟩⟩), (.bool false), (.string ⟨⟨[]⟩⟩)] [(0, 2, (.t 27)), (2, 2, (.t 33)), (4, 2, (.t 39))])⟩, ⟨(some 41), none, [], (.mv (.t 10))⟩, ⟨(some 42), none, [], (.faddr 6 (.t 4))⟩, ⟨(some 43), none, [5, 11, 17], (.load true 2 (.t 42))⟩, ⟨(some 44), none, [], (.faddr 6 (.t 5))⟩, ⟨(some 45), none, [5, 11, 17], (.load true 2 (.t 44))⟩, ⟨(some 46), none, [], (.callv (.t 41) [(.t 43), (.t 45)])⟩, ⟨(some 47), none, [], (.call 36 [(.t 40), (.t 46)])⟩, ⟨(some 48), none, [], (.ext (.t 47) 0)⟩, ⟨(some 49), none, [], (.ext (.t 47) 1)⟩, ⟨none, none, [], (.store 8 (.t 6) (.t 48))⟩, ⟨(some 7), none, [], (.mv (.t 49))⟩])
  .ret)))))
theorem tr15 : trFun Tryz.prog 15 = some ⟨50, [.cell 6 true 8, .t 7], c15⟩ := by kernel_rfl
set_option maxHeartbeats 8000000 in
theorem ok_xLine : SpecOK Tryz.prog 15 (flat spXLine) := by
  refine flat_run (env_cons ok_xAbove (env_cons ok_xBetw (env_cons ok_xMade (env_nil _)))) mixed tr15 ?_
  intro args v h N hG
  unfold spXLine at hG
  split at hG
  case h_2 => cases hG
  rename_i s1 l1 s2 l2 s3 l3 s4 l4 t1 m1 t2 m2 t3 m3 t4 m4 u1 o1 u2 o2 u3 o3 u4 o4
  split at hG
  case isFalse => cases hG
  rename_i hl
  obtain ⟨h1, h2, h3, h4, g1, g2, g3, g4, j1, j2, j3, j4⟩ := hl
  split at hG
  · rename_i heq
    obtain ⟨rfl, rfl, rfl, rfl, rfl, rfl, rfl, rfl⟩ := heq
    cases hG
    refine ⟨rfl, by simp, ?_⟩
    simp only [c15, initT, List.zipIdx_cons, List.zipIdx_nil, List.map_cons, List.map_nil, Nat.reduceAdd]
    simp only [↓R0, R1, rdL, rdH, isCall, istep, ibin, vcells, fillI, setR, flat, okCell, isBase, List.set, List.drop, List.take, List.append, bnds, bhi, blo, srcOf, simprocAttr, -Int.reduceAbs, ceq, pZ, Fin, isEnd, resL, res1, iE, rE]
    exact ⟨_, rfl, rfl, fun k hk => by simp only [ne_nb hk, if_false]⟩
  rename_i hne
  have hc : (decide (t1 = u1) && (decide (m1 = o1) && (decide (t2 = u2) && (decide (m2 = o2) && (decide (t3 = u3) && (decide (m3 = o3) && (decide (t4 = u4) && decide (m4 = o4)))))))) = false := by
    cases hb : (decide (t1 = u1) && (decide (m1 = o1) && (decide (t2 = u2) && (decide (m2 = o2) && (decide (t3 = u3) && (decide (m3 = o3) && (decide (t4 = u4) && decide (m4 = o4)))))))) with
    | false => rfl
    | true => simp only [Bool.and_eq_true, decide_eq_true_eq] at hb; exact absurd hb hne
  have bS := lsub (k := 4294967299) (ladd (k := 4294967298) (ladd (k := 4294967297) (lmul (k := 4294967296) (len_sv (s := s1) h1) (len_sv (s := t1) g1) (by omega)) (lmul (k := 4294967296) (len_sv (s := s2) h2) (len_sv (s := t2) g2) (by omega)) (by omega)) (lmul (k := 4294967296) (len_sv (s := s3) h3) (len_sv (s := t3) g3) (by omega)) (by omega)) (lmul (k := 4294967296) (len_sv (s := s4) h4) (len_sv (s := t4) g4) (by omega)) (by omega)
  have bT := lsub (k := 4294967299) (ladd (k := 4294967298) (ladd (k := 4294967297) (lmul (k := 4294967296) (len_sv (s := s1) h1) (len_sv (s := u1) j1) (by omega)) (lmul (k := 4294967296) (len_sv (s := s2) h2) (len_sv (s := u2) j2) (by omega)) (by omega)) (lmul (k := 4294967296) (len_sv (s := s3) h3) (len_sv (s := u3) j3) (by omega)) (by omega)) (lmul (k := 4294967296) (len_sv (s := s4) h4) (len_sv (s := u4) j4) (by omega)) (by omega)
  obtain ⟨S, eS⟩ : ∃ z, sv s1 l1 * sv t1 m1 + sv s2 l2 * sv t2 m2 + sv s3 l3 * sv t3 m3 - sv s4 l4 * sv t4 m4 = z := ⟨_, rfl⟩
  obtain ⟨T, eT⟩ : ∃ z, sv s1 l1 * sv u1 o1 + sv s2 l2 * sv u2 o2 + sv s3 l3 * sv u3 o3 - sv s4 l4 * sv u4 o4 = z := ⟨_, rfl⟩
  rw [eS] at hG bS
  rw [eT] at hG bT
  have a1 : l1.length ≤ 4294967296 := by omega
  have a2 : l2.length ≤ 4294967296 := by omega
  have a3 : l3.length ≤ 4294967296 := by omega
  have a4 : l4.length ≤ 4294967296 := by omega
  have b1 : m1.length ≤ 4294967296 := by omega
  have b2 : m2.length ≤ 4294967296 := by omega
  have b3 : m3.length ≤ 4294967296 := by omega
  have b4 : m4.length ≤ 4294967296 := by omega
  have c1 : o1.length ≤ 4294967296 := by omega
  have c2 : o2.length ≤ 4294967296 := by omega
  have c3 : o3.length ≤ 4294967296 := by omega
  have c4 : o4.length ≤ 4294967296 := by omega
  have b1' : m1.length ≤ 17179869184 := by omega
  have b2' : m2.length ≤ 17179869184 := by omega
  have b3' : m3.length ≤ 17179869184 := by omega
  have b4' : m4.length ≤ 17179869184 := by omega
  have c1' : o1.length ≤ 17179869184 := by omega
  have c2' : o2.length ≤ 17179869184 := by omega
  have c3' : o3.length ≤ 17179869184 := by omega
  have c4' : o4.length ≤ 17179869184 := by omega
  have bS' := lle (k := 17179869184) bS (by omega)
  have bT' := lle (k := 17179869184) bT (by omega)
  have X1 := lsub (k := 34359738368) (lmul (k := 12884901888) (len_sv (s := t1) g1) bT (by omega)) (lmul (k := 12884901888) (len_sv (s := u1) j1) bS (by omega)) (by omega)
  have X2 := lsub (k := 34359738368) (lmul (k := 12884901888) (len_sv (s := t2) g2) bT (by omega)) (lmul (k := 12884901888) (len_sv (s := u2) j2) bS (by omega)) (by omega)
  have X3 := lsub (k := 34359738368) (lmul (k := 12884901888) (len_sv (s := t3) g3) bT (by omega)) (lmul (k := 12884901888) (len_sv (s := u3) j3) bS (by omega)) (by omega)
  have X4 := lsub (k := 34359738368) (lmul (k := 12884901888) (len_sv (s := t4) g4) bT (by omega)) (lmul (k := 12884901888) (len_sv (s := u4) j4) bS (by omega)) (by omega)
  have zl0 : (bl (Int.natAbs 0)).length ≤ 34359738368 := by rw [show Int.natAbs 0 = 0 from rfl, bl_zero]; exact Nat.zero_le _
  have zs0 : sv false (bl (Int.natAbs 0)) = 0 := by rw [sv_bl]; rfl
  split at hG
  · rename_i hw
    cases hG
    refine ⟨rfl, by simp, ?_⟩
    simp only [c15, initT, List.zipIdx_cons, List.zipIdx_nil, List.map_cons, List.map_nil, Nat.reduceAdd]
    simp only [↓R0, R1, rdL, rdH, isCall, istep, ibin, vcells, fillI, setR, flat, okCell, isBase, List.set, List.drop, List.take, List.append, bnds, bhi, blo, srcOf, simprocAttr, -Int.reduceAbs, ceq, hc, spXAbove, a1, a2, a3, a4, b1, b2, b3, b4, c1, c2, c3, c4, b1', b2', b3', b4', c1', c2', c3', c4', eS, eT, bS', bT', callF, rdS, spXBetw, X1, X2, X3, X4, spXMade, hw, zl0, zs0, Int.lt_irrefl, pZ, pE, Fin, isEnd, resL, res1, iE, rE]
    exact ⟨_, rfl, rfl, fun k hk => by simp only [ne_nb hk, if_false]⟩
  · rename_i hw
    cases hG
    refine ⟨rfl, by simp, ?_⟩
    simp only [c15, initT, List.zipIdx_cons, List.zipIdx_nil, List.map_cons, List.map_nil, Nat.reduceAdd]
    simp only [↓R0, R1, rdL, rdH, isCall, istep, ibin, vcells, fillI, setR, flat, okCell, isBase, List.set, List.drop, List.take, List.append, bnds, bhi, blo, srcOf, simprocAttr, -Int.reduceAbs, ceq, hc, spXAbove, a1, a2, a3, a4, b1, b2, b3, b4, c1, c2, c3, c4, b1', b2', b3', b4', c1', c2', c3', c4', eS, eT, bS', bT', callF, rdS, spXBetw, X1, X2, X3, X4, spXMade, hw, zl0, zs0, Int.lt_irrefl, pZ, pE, Fin, isEnd, resL, res1, iE, rE]
    exact ⟨_, rfl, rfl, fun k hk => by simp only [ne_nb hk, if_false]⟩
end Go.Eng
end
