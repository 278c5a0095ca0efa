/-
  A part of the proof: the machine, the contracts of the functions and the plain laws, merged from smaller texts.
-/
import Derived.Test.YtcmhlhgddifpeaaGreatDoorPl5
import Derived.RowKit3
import Derived.ChangeSame
section
set_option linter.unusedVariables false
set_option linter.unusedSimpArgs false
set_option linter.unusedSectionVars false
set_option maxRecDepth 20000
namespace Go.Eng
open Go Go.Proofs Go.IntWalk
def spXAbove : List Value → Option Value
  | [.agg ⟨[.bool s1, .string ⟨⟨l1⟩⟩, .bool s2, .string ⟨⟨l2⟩⟩, .bool s3, .string ⟨⟨l3⟩⟩, .bool s4, .string ⟨⟨l4⟩⟩]⟩, .agg ⟨[.bool t1, .string ⟨⟨m1⟩⟩, .bool t2, .string ⟨⟨m2⟩⟩, .bool t3, .string ⟨⟨m3⟩⟩, .bool t4, .string ⟨⟨m4⟩⟩]⟩] =>
    if l1.length ≤ 4294967296 ∧ l2.length ≤ 4294967296 ∧ l3.length ≤ 4294967296 ∧ l4.length ≤ 4294967296 ∧ m1.length ≤ 4294967296 ∧ m2.length ≤ 4294967296 ∧ m3.length ≤ 4294967296 ∧ m4.length ≤ 4294967296 then
      some (.agg ⟨iE (sv s1 l1 * sv t1 m1 + sv s2 l2 * sv t2 m2 + sv s3 l3 * sv t3 m3 - sv s4 l4 * sv t4 m4)⟩) else none
  | _ => none
def c52 : ICode :=
  (.seq (.reg [⟨(some 2), none, (.box 25 8 (.t 0))⟩, ⟨(some 3), none, (.box 30 8 (.t 1))⟩, ⟨(some 4), none, (.alloc 23 2 [(.bool false), (.string ⟨⟨[]⟩⟩)])⟩])
  (.seq (.dreg [⟨(some 5), none, [], (.load true 8 (.t 2))⟩, ⟨(some 6), none, [], (.call 33 [(.t 5)])⟩, ⟨(some 7), none, [], (.faddr 0 (.t 3))⟩, ⟨(some 8), none, [1], (.load true 2 (.t 7))⟩, ⟨(some 9), none, [], (.faddr 2 (.t 3))⟩, ⟨(some 10), none, [1], (.load true 2 (.t 9))⟩, ⟨(some 11), none, [], (.faddr 4 (.t 3))⟩, ⟨(some 12), none, [1], (.load true 2 (.t 11))⟩, ⟨(some 13), none, [], (.build [(.bool false), (.string ⟨⟨[]⟩⟩), (.bool false), (.string ⟨⟨[]⟩⟩), (.bool false), (.string ⟨⟨[]⟩⟩)] [(0, 2, (.t 8)), (2, 2, (.t 10)), (4, 2, (.t 12))])⟩, ⟨(some 14), none, [], (.call 37 [(.t 6), (.t 13)])⟩, ⟨(some 15), none, [], (.faddr 6 (.t 2))⟩, ⟨(some 16), none, [1, 9], (.load true 2 (.t 15))⟩, ⟨(some 17), none, [], (.faddr 6 (.t 3))⟩, ⟨(some 18), none, [1, 9], (.load true 2 (.t 17))⟩, ⟨(some 19), none, [], (.call 35 [(.t 16), (.t 18)])⟩, ⟨(some 20), none, [], (.call 54 [(.t 14), (.t 19)])⟩, ⟨none, none, [], (.store 2 (.t 4) (.t 20))⟩])
  .ret))
theorem tr52 : trFun Tryz.prog 52 = some ⟨21, [.cell 4 true 2], c52⟩ := by kernel_rfl
set_option maxHeartbeats 2000000 in
theorem ok_xAbove : SpecOK Tryz.prog 52 (flat spXAbove) := by
  refine flat_run (env_cons ok_xNormal (env_cons ok_xDot (env_cons ok_iMul (env_cons ok_iSub (env_nil _))))) mixed tr52 ?_
  intro args v h N hG
  unfold spXAbove at hG
  split at hG
  case h_2 => cases hG
  rename_i s1 l1 s2 l2 s3 l3 s4 l4 t1 m1 t2 m2 t3 m3 t4 m4
  split at hG
  case isFalse => cases hG
  rename_i hl
  obtain ⟨h1, h2, h3, h4, g1, g2, g3, g4⟩ := hl
  cases hG
  refine ⟨rfl, by simp, ?_⟩
  have a1 : l1.length ≤ 17179869184 := by omega
  have a2 : l2.length ≤ 17179869184 := by omega
  have a3 : l3.length ≤ 17179869184 := by omega
  have a4 : l4.length ≤ 34359738368 := by omega
  have b1 : m1.length ≤ 17179869184 := by omega
  have b2 : m2.length ≤ 17179869184 := by omega
  have b3 : m3.length ≤ 17179869184 := by omega
  have b4 : m4.length ≤ 34359738368 := by omega
  have p1 := lmul (k := 8589934592) (len_sv (s := s1) h1) (len_sv (s := t1) g1) (by omega)
  have p2 := lmul (k := 8589934592) (len_sv (s := s2) h2) (len_sv (s := t2) g2) (by omega)
  have p3 := lmul (k := 8589934592) (len_sv (s := s3) h3) (len_sv (s := t3) g3) (by omega)
  have p4 := lmul (k := 68719476736) (len_sv (s := s4) h4) (len_sv (s := t4) g4) (by omega)
  have q1 := ladd (k := 68719476736) (ladd (k := 8589934593) p1 p2 (by omega)) p3 (by omega)
  simp only [c52, initT, List.zipIdx_cons, List.zipIdx_nil, List.map_cons, List.map_nil, Nat.reduceAdd]
  simp only [↓R0, R1, rdL, rdH, isCall, istep, ibin, vcells, fillI, setR, flat, okCell, isBase, List.set, List.drop, List.take, List.append, bnds, bhi, blo, srcOf, ↓reduceIte, Nat.reduceEqDiff, Nat.reduceAdd, Nat.reduceLeDiff, reduceCtorEq, Nat.reduceSub, Int.reduceEq, Int.reduceLT, Int.reduceLE, Int.reduceGT, Int.reduceGE, Int.reduceSub, Int.reduceAdd, Int.reduceMul, Int.reduceNe, Int.reduceNeg, Int.reduceToNat, Nat.reduceMul, spXNormal, spXDot, spIMul, spISub, a1, a2, a3, a4, b1, b2, b3, b4, p4, q1, Fin, isEnd, resL, res1, iE, rE]
  exact ⟨_, rfl, rfl, fun k hk => by simp only [ne_nb hk, if_false]⟩
def spXBetw : List Value → Heap → Option Value
  | [.agg ⟨[.bool s1, .string ⟨⟨l1⟩⟩]⟩, .agg ⟨[.bool s2, .string ⟨⟨l2⟩⟩]⟩, .pointer (some ⟨k, 0, none⟩), .pointer (some ⟨k', 0, none⟩)], h => match hget h k, hget h k' with
    | some ⟨_, _, _, [.bool t1, .string ⟨⟨m1⟩⟩]⟩, some ⟨_, _, _, [.bool t2, .string ⟨⟨m2⟩⟩]⟩ =>
      if l1.length ≤ 17179869184 ∧ l2.length ≤ 17179869184 ∧ m1.length ≤ 17179869184 ∧ m2.length ≤ 17179869184 then some (.agg ⟨iE (sv s1 l1 * sv t1 m1 - sv s2 l2 * sv t2 m2)⟩) else none
    | _, _ => none
  | _, _ => none
def c53 : ICode :=
  (.seq (.reg [⟨(some 4), none, (.box 23 2 (.t 0))⟩, ⟨(some 5), none, (.box 23 2 (.t 1))⟩, ⟨(some 6), none, (.alloc 23 2 [(.bool false), (.string ⟨⟨[]⟩⟩)])⟩])
  (.seq (.dreg [⟨(some 7), none, [], (.load true 2 (.t 4))⟩, ⟨(some 8), none, [], (.load true 2 (.t 2))⟩, ⟨(some 9), none, [], (.call 35 [(.t 7), (.t 8)])⟩, ⟨(some 10), none, [2], (.load true 2 (.t 5))⟩, ⟨(some 11), none, [2], (.load true 2 (.t 3))⟩, ⟨(some 12), none, [], (.call 35 [(.t 10), (.t 11)])⟩, ⟨(some 13), none, [], (.call 54 [(.t 9), (.t 12)])⟩, ⟨none, none, [], (.store 2 (.t 6) (.t 13))⟩])
  .ret))
theorem tr53 : trFun Tryz.prog 53 = some ⟨14, [.cell 6 true 2], c53⟩ := by kernel_rfl
theorem ok_xBetw : SpecOK Tryz.prog 53 (rdS spXBetw) := by
  refine rd_run (env_cons ok_iMul (env_cons ok_iSub (env_nil _))) mixed tr53 ?_ ?_
  · intro args h h' v hle e
    unfold spXBetw at e ⊢
    split at e
    · split at e
      · rename_i b1 b2
        simp only [hle _ _ b1, hle _ _ b2]; exact e
      · cases e
    · cases e
  intro args v h N hG hN
  unfold spXBetw at hG
  split at hG
  case h_2 => cases hG
  rename_i s1 l1 s2 l2 k k'
  split at hG
  case h_2 => cases hG
  rename_i e1 z1 x1 t1 m1 e2 z2 x2 t2 m2 hb1 hb2
  split at hG
  case isFalse => cases hG
  rename_i hl
  obtain ⟨h1, h2, h3, h4⟩ := hl
  cases hG
  refine ⟨rfl, by simp, ?_⟩
  have k1 := hN _ _ hb1
  have k2 := hN _ _ hb2
  have ne1 : ∀ j, (N + j = k) = False := fun j => eq_false (by omega)
  have ne2 : ∀ j, (N + j = k') = False := fun j => eq_false (by omega)
  have a1 : l1.length ≤ 34359738368 := by omega
  have a2 : l2.length ≤ 34359738368 := by omega
  have b1 : m1.length ≤ 34359738368 := by omega
  have b2 : m2.length ≤ 34359738368 := by omega
  have p1 := lmul (k := 68719476736) (len_sv (s := s1) h1) (len_sv (s := t1) h3) (by omega)
  have p2 := lmul (k := 68719476736) (len_sv (s := s2) h2) (len_sv (s := t2) h4) (by omega)
  simp only [c53, initT, List.zipIdx_cons, List.zipIdx_nil, List.map_cons, List.map_nil, Nat.reduceAdd]
  simp only [↓R0, R1, rdL, rdH, isCall, istep, ibin, vcells, fillI, setR, flat, okCell, isBase, List.set, List.drop, List.take, List.append, bnds, bhi, blo, srcOf, ↓reduceIte, Nat.reduceEqDiff, Nat.reduceAdd, Nat.reduceLeDiff, reduceCtorEq, Nat.reduceSub, Int.reduceEq, Int.reduceLT, Int.reduceLE, Int.reduceGT, Int.reduceGE, Int.reduceSub, Int.reduceAdd, Int.reduceMul, Int.reduceNe, Int.reduceNeg, Int.reduceToNat, Nat.reduceMul, ne1, ne2, hb1, hb2, spIMul, spISub, a1, a2, b1, b2, p1, p2, Fin, isEnd, resL, res1, iE, rE]
  exact ⟨_, rfl, rfl, fun k hk => by simp only [ne_nb hk, if_false]⟩
def spXLine : List Value → Option Value
  | [.agg ⟨[.bool s1, .string ⟨⟨l1⟩⟩, .bool s2, .string ⟨⟨l2⟩⟩, .bool s3, .string ⟨⟨l3⟩⟩, .bool s4, .string ⟨⟨l4⟩⟩]⟩, .agg ⟨[.bool t1, .string ⟨⟨m1⟩⟩, .bool t2, .string ⟨⟨m2⟩⟩, .bool t3, .string ⟨⟨m3⟩⟩, .bool t4, .string ⟨⟨m4⟩⟩]⟩,
      .agg ⟨[.bool u1, .string ⟨⟨o1⟩⟩, .bool u2, .string ⟨⟨o2⟩⟩, .bool u3, .string ⟨⟨o3⟩⟩, .bool u4, .string ⟨⟨o4⟩⟩]⟩] =>
    if l1.length ≤ 2147483648 ∧ l2.length ≤ 2147483648 ∧ l3.length ≤ 2147483648 ∧ l4.length ≤ 2147483648 ∧ m1.length ≤ 2147483648 ∧ m2.length ≤ 2147483648 ∧ m3.length ≤ 2147483648 ∧ m4.length ≤ 2147483648 ∧
      o1.length ≤ 2147483648 ∧ o2.length ≤ 2147483648 ∧ o3.length ≤ 2147483648 ∧ o4.length ≤ 2147483648 then
      (if t1 = u1 ∧ m1 = o1 ∧ t2 = u2 ∧ m2 = o2 ∧ t3 = u3 ∧ m3 = o3 ∧ t4 = u4 ∧ m4 = o4 then some (.tuple ⟨[.agg ⟨pZ⟩, .bool false]⟩) else
      if sv t4 m4 * (sv s1 l1 * sv u1 o1 + sv s2 l2 * sv u2 o2 + sv s3 l3 * sv u3 o3 - sv s4 l4 * sv u4 o4) - sv u4 o4 * (sv s1 l1 * sv t1 m1 + sv s2 l2 * sv t2 m2 + sv s3 l3 * sv t3 m3 - sv s4 l4 * sv t4 m4) = 0 then some (.tuple ⟨[.agg ⟨pZ⟩, .bool false]⟩) else
      some (.tuple ⟨[.agg ⟨pE (sv t1 m1 * (sv s1 l1 * sv u1 o1 + sv s2 l2 * sv u2 o2 + sv s3 l3 * sv u3 o3 - sv s4 l4 * sv u4 o4) - sv u1 o1 * (sv s1 l1 * sv t1 m1 + sv s2 l2 * sv t2 m2 + sv s3 l3 * sv t3 m3 - sv s4 l4 * sv t4 m4))
        (sv t2 m2 * (sv s1 l1 * sv u1 o1 + sv s2 l2 * sv u2 o2 + sv s3 l3 * sv u3 o3 - sv s4 l4 * sv u4 o4) - sv u2 o2 * (sv s1 l1 * sv t1 m1 + sv s2 l2 * sv t2 m2 + sv s3 l3 * sv t3 m3 - sv s4 l4 * sv t4 m4))
        (sv t3 m3 * (sv s1 l1 * sv u1 o1 + sv s2 l2 * sv u2 o2 + sv s3 l3 * sv u3 o3 - sv s4 l4 * sv u4 o4) - sv u3 o3 * (sv s1 l1 * sv t1 m1 + sv s2 l2 * sv t2 m2 + sv s3 l3 * sv t3 m3 - sv s4 l4 * sv t4 m4))
        (sv t4 m4 * (sv s1 l1 * sv u1 o1 + sv s2 l2 * sv u2 o2 + sv s3 l3 * sv u3 o3 - sv s4 l4 * sv u4 o4) - sv u4 o4 * (sv s1 l1 * sv t1 m1 + sv s2 l2 * sv t2 m2 + sv s3 l3 * sv t3 m3 - sv s4 l4 * sv t4 m4))⟩, .bool true]⟩)) else none
  | _ => none
def c15 : ICode :=
  (.seq (.reg [⟨(some 3), none, (.box 25 8 (.t 0))⟩, ⟨(some 4), none, (.box 30 8 (.t 1))⟩, ⟨(some 5), none, (.box 30 8 (.t 2))⟩, ⟨(some 6), none, (.alloc 30 8 [(.bool false), (.string ⟨⟨[]⟩⟩), (.bool false), (.string ⟨⟨[]⟩⟩), (.bool false), (.string ⟨⟨[]⟩⟩), (.bool false), (.string ⟨⟨[]⟩⟩)])⟩, ⟨(some 7), none, (.mv (.c (.bool false)))⟩])
  (.seq (.seq (.reg [⟨(some 11), none, (.load true 8 (.t 4))⟩, ⟨(some 12), none, (.load true 8 (.t 5))⟩, ⟨(some 13), none, (.eqa false [.b, .s, .b, .s, .b, .s, .b, .s] (.t 11) (.t 12))⟩])
  (.cond (.t 13)
  (.seq (.reg [⟨(some 14), none, (.build [(.bool false), (.string ⟨⟨[]⟩⟩), (.bool false), (.string ⟨⟨[]⟩⟩), (.bool false), (.string ⟨⟨[]⟩⟩), (.bool false), (.string ⟨⟨[]⟩⟩)] [])⟩, ⟨none, none, (.store 8 (.t 6) (.t 14))⟩, ⟨(some 7), none, (.mv (.c (.bool false)))⟩])
  .ret)
  .skip))
  (.seq (.dreg [⟨(some 15), none, [], (.load true 8 (.t 3))⟩, ⟨(some 16), none, [], (.load true 8 (.t 4))⟩, ⟨(some 17), none, [], (.call 52 [(.t 15), (.t 16)])⟩, ⟨(some 18), none, [2], (.load true 8 (.t 3))⟩, ⟨(some 19), none, [2], (.load true 8 (.t 5))⟩, ⟨(some 20), none, [], (.call 52 [(.t 18), (.t 19)])⟩, ⟨(some 8), none, [], (.alloc 23 2 [(.bool false), (.string ⟨⟨[]⟩⟩)])⟩, ⟨(some 9), none, [], (.alloc 23 2 [(.bool false), (.string ⟨⟨[]⟩⟩)])⟩, ⟨none, none, [], (.store 2 (.t 8) (.t 17))⟩, ⟨none, none, [], (.store 2 (.t 9) (.t 20))⟩])
  (.seq (.reg [⟨(some 21), none, (.mkfn 53 [(.t 9), (.t 8)])⟩, ⟨(some 10), none, (.mv (.t 21))⟩])
  (.seq (.dreg [⟨(some 22), none, [], (.mv (.t 10))⟩, ⟨(some 23), none, [], (.faddr 0 (.t 4))⟩, ⟨(some 24), none, [], (.load true 2 (.t 23))⟩, ⟨(some 25), none, [], (.faddr 0 (.t 5))⟩, ⟨(some 26), none, [], (.load true 2 (.t 25))⟩, ⟨(some 27), none, [], (.callv (.t 22) [(.t 24), (.t 26)])⟩, ⟨(some 28), none, [], (.mv (.t 10))⟩, ⟨(some 29), none, [], (.faddr 2 (.t 4))⟩, ⟨(some 30), none, [5], (.load true 2 (.t 29))⟩, ⟨(some 31), none, [], (.faddr 2 (.t 5))⟩, ⟨(some 32), none, [5], (.load true 2 (.t 31))⟩, ⟨(some 33), none, [], (.callv (.t 28) [(.t 30), (.t 32)])⟩, ⟨(some 34), none, [], (.mv (.t 10))⟩, ⟨(some 35), none, [], (.faddr 4 (.t 4))⟩, ⟨(some 36), none, [5, 11], (.load true 2 (.t 35))⟩, ⟨(some 37), none, [], (.faddr 4 (.t 5))⟩, ⟨(some 38), none, [5, 11], (.load true 2 (.t 37))⟩, ⟨(some 39), none, [], (.callv (.t 34) [(.t 36), (.t 38)])⟩, ⟨(some 40), none, [], (.build [(.bool false), (.string ⟨⟨[]⟩⟩), (.bool false), (.string ⟨⟨[]⟩⟩), (.bool false), (.string ⟨⟨[]⟩⟩)] [(0, 2, (.t 27)), (2, 2, (.t 33)), (4, 2, (.t 39))])⟩, ⟨(some 41), none, [], (.mv (.t 10))⟩, ⟨(some 42), none, [], (.faddr 6 (.t 4))⟩, ⟨(some 43), none, [5, 11, 17], (.load true 2 (.t 42))⟩, ⟨(some 44), none, [], (.faddr 6 (.t 5))⟩, ⟨(some 45), none, [5, 11, 17], (.load true 2 (.t 44))⟩, ⟨(some 46), none, [], (.callv (.t 41) [(.t 43), (.t 45)])⟩, ⟨(some 47), none, [], (.call 36 [(.t 40), (.t 46)])⟩, ⟨(some 48), none, [], (.ext (.t 47) 0)⟩, ⟨(some 49), none, [], (.ext (.t 47) 1)⟩, ⟨none, none, [], (.store 8 (.t 6) (.t 48))⟩, ⟨(some 7), none, [], (.mv (.t 49))⟩])
  .ret)))))
theorem tr15 : trFun Tryz.prog 15 = some ⟨50, [.cell 6 true 8, .t 7], c15⟩ := by kernel_rfl
set_option maxHeartbeats 8000000 in
theorem ok_xLine : SpecOK Tryz.prog 15 (flat spXLine) := by
  refine flat_run (env_cons ok_xAbove (env_cons ok_xBetw (env_cons ok_xMade (env_nil _)))) mixed tr15 ?_
  intro args v h N hG
  unfold spXLine at hG
  split at hG
  case h_2 => cases hG
  rename_i s1 l1 s2 l2 s3 l3 s4 l4 t1 m1 t2 m2 t3 m3 t4 m4 u1 o1 u2 o2 u3 o3 u4 o4
  split at hG
  case isFalse => cases hG
  rename_i hl
  obtain ⟨h1, h2, h3, h4, g1, g2, g3, g4, j1, j2, j3, j4⟩ := hl
  split at hG
  · rename_i heq
    obtain ⟨rfl, rfl, rfl, rfl, rfl, rfl, rfl, rfl⟩ := heq
    cases hG
    refine ⟨rfl, by simp, ?_⟩
    simp only [c15, initT, List.zipIdx_cons, List.zipIdx_nil, List.map_cons, List.map_nil, Nat.reduceAdd]
    simp only [↓R0, R1, rdL, rdH, isCall, istep, ibin, vcells, fillI, setR, flat, okCell, isBase, List.set, List.drop, List.take, List.append, bnds, bhi, blo, srcOf, ↓reduceIte, Nat.reduceEqDiff, Nat.reduceAdd, Nat.reduceLeDiff, reduceCtorEq, Nat.reduceSub, Int.reduceEq, Int.reduceLT, Int.reduceLE, Int.reduceGT, Int.reduceGE, Int.reduceSub, Int.reduceAdd, Int.reduceMul, Int.reduceNe, Int.reduceNeg, Int.reduceToNat, Nat.reduceMul, ceq, pZ, Fin, isEnd, resL, res1, iE, rE]
    exact ⟨_, rfl, rfl, fun k hk => by simp only [ne_nb hk, if_false]⟩
  rename_i hne
  have hc : (decide (t1 = u1) && (decide (m1 = o1) && (decide (t2 = u2) && (decide (m2 = o2) && (decide (t3 = u3) && (decide (m3 = o3) && (decide (t4 = u4) && decide (m4 = o4)))))))) = false := by
    cases hb : (decide (t1 = u1) && (decide (m1 = o1) && (decide (t2 = u2) && (decide (m2 = o2) && (decide (t3 = u3) && (decide (m3 = o3) && (decide (t4 = u4) && decide (m4 = o4)))))))) with
    | false => rfl
    | true => simp only [Bool.and_eq_true, decide_eq_true_eq] at hb; exact absurd hb hne
  have bS := lsub (k := 4294967299) (ladd (k := 4294967298) (ladd (k := 4294967297) (lmul (k := 4294967296) (len_sv (s := s1) h1) (len_sv (s := t1) g1) (by omega)) (lmul (k := 4294967296) (len_sv (s := s2) h2) (len_sv (s := t2) g2) (by omega)) (by omega)) (lmul (k := 4294967296) (len_sv (s := s3) h3) (len_sv (s := t3) g3) (by omega)) (by omega)) (lmul (k := 4294967296) (len_sv (s := s4) h4) (len_sv (s := t4) g4) (by omega)) (by omega)
  have bT := lsub (k := 4294967299) (ladd (k := 4294967298) (ladd (k := 4294967297) (lmul (k := 4294967296) (len_sv (s := s1) h1) (len_sv (s := u1) j1) (by omega)) (lmul (k := 4294967296) (len_sv (s := s2) h2) (len_sv (s := u2) j2) (by omega)) (by omega)) (lmul (k := 4294967296) (len_sv (s := s3) h3) (len_sv (s := u3) j3) (by omega)) (by omega)) (lmul (k := 4294967296) (len_sv (s := s4) h4) (len_sv (s := u4) j4) (by omega)) (by omega)
  obtain ⟨S, eS⟩ : ∃ z, sv s1 l1 * sv t1 m1 + sv s2 l2 * sv t2 m2 + sv s3 l3 * sv t3 m3 - sv s4 l4 * sv t4 m4 = z := ⟨_, rfl⟩
  obtain ⟨T, eT⟩ : ∃ z, sv s1 l1 * sv u1 o1 + sv s2 l2 * sv u2 o2 + sv s3 l3 * sv u3 o3 - sv s4 l4 * sv u4 o4 = z := ⟨_, rfl⟩
  rw [eS] at hG bS
  rw [eT] at hG bT
  have a1 : l1.length ≤ 4294967296 := by omega
  have a2 : l2.length ≤ 4294967296 := by omega
  have a3 : l3.length ≤ 4294967296 := by omega
  have a4 : l4.length ≤ 4294967296 := by omega
  have b1 : m1.length ≤ 4294967296 := by omega
  have b2 : m2.length ≤ 4294967296 := by omega
  have b3 : m3.length ≤ 4294967296 := by omega
  have b4 : m4.length ≤ 4294967296 := by omega
  have c1 : o1.length ≤ 4294967296 := by omega
  have c2 : o2.length ≤ 4294967296 := by omega
  have c3 : o3.length ≤ 4294967296 := by omega
  have c4 : o4.length ≤ 4294967296 := by omega
  have b1' : m1.length ≤ 17179869184 := by omega
  have b2' : m2.length ≤ 17179869184 := by omega
  have b3' : m3.length ≤ 17179869184 := by omega
  have b4' : m4.length ≤ 17179869184 := by omega
  have c1' : o1.length ≤ 17179869184 := by omega
  have c2' : o2.length ≤ 17179869184 := by omega
  have c3' : o3.length ≤ 17179869184 := by omega
  have c4' : o4.length ≤ 17179869184 := by omega
  have bS' := lle (k := 17179869184) bS (by omega)
  have bT' := lle (k := 17179869184) bT (by omega)
  have X1 := lsub (k := 34359738368) (lmul (k := 12884901888) (len_sv (s := t1) g1) bT (by omega)) (lmul (k := 12884901888) (len_sv (s := u1) j1) bS (by omega)) (by omega)
  have X2 := lsub (k := 34359738368) (lmul (k := 12884901888) (len_sv (s := t2) g2) bT (by omega)) (lmul (k := 12884901888) (len_sv (s := u2) j2) bS (by omega)) (by omega)
  have X3 := lsub (k := 34359738368) (lmul (k := 12884901888) (len_sv (s := t3) g3) bT (by omega)) (lmul (k := 12884901888) (len_sv (s := u3) j3) bS (by omega)) (by omega)
  have X4 := lsub (k := 34359738368) (lmul (k := 12884901888) (len_sv (s := t4) g4) bT (by omega)) (lmul (k := 12884901888) (len_sv (s := u4) j4) bS (by omega)) (by omega)
  have zl0 : (bl (Int.natAbs 0)).length ≤ 34359738368 := by rw [show Int.natAbs 0 = 0 from rfl, bl_zero]; exact Nat.zero_le _
  have zs0 : sv false (bl (Int.natAbs 0)) = 0 := by rw [sv_bl]; rfl
  split at hG
  · rename_i hw
    cases hG
    refine ⟨rfl, by simp, ?_⟩
    simp only [c15, initT, List.zipIdx_cons, List.zipIdx_nil, List.map_cons, List.map_nil, Nat.reduceAdd]
    simp only [↓R0, R1, rdL, rdH, isCall, istep, ibin, vcells, fillI, setR, flat, okCell, isBase, List.set, List.drop, List.take, List.append, bnds, bhi, blo, srcOf, ↓reduceIte, Nat.reduceEqDiff, Nat.reduceAdd, Nat.reduceLeDiff, reduceCtorEq, Nat.reduceSub, Int.reduceEq, Int.reduceLT, Int.reduceLE, Int.reduceGT, Int.reduceGE, Int.reduceSub, Int.reduceAdd, Int.reduceMul, Int.reduceNe, Int.reduceNeg, Int.reduceToNat, Nat.reduceMul, ceq, hc, spXAbove, a1, a2, a3, a4, b1, b2, b3, b4, c1, c2, c3, c4, b1', b2', b3', b4', c1', c2', c3', c4', eS, eT, bS', bT', callF, rdS, spXBetw, X1, X2, X3, X4, spXMade, hw, zl0, zs0, Int.lt_irrefl, pZ, pE, Fin, isEnd, resL, res1, iE, rE]
    exact ⟨_, rfl, rfl, fun k hk => by simp only [ne_nb hk, if_false]⟩
  · rename_i hw
    cases hG
    refine ⟨rfl, by simp, ?_⟩
    simp only [c15, initT, List.zipIdx_cons, List.zipIdx_nil, List.map_cons, List.map_nil, Nat.reduceAdd]
    simp only [↓R0, R1, rdL, rdH, isCall, istep, ibin, vcells, fillI, setR, flat, okCell, isBase, List.set, List.drop, List.take, List.append, bnds, bhi, blo, srcOf, ↓reduceIte, Nat.reduceEqDiff, Nat.reduceAdd, Nat.reduceLeDiff, reduceCtorEq, Nat.reduceSub, Int.reduceEq, Int.reduceLT, Int.reduceLE, Int.reduceGT, Int.reduceGE, Int.reduceSub, Int.reduceAdd, Int.reduceMul, Int.reduceNe, Int.reduceNeg, Int.reduceToNat, Nat.reduceMul, ceq, hc, spXAbove, a1, a2, a3, a4, b1, b2, b3, b4, c1, c2, c3, c4, b1', b2', b3', b4', c1', c2', c3', c4', eS, eT, bS', bT', callF, rdS, spXBetw, X1, X2, X3, X4, spXMade, hw, zl0, zs0, Int.lt_irrefl, pZ, pE, Fin, isEnd, resL, res1, iE, rE]
    exact ⟨_, rfl, rfl, fun k hk => by simp only [ne_nb hk, if_false]⟩
end Go.Eng
end
section
set_option linter.unusedVariables false
set_option linter.unusedSimpArgs false
set_option linter.unusedSectionVars false
set_option maxRecDepth 20000
namespace Go.Eng
open Go Go.Proofs Go.IntWalk
def spLFlat : List Value → Option Value
  | [.int .i64 a, .int .i64 b, .int .i64 c, .int .i64 d] => if (-9223372036854775808 ≤ a ∧ a ≤ 9223372036854775807) ∧ (-9223372036854775808 ≤ b ∧ b ≤ 9223372036854775807) ∧ (-9223372036854775808 ≤ c ∧ c ≤ 9223372036854775807) ∧ (-9223372036854775808 ≤ d ∧ d ≤ 9223372036854775807) then
      some (.agg ⟨iE a ++ iE b ++ iE c ++ iE d⟩) else none
  | _ => none
def c30 : ICode :=
  (.seq (.reg [⟨(some 8), none, (.alloc 25 8 [(.bool false), (.string ⟨⟨[]⟩⟩), (.bool false), (.string ⟨⟨[]⟩⟩), (.bool false), (.string ⟨⟨[]⟩⟩), (.bool false), (.string ⟨⟨[]⟩⟩)])⟩])
  (.seq (.reg [⟨(some 9), none, (.mv (.t 0))⟩, ⟨(some 10), none, (.call 26 [(.t 9)])⟩, ⟨(some 11), none, (.mv (.t 1))⟩, ⟨(some 12), none, (.call 26 [(.t 11)])⟩, ⟨(some 13), none, (.mv (.t 2))⟩, ⟨(some 14), none, (.call 26 [(.t 13)])⟩, ⟨(some 15), none, (.mv (.t 3))⟩, ⟨(some 16), none, (.call 26 [(.t 15)])⟩, ⟨(some 17), none, (.build [(.bool false), (.string ⟨⟨[]⟩⟩), (.bool false), (.string ⟨⟨[]⟩⟩), (.bool false), (.string ⟨⟨[]⟩⟩), (.bool false), (.string ⟨⟨[]⟩⟩)] [(0, 2, (.t 10)), (2, 2, (.t 12)), (4, 2, (.t 14)), (6, 2, (.t 16))])⟩, ⟨none, none, (.store 8 (.t 8) (.t 17))⟩])
  .ret))
theorem tr30 : trFun Tryz.prog 30 = some ⟨18, [.cell 8 true 8], c30⟩ := by kernel_rfl
theorem ok_lFlat : SpecOK Tryz.prog 30 (flat spLFlat) := by
  refine flat_run (env_cons ok_iFrom (env_nil _)) mixed tr30 ?_
  intro args v h N hG
  unfold spLFlat at hG
  split at hG
  case h_2 => cases hG
  rename_i a b c d
  split at hG
  case isFalse => cases hG
  rename_i hl
  obtain ⟨⟨h1, h2⟩, ⟨h3, h4⟩, ⟨h5, h6⟩, ⟨h7, h8⟩⟩ := hl
  cases hG
  refine ⟨rfl, by simp, ?_⟩
  simp only [c30, initT, List.zipIdx_cons, List.zipIdx_nil, List.map_cons, List.map_nil, Nat.reduceAdd]
  simp only [↓R0, R1, rdL, rdH, isCall, istep, ibin, vcells, fillI, setR, flat, okCell, isBase, List.set, List.drop, List.take, List.append, bnds, bhi, blo, srcOf, ↓reduceIte, Nat.reduceEqDiff, Nat.reduceAdd, Nat.reduceLeDiff, reduceCtorEq, Nat.reduceSub, Int.reduceEq, Int.reduceLT, Int.reduceLE, Int.reduceGT, Int.reduceGE, Int.reduceSub, Int.reduceAdd, Int.reduceMul, Int.reduceNe, Int.reduceNeg, Int.reduceToNat, Nat.reduceMul, spIFrom, h1, h2, h3, h4, h5, h6, h7, h8, Fin, isEnd, resL, res1, iE, rE]
  exact ⟨_, rfl, rfl, fun k hk => by simp only [ne_nb hk, if_false]⟩
def spLAt : List Value → Option Value
  | [.int .i64 a, .int .i64 b, .int .i64 c] => if (-9223372036854775808 ≤ a ∧ a ≤ 9223372036854775807) ∧ (-9223372036854775808 ≤ b ∧ b ≤ 9223372036854775807) ∧ (-9223372036854775808 ≤ c ∧ c ≤ 9223372036854775807) then
      some (.agg ⟨iE a ++ iE b ++ iE c ++ iE 1⟩) else none
  | _ => none
def c31 : ICode :=
  (.seq (.reg [⟨(some 6), none, (.alloc 30 8 [(.bool false), (.string ⟨⟨[]⟩⟩), (.bool false), (.string ⟨⟨[]⟩⟩), (.bool false), (.string ⟨⟨[]⟩⟩), (.bool false), (.string ⟨⟨[]⟩⟩)])⟩])
  (.seq (.reg [⟨(some 7), none, (.mv (.t 0))⟩, ⟨(some 8), none, (.call 26 [(.t 7)])⟩, ⟨(some 9), none, (.mv (.t 1))⟩, ⟨(some 10), none, (.call 26 [(.t 9)])⟩, ⟨(some 11), none, (.mv (.t 2))⟩, ⟨(some 12), none, (.call 26 [(.t 11)])⟩, ⟨(some 13), none, (.call 26 [(.c (.int .i64 1))])⟩, ⟨(some 14), none, (.build [(.bool false), (.string ⟨⟨[]⟩⟩), (.bool false), (.string ⟨⟨[]⟩⟩), (.bool false), (.string ⟨⟨[]⟩⟩), (.bool false), (.string ⟨⟨[]⟩⟩)] [(0, 2, (.t 8)), (2, 2, (.t 10)), (4, 2, (.t 12)), (6, 2, (.t 13))])⟩, ⟨none, none, (.store 8 (.t 6) (.t 14))⟩])
  .ret))
theorem tr31 : trFun Tryz.prog 31 = some ⟨15, [.cell 6 true 8], c31⟩ := by kernel_rfl
theorem ok_lAt : SpecOK Tryz.prog 31 (flat spLAt) := by
  refine flat_run (env_cons ok_iFrom (env_nil _)) mixed tr31 ?_
  intro args v h N hG
  unfold spLAt at hG
  split at hG
  case h_2 => cases hG
  rename_i a b c
  split at hG
  case isFalse => cases hG
  rename_i hl
  obtain ⟨⟨h1, h2⟩, ⟨h3, h4⟩, ⟨h5, h6⟩⟩ := hl
  cases hG
  refine ⟨rfl, by simp, ?_⟩
  simp only [c31, initT, List.zipIdx_cons, List.zipIdx_nil, List.map_cons, List.map_nil, Nat.reduceAdd]
  simp only [↓R0, R1, rdL, rdH, isCall, istep, ibin, vcells, fillI, setR, flat, okCell, isBase, List.set, List.drop, List.take, List.append, bnds, bhi, blo, srcOf, ↓reduceIte, Nat.reduceEqDiff, Nat.reduceAdd, Nat.reduceLeDiff, reduceCtorEq, Nat.reduceSub, Int.reduceEq, Int.reduceLT, Int.reduceLE, Int.reduceGT, Int.reduceGE, Int.reduceSub, Int.reduceAdd, Int.reduceMul, Int.reduceNe, Int.reduceNeg, Int.reduceToNat, Nat.reduceMul, spIFrom, h1, h2, h3, h4, h5, h6, Fin, isEnd, resL, res1, iE, rE]
  exact ⟨_, rfl, rfl, fun k hk => by simp only [ne_nb hk, if_false]⟩
theorem bl_small {n : Nat} (h0 : n ≠ 0) (h : n < 256) : bl n = [UInt8.ofNat n] := by
  rw [bl_pos h0, Nat.div_eq_of_lt h, bl_zero, Nat.mod_eq_of_lt h]
theorem iE_0 : iE 0 = [.bool false, .string ⟨⟨[]⟩⟩] := by unfold iE; rw [show Int.natAbs 0 = 0 from rfl, bl_zero]; rfl
theorem iE_1 : iE 1 = [.bool false, .string ⟨⟨[1]⟩⟩] := by unfold iE; rw [show Int.natAbs 1 = 1 from rfl, bl_small (by decide) (by decide)]; rfl
theorem iE_2 : iE 2 = [.bool false, .string ⟨⟨[2]⟩⟩] := by unfold iE; rw [show Int.natAbs 2 = 2 from rfl, bl_small (by decide) (by decide)]; rfl
theorem iE_3 : iE 3 = [.bool false, .string ⟨⟨[3]⟩⟩] := by unfold iE; rw [show Int.natAbs 3 = 3 from rfl, bl_small (by decide) (by decide)]; rfl
theorem iE_4 : iE 4 = [.bool false, .string ⟨⟨[4]⟩⟩] := by unfold iE; rw [show Int.natAbs 4 = 4 from rfl, bl_small (by decide) (by decide)]; rfl
def c4 (a b c d : List UInt8) : List Value := [.bool false, .string ⟨⟨a⟩⟩, .bool false, .string ⟨⟨b⟩⟩, .bool false, .string ⟨⟨c⟩⟩, .bool false, .string ⟨⟨d⟩⟩]
theorem fx1 : spLFlat [.int .i64 1, .int .i64 0, .int .i64 0, .int .i64 2] = some (.agg ⟨c4 [1] [] [] [2]⟩) := by
  unfold spLFlat; simp only; rw [if_pos (by decide), iE_1, iE_0, iE_2]; rfl
theorem fx2 : spLFlat [.int .i64 0, .int .i64 1, .int .i64 0, .int .i64 3] = some (.agg ⟨c4 [] [1] [] [3]⟩) := by
  unfold spLFlat; simp only; rw [if_pos (by decide), iE_1, iE_0, iE_3]; rfl
theorem fx3 : spLFlat [.int .i64 0, .int .i64 0, .int .i64 1, .int .i64 4] = some (.agg ⟨c4 [] [] [1] [4]⟩) := by
  unfold spLFlat; simp only; rw [if_pos (by decide), iE_1, iE_0, iE_4]; rfl
theorem fx4 : spLFlat [.int .i64 0, .int .i64 0, .int .i64 1, .int .i64 1] = some (.agg ⟨c4 [] [] [1] [1]⟩) := by
  unfold spLFlat; simp only; rw [if_pos (by decide), iE_1, iE_0]; rfl
theorem fx5 : spLAt [.int .i64 0, .int .i64 0, .int .i64 0] = some (.agg ⟨c4 [] [] [] [1]⟩) := by
  unfold spLAt; simp only; rw [if_pos (by decide), iE_1, iE_0]; rfl
theorem fx6 : spLAt [.int .i64 1, .int .i64 1, .int .i64 2] = some (.agg ⟨c4 [1] [1] [2] [1]⟩) := by
  unfold spLAt; simp only; rw [if_pos (by decide), iE_1, iE_2]; rfl
theorem fx7 : spLAt [.int .i64 2, .int .i64 3, .int .i64 4] = some (.agg ⟨c4 [2] [3] [4] [1]⟩) := by
  unfold spLAt; simp only; rw [if_pos (by decide), iE_1, iE_2, iE_3, iE_4]; rfl
theorem fx8 : spIFrom [.int .i64 1] = some (.agg ⟨[.bool false, .string ⟨⟨[1]⟩⟩]⟩) := by
  unfold spIFrom; simp only; rw [if_pos (by decide), iE_1]
theorem fx9 : spIFrom [.int .i64 2] = some (.agg ⟨[.bool false, .string ⟨⟨[2]⟩⟩]⟩) := by
  unfold spIFrom; simp only; rw [if_pos (by decide), iE_2]
theorem pE_2341 : pE 2 3 4 1 = c4 [2] [3] [4] [1] := by
  unfold pE
  rw [show pQ 2 3 4 1 2 = 2 by decide, show pQ 2 3 4 1 3 = 3 by decide, show pQ 2 3 4 1 4 = 4 by decide, show pQ 2 3 4 1 (pW 1) = 1 by decide, iE_1, iE_2, iE_3, iE_4]; rfl
theorem pE_1122 : pE 1 1 2 2 = c4 [1] [1] [2] [2] := by
  unfold pE
  rw [show pQ 1 1 2 2 1 = 1 by decide, show pQ 1 1 2 2 2 = 2 by decide, show pQ 1 1 2 2 (pW 2) = 2 by decide, iE_1, iE_2]; rfl
theorem fxA : spXThree [.agg ⟨c4 [1] [] [] [2]⟩, .agg ⟨c4 [] [1] [] [3]⟩, .agg ⟨c4 [] [] [1] [4]⟩] = some (.tuple ⟨[.agg ⟨c4 [2] [3] [4] [1]⟩, .bool true]⟩) := by
  unfold spXThree c4
  simp only
  rw [if_pos (by decide), if_neg (by decide)]
  have h : ∀ X Y Z W : Int, X = 2 → Y = 3 → Z = 4 → W = 1 → some (Value.tuple ⟨[.agg ⟨pE X Y Z W⟩, .bool true]⟩) = some (.tuple ⟨[.agg ⟨c4 [2] [3] [4] [1]⟩, .bool true]⟩) := by
    intro X Y Z W h1 h2 h3 h4
    rw [h1, h2, h3, h4, pE_2341]
  exact h _ _ _ _ (by decide) (by decide) (by decide) (by decide)
theorem fxB : spXLine [.agg ⟨c4 [] [] [1] [1]⟩, .agg ⟨c4 [] [] [] [1]⟩, .agg ⟨c4 [1] [1] [2] [1]⟩] = some (.tuple ⟨[.agg ⟨c4 [1] [1] [2] [2]⟩, .bool true]⟩) := by
  unfold spXLine c4
  simp only
  rw [if_pos (by decide), if_neg (by decide), if_neg (by decide)]
  have h : ∀ X Y Z W : Int, X = 1 → Y = 1 → Z = 2 → W = 2 → some (Value.tuple ⟨[.agg ⟨pE X Y Z W⟩, .bool true]⟩) = some (.tuple ⟨[.agg ⟨c4 [1] [1] [2] [2]⟩, .bool true]⟩) := by
    intro X Y Z W h1 h2 h3 h4
    rw [h1, h2, h3, h4, pE_1122]
  exact h _ _ _ _ (by decide) (by decide) (by decide) (by decide)
def spLFixed : List Value → Option Value
  | [] => some (.bool true)
  | _ => none
def c9 : ICode :=
  (.seq (.reg [⟨(some 0), none, (.mv (.c (.bool false)))⟩])
  (.seq (.reg [⟨(some 6), none, (.call 30 [(.c (.int .i64 1)), (.c (.int .i64 0)), (.c (.int .i64 0)), (.c (.int .i64 2))])⟩, ⟨(some 7), none, (.call 30 [(.c (.int .i64 0)), (.c (.int .i64 1)), (.c (.int .i64 0)), (.c (.int .i64 3))])⟩, ⟨(some 8), none, (.call 30 [(.c (.int .i64 0)), (.c (.int .i64 0)), (.c (.int .i64 1)), (.c (.int .i64 4))])⟩, ⟨(some 9), none, (.call 11 [(.t 6), (.t 7), (.t 8)])⟩, ⟨(some 5), none, (.mv (.t 9))⟩, ⟨(some 10), none, (.ext (.t 5) 0)⟩, ⟨(some 11), none, (.ext (.t 5) 1)⟩, ⟨(some 1), none, (.alloc 30 8 [(.bool false), (.string ⟨⟨[]⟩⟩), (.bool false), (.string ⟨⟨[]⟩⟩), (.bool false), (.string ⟨⟨[]⟩⟩), (.bool false), (.string ⟨⟨[]⟩⟩)])⟩, ⟨none, none, (.store 8 (.t 1) (.t 10))⟩, ⟨(some 2), none, (.mv (.t 11))⟩])
  (.seq (.reg [⟨(some 13), none, (.call 30 [(.c (.int .i64 0)), (.c (.int .i64 0)), (.c (.int .i64 1)), (.c (.int .i64 1))])⟩, ⟨(some 14), none, (.call 31 [(.c (.int .i64 0)), (.c (.int .i64 0)), (.c (.int .i64 0))])⟩, ⟨(some 15), none, (.call 31 [(.c (.int .i64 1)), (.c (.int .i64 1)), (.c (.int .i64 2))])⟩, ⟨(some 16), none, (.call 15 [(.t 13), (.t 14), (.t 15)])⟩, ⟨(some 12), none, (.mv (.t 16))⟩, ⟨(some 17), none, (.ext (.t 12) 0)⟩, ⟨(some 18), none, (.ext (.t 12) 1)⟩, ⟨(some 3), none, (.alloc 30 8 [(.bool false), (.string ⟨⟨[]⟩⟩), (.bool false), (.string ⟨⟨[]⟩⟩), (.bool false), (.string ⟨⟨[]⟩⟩), (.bool false), (.string ⟨⟨[]⟩⟩)])⟩, ⟨none, none, (.store 8 (.t 3) (.t 17))⟩, ⟨(some 4), none, (.mv (.t 18))⟩])
  (.seq (.dreg [⟨(some 19), none, [], (.mv (.t 2))⟩, ⟨(some 20), none, [], (.mv (.t 19))⟩, ⟨(some 21), (some (20, true)), [], (.mv (.t 4))⟩, ⟨(some 22), none, [], (.pick (.t 20) (.t 21) (.c (.bool false)))⟩, ⟨(some 23), none, [], (.mv (.t 22))⟩, ⟨(some 24), (some (23, true)), [], (.load true 8 (.t 1))⟩, ⟨(some 25), (some (23, true)), [], (.call 31 [(.c (.int .i64 2)), (.c (.int .i64 3)), (.c (.int .i64 4))])⟩, ⟨(some 26), (some (23, true)), [], (.eqa false [.b, .s, .b, .s, .b, .s, .b, .s] (.t 24) (.t 25))⟩, ⟨(some 27), none, [], (.pick (.t 23) (.t 26) (.c (.bool false)))⟩, ⟨(some 28), none, [], (.mv (.t 27))⟩, ⟨(some 29), (some (28, true)), [], (.load true 8 (.t 3))⟩, ⟨(some 30), (some (28, true)), [], (.call 26 [(.c (.int .i64 1))])⟩, ⟨(some 31), (some (28, true)), [], (.call 26 [(.c (.int .i64 1))])⟩, ⟨(some 32), (some (28, true)), [], (.call 26 [(.c (.int .i64 2))])⟩, ⟨(some 33), (some (28, true)), [], (.call 26 [(.c (.int .i64 2))])⟩, ⟨(some 34), (some (28, true)), [], (.build [(.bool false), (.string ⟨⟨[]⟩⟩), (.bool false), (.string ⟨⟨[]⟩⟩), (.bool false), (.string ⟨⟨[]⟩⟩), (.bool false), (.string ⟨⟨[]⟩⟩)] [(0, 2, (.t 30)), (2, 2, (.t 31)), (4, 2, (.t 32)), (6, 2, (.t 33))])⟩, ⟨(some 35), (some (28, true)), [], (.eqa false [.b, .s, .b, .s, .b, .s, .b, .s] (.t 29) (.t 34))⟩, ⟨(some 36), none, [], (.pick (.t 28) (.t 35) (.c (.bool false)))⟩, ⟨(some 0), none, [], (.mv (.t 36))⟩])
  .ret))))
theorem tr9 : trFun Tryz.prog 9 = some ⟨37, [.t 0], c9⟩ := by kernel_rfl
set_option maxHeartbeats 4000000 in
theorem ok_lFixed : SpecOK Tryz.prog 9 (flat spLFixed) := by
  refine flat_run (env_cons ok_lFlat (env_cons ok_lAt (env_cons ok_iFrom (env_cons ok_xThree (env_cons ok_xLine (env_nil _)))))) mixed tr9 ?_
  intro args v h N hG
  unfold spLFixed at hG
  split at hG
  case h_2 => cases hG
  cases hG
  refine ⟨rfl, by simp, ?_⟩
  have fA := fxA
  have fB := fxB
  have g1 := fx1
  have g2 := fx2
  have g3 := fx3
  have g4 := fx4
  have g5 := fx5
  have g6 := fx6
  have g7 := fx7
  unfold c4 at fA fB g1 g2 g3 g4 g5 g6 g7
  simp only [c9, initT, List.zipIdx_cons, List.zipIdx_nil, List.map_cons, List.map_nil, Nat.reduceAdd]
  simp only [↓R0, R1, rdL, rdH, isCall, istep, ibin, vcells, fillI, setR, flat, okCell, isBase, List.set, List.drop, List.take, List.append, bnds, bhi, blo, srcOf, ↓reduceIte, Nat.reduceEqDiff, Nat.reduceAdd, Nat.reduceLeDiff, reduceCtorEq, Nat.reduceSub, Int.reduceEq, Int.reduceLT, Int.reduceLE, Int.reduceGT, Int.reduceGE, Int.reduceSub, Int.reduceAdd, Int.reduceMul, Int.reduceNe, Int.reduceNeg, Int.reduceToNat, Nat.reduceMul, g1, g2, g3, g4, g5, g6, g7, fx8, fx9, fA, fB, ceq, Fin, isEnd, resL, res1, iE, rE]
  exact ⟨_, rfl, rfl, fun k hk => by simp only [ne_nb hk, if_false]⟩
def spLWide : List Value → Option Value
  | [.agg ⟨[.bool s1, .string ⟨⟨l1⟩⟩, .bool s2, .string ⟨⟨l2⟩⟩, .bool s3, .string ⟨⟨l3⟩⟩, .bool s4, .string ⟨⟨l4⟩⟩]⟩] =>
    some (.int .i64 (if (l1.length ≤ 6 ∧ l2.length ≤ 6 ∧ l3.length ≤ 6 ∧ l4.length ≤ 6) ∧ ¬ (sv s1 l1 = 0 ∧ sv s2 l2 = 0 ∧ sv s3 l3 = 0) then 0 else 1))
  | _ => none
def c8 : ICode :=
  (.seq (.reg [⟨(some 1), none, (.box 25 8 (.t 0))⟩, ⟨(some 2), none, (.mv (.c (.int .i64 0)))⟩])
  (.seq (.seq (.reg [⟨(some 5), none, (.faddr 0 (.t 1))⟩, ⟨(some 6), none, (.faddr 1 (.t 5))⟩, ⟨(some 7), none, (.load false 1 (.t 6))⟩, ⟨(some 8), none, (.lens (.t 7))⟩, ⟨(some 9), none, (.bin .gtr (.t 8) (.c (.int .i64 6)))⟩, ⟨(some 10), none, (.mv (.t 9))⟩, ⟨(some 11), (some (10, false)), (.faddr 2 (.t 1))⟩, ⟨(some 12), (some (10, false)), (.faddr 1 (.t 11))⟩, ⟨(some 13), (some (10, false)), (.load false 1 (.t 12))⟩, ⟨(some 14), (some (10, false)), (.lens (.t 13))⟩, ⟨(some 15), (some (10, false)), (.bin .gtr (.t 14) (.c (.int .i64 6)))⟩, ⟨(some 16), none, (.pick (.t 10) (.c (.bool true)) (.t 15))⟩, ⟨(some 17), none, (.mv (.t 16))⟩, ⟨(some 18), (some (17, false)), (.faddr 4 (.t 1))⟩, ⟨(some 19), (some (17, false)), (.faddr 1 (.t 18))⟩, ⟨(some 20), (some (17, false)), (.load false 1 (.t 19))⟩, ⟨(some 21), (some (17, false)), (.lens (.t 20))⟩, ⟨(some 22), (some (17, false)), (.bin .gtr (.t 21) (.c (.int .i64 6)))⟩, ⟨(some 23), none, (.pick (.t 17) (.c (.bool true)) (.t 22))⟩, ⟨(some 24), none, (.mv (.t 23))⟩, ⟨(some 25), (some (24, false)), (.faddr 6 (.t 1))⟩, ⟨(some 26), (some (24, false)), (.faddr 1 (.t 25))⟩, ⟨(some 27), (some (24, false)), (.load false 1 (.t 26))⟩, ⟨(some 28), (some (24, false)), (.lens (.t 27))⟩, ⟨(some 29), (some (24, false)), (.bin .gtr (.t 28) (.c (.int .i64 6)))⟩, ⟨(some 30), none, (.pick (.t 24) (.c (.bool true)) (.t 29))⟩])
  (.cond (.t 30)
  (.seq (.reg [⟨(some 2), none, (.mv (.c (.int .i64 1)))⟩])
  .ret)
  .skip))
  (.seq (.seq (.reg [⟨(some 32), none, (.load true 8 (.t 1))⟩, ⟨(some 33), none, (.call 29 [(.t 32)])⟩, ⟨(some 31), none, (.mv (.t 33))⟩, ⟨(some 34), none, (.ext (.t 31) 0)⟩, ⟨(some 35), none, (.ext (.t 31) 1)⟩, ⟨(some 3), none, (.alloc 25 8 [(.bool false), (.string ⟨⟨[]⟩⟩), (.bool false), (.string ⟨⟨[]⟩⟩), (.bool false), (.string ⟨⟨[]⟩⟩), (.bool false), (.string ⟨⟨[]⟩⟩)])⟩, ⟨none, none, (.store 8 (.t 3) (.t 34))⟩, ⟨(some 4), none, (.mv (.t 35))⟩])
  (.seq (.reg [⟨(some 36), none, (.mv (.t 4))⟩, ⟨(some 37), none, (.un .not (.t 36))⟩])
  (.cond (.t 37)
  (.seq (.reg [⟨(some 2), none, (.mv (.c (.int .i64 1)))⟩])
  .ret)
  .skip)))
  (.seq (.reg [⟨(some 2), none, (.mv (.c (.int .i64 0)))⟩])
  .ret))))
theorem tr8 : trFun Tryz.prog 8 = some ⟨38, [.t 2], c8⟩ := by kernel_rfl
theorem ok_lWide : SpecOK Tryz.prog 8 (flat spLWide) := by
  refine flat_run (env_cons ok_r5Norm (env_nil _)) mixed tr8 ?_
  intro args v h N hG
  unfold spLWide at hG
  split at hG
  case h_2 => cases hG
  rename_i s1 l1 s2 l2 s3 l3 s4 l4
  cases hG
  refine ⟨rfl, by simp, ?_⟩
  have tr : ∀ l : List UInt8, ¬ l.length ≤ 6 → ((l.length : Int) > 6) = True := fun l h => eq_true (by omega)
  have fl : ∀ l : List UInt8, l.length ≤ 6 → ((l.length : Int) > 6) = False := fun l h => eq_false (by omega)
  simp only [c8, initT, List.zipIdx_cons, List.zipIdx_nil, List.map_cons, List.map_nil, Nat.reduceAdd]
  by_cases c1 : l1.length ≤ 6
  · by_cases c2 : l2.length ≤ 6
    · by_cases c3 : l3.length ≤ 6
      · by_cases c4 : l4.length ≤ 6
        · have a1 : l1.length ≤ 68719476736 := by omega
          have a2 : l2.length ≤ 68719476736 := by omega
          have a3 : l3.length ≤ 68719476736 := by omega
          have a4 : l4.length ≤ 68719476736 := by omega
          have d1 := fl l1 c1
          have d2 := fl l2 c2
          have d3 := fl l3 c3
          have d4 := fl l4 c4
          by_cases z : sv s1 l1 = 0 ∧ sv s2 l2 = 0 ∧ sv s3 l3 = 0
          · rw [if_neg (fun e => e.2 z)]
            have z' := z
            obtain ⟨z1, z2, z3⟩ := z
            simp only [↓R0, R1, rdL, rdH, isCall, istep, ibin, vcells, fillI, setR, flat, okCell, isBase, List.set, List.drop, List.take, List.append, bnds, bhi, blo, srcOf, ↓reduceIte, Nat.reduceEqDiff, Nat.reduceAdd, Nat.reduceLeDiff, reduceCtorEq, Nat.reduceSub, Int.reduceEq, Int.reduceLT, Int.reduceLE, Int.reduceGT, Int.reduceGE, Int.reduceSub, Int.reduceAdd, Int.reduceMul, Int.reduceNe, Int.reduceNeg, Int.reduceToNat, Nat.reduceMul, d1, d2, d3, d4, a1, a2, a3, a4, z1, z2, z3, spR5Norm, Bool.not_false, Fin, isEnd, resL, res1, iE, rE]
            exact ⟨_, rfl, rfl, fun k hk => by simp only [ne_nb hk, if_false]⟩
          · rw [if_pos ⟨⟨c1, c2, c3, c4⟩, z⟩]
            simp only [↓R0, R1, rdL, rdH, isCall, istep, ibin, vcells, fillI, setR, flat, okCell, isBase, List.set, List.drop, List.take, List.append, bnds, bhi, blo, srcOf, ↓reduceIte, Nat.reduceEqDiff, Nat.reduceAdd, Nat.reduceLeDiff, reduceCtorEq, Nat.reduceSub, Int.reduceEq, Int.reduceLT, Int.reduceLE, Int.reduceGT, Int.reduceGE, Int.reduceSub, Int.reduceAdd, Int.reduceMul, Int.reduceNe, Int.reduceNeg, Int.reduceToNat, Nat.reduceMul, d1, d2, d3, d4, a1, a2, a3, a4, z, spR5Norm, lE, Bool.not_true, Fin, isEnd, resL, res1, iE, rE]
            exact ⟨_, rfl, rfl, fun k hk => by simp only [ne_nb hk, if_false]⟩
        · rw [if_neg (fun e => c4 e.1.2.2.2)]
          have d1 := fl l1 c1
          have d2 := fl l2 c2
          have d3 := fl l3 c3
          have d4 := tr l4 c4
          simp only [↓R0, R1, rdL, rdH, isCall, istep, ibin, vcells, fillI, setR, flat, okCell, isBase, List.set, List.drop, List.take, List.append, bnds, bhi, blo, srcOf, ↓reduceIte, Nat.reduceEqDiff, Nat.reduceAdd, Nat.reduceLeDiff, reduceCtorEq, Nat.reduceSub, Int.reduceEq, Int.reduceLT, Int.reduceLE, Int.reduceGT, Int.reduceGE, Int.reduceSub, Int.reduceAdd, Int.reduceMul, Int.reduceNe, Int.reduceNeg, Int.reduceToNat, Nat.reduceMul, d1, d2, d3, d4, Fin, isEnd, resL, res1, iE, rE]
          exact ⟨_, rfl, rfl, fun k hk => by simp only [ne_nb hk, if_false]⟩
      · rw [if_neg (fun e => c3 e.1.2.2.1)]
        have d1 := fl l1 c1
        have d2 := fl l2 c2
        have d3 := tr l3 c3
        simp only [↓R0, R1, rdL, rdH, isCall, istep, ibin, vcells, fillI, setR, flat, okCell, isBase, List.set, List.drop, List.take, List.append, bnds, bhi, blo, srcOf, ↓reduceIte, Nat.reduceEqDiff, Nat.reduceAdd, Nat.reduceLeDiff, reduceCtorEq, Nat.reduceSub, Int.reduceEq, Int.reduceLT, Int.reduceLE, Int.reduceGT, Int.reduceGE, Int.reduceSub, Int.reduceAdd, Int.reduceMul, Int.reduceNe, Int.reduceNeg, Int.reduceToNat, Nat.reduceMul, d1, d2, d3, Fin, isEnd, resL, res1, iE, rE]
        exact ⟨_, rfl, rfl, fun k hk => by simp only [ne_nb hk, if_false]⟩
    · rw [if_neg (fun e => c2 e.1.2.1)]
      have d1 := fl l1 c1
      have d2 := tr l2 c2
      simp only [↓R0, R1, rdL, rdH, isCall, istep, ibin, vcells, fillI, setR, flat, okCell, isBase, List.set, List.drop, List.take, List.append, bnds, bhi, blo, srcOf, ↓reduceIte, Nat.reduceEqDiff, Nat.reduceAdd, Nat.reduceLeDiff, reduceCtorEq, Nat.reduceSub, Int.reduceEq, Int.reduceLT, Int.reduceLE, Int.reduceGT, Int.reduceGE, Int.reduceSub, Int.reduceAdd, Int.reduceMul, Int.reduceNe, Int.reduceNeg, Int.reduceToNat, Nat.reduceMul, d1, d2, Fin, isEnd, resL, res1, iE, rE]
      exact ⟨_, rfl, rfl, fun k hk => by simp only [ne_nb hk, if_false]⟩
  · rw [if_neg (fun e => c1 e.1.1)]
    have d1 := tr l1 c1
    simp only [↓R0, R1, rdL, rdH, isCall, istep, ibin, vcells, fillI, setR, flat, okCell, isBase, List.set, List.drop, List.take, List.append, bnds, bhi, blo, srcOf, ↓reduceIte, Nat.reduceEqDiff, Nat.reduceAdd, Nat.reduceLeDiff, reduceCtorEq, Nat.reduceSub, Int.reduceEq, Int.reduceLT, Int.reduceLE, Int.reduceGT, Int.reduceGE, Int.reduceSub, Int.reduceAdd, Int.reduceMul, Int.reduceNe, Int.reduceNeg, Int.reduceToNat, Nat.reduceMul, d1, Fin, isEnd, resL, res1, iE, rE]
    exact ⟨_, rfl, rfl, fun k hk => by simp only [ne_nb hk, if_false]⟩
def spLForm : List Value → Option Value
  | [.agg ⟨[.bool s1, .string ⟨⟨l1⟩⟩, .bool s2, .string ⟨⟨l2⟩⟩, .bool s3, .string ⟨⟨l3⟩⟩, .bool s4, .string ⟨⟨l4⟩⟩]⟩] =>
    if l1.length ≤ 6 ∧ l2.length ≤ 6 ∧ l3.length ≤ 6 ∧ l4.length ≤ 6 ∧ ¬ (sv s1 l1 = 0 ∧ sv s2 l2 = 0 ∧ sv s3 l3 = 0) then some (.agg ⟨lE (sv s1 l1) (sv s2 l2) (sv s3 l3) (sv s4 l4)⟩) else none
  | _ => none
def c10 : ICode :=
  (.seq (.reg [⟨(some 1), none, (.box 25 8 (.t 0))⟩, ⟨(some 2), none, (.alloc 25 8 [(.bool false), (.string ⟨⟨[]⟩⟩), (.bool false), (.string ⟨⟨[]⟩⟩), (.bool false), (.string ⟨⟨[]⟩⟩), (.bool false), (.string ⟨⟨[]⟩⟩)])⟩])
  (.seq (.reg [⟨(some 6), none, (.load true 8 (.t 1))⟩, ⟨(some 7), none, (.call 29 [(.t 6)])⟩, ⟨(some 5), none, (.mv (.t 7))⟩, ⟨(some 8), none, (.ext (.t 5) 0)⟩, ⟨(some 9), none, (.ext (.t 5) 1)⟩, ⟨(some 3), none, (.alloc 25 8 [(.bool false), (.string ⟨⟨[]⟩⟩), (.bool false), (.string ⟨⟨[]⟩⟩), (.bool false), (.string ⟨⟨[]⟩⟩), (.bool false), (.string ⟨⟨[]⟩⟩)])⟩, ⟨none, none, (.store 8 (.t 3) (.t 8))⟩, ⟨(some 4), none, (.mv (.t 9))⟩])
  (.seq (.reg [⟨(some 10), none, (.load true 8 (.t 3))⟩, ⟨none, none, (.store 8 (.t 2) (.t 10))⟩])
  .ret)))
theorem tr10 : trFun Tryz.prog 10 = some ⟨11, [.cell 2 true 8], c10⟩ := by kernel_rfl
theorem ok_lForm : SpecOK Tryz.prog 10 (flat spLForm) := by
  refine flat_run (env_cons ok_r5Norm (env_nil _)) mixed tr10 ?_
  intro args v h N hG
  unfold spLForm at hG
  split at hG
  case h_2 => cases hG
  rename_i s1 l1 s2 l2 s3 l3 s4 l4
  split at hG
  case isFalse => cases hG
  rename_i hl
  obtain ⟨c1, c2, c3, c4, z⟩ := hl
  cases hG
  refine ⟨rfl, by simp, ?_⟩
  have a1 : l1.length ≤ 68719476736 := by omega
  have a2 : l2.length ≤ 68719476736 := by omega
  have a3 : l3.length ≤ 68719476736 := by omega
  have a4 : l4.length ≤ 68719476736 := by omega
  simp only [c10, initT, List.zipIdx_cons, List.zipIdx_nil, List.map_cons, List.map_nil, Nat.reduceAdd]
  simp only [↓R0, R1, rdL, rdH, isCall, istep, ibin, vcells, fillI, setR, flat, okCell, isBase, List.set, List.drop, List.take, List.append, bnds, bhi, blo, srcOf, ↓reduceIte, Nat.reduceEqDiff, Nat.reduceAdd, Nat.reduceLeDiff, reduceCtorEq, Nat.reduceSub, Int.reduceEq, Int.reduceLT, Int.reduceLE, Int.reduceGT, Int.reduceGE, Int.reduceSub, Int.reduceAdd, Int.reduceMul, Int.reduceNe, Int.reduceNeg, Int.reduceToNat, Nat.reduceMul, a1, a2, a3, a4, z, spR5Norm, lE, Fin, isEnd, resL, res1, iE, rE]
  exact ⟨_, rfl, rfl, fun k hk => by simp only [ne_nb hk, if_false]⟩
end Go.Eng
end
section
set_option linter.unusedVariables false
set_option linter.unusedSimpArgs false
set_option linter.unusedSectionVars false
set_option maxRecDepth 20000
namespace Go.Eng
open Go Go.Proofs Go.IntWalk
def spLPlanes : List Value → Option Value
  | [.agg ⟨[.bool sa1, .string ⟨⟨la1⟩⟩, .bool sa2, .string ⟨⟨la2⟩⟩, .bool sa3, .string ⟨⟨la3⟩⟩, .bool sa4, .string ⟨⟨la4⟩⟩]⟩, .agg ⟨[.bool sb1, .string ⟨⟨lb1⟩⟩, .bool sb2, .string ⟨⟨lb2⟩⟩, .bool sb3, .string ⟨⟨lb3⟩⟩, .bool sb4, .string ⟨⟨lb4⟩⟩]⟩, .agg ⟨[.bool sc1, .string ⟨⟨lc1⟩⟩, .bool sc2, .string ⟨⟨lc2⟩⟩, .bool sc3, .string ⟨⟨lc3⟩⟩, .bool sc4, .string ⟨⟨lc4⟩⟩]⟩] => some (.bool true)
  | _ => none
def c3 : ICode :=
  (.seq (.reg [⟨(some 3), none, (.box 25 8 (.t 0))⟩, ⟨(some 4), none, (.box 25 8 (.t 1))⟩, ⟨(some 5), none, (.box 25 8 (.t 2))⟩, ⟨(some 6), none, (.mv (.c (.bool false)))⟩])
  (.seq (.seq (.dreg [⟨(some 11), none, [], (.load true 8 (.t 3))⟩, ⟨(some 12), none, [], (.call 8 [(.t 11)])⟩, ⟨(some 13), none, [1], (.load true 8 (.t 4))⟩, ⟨(some 14), none, [], (.call 8 [(.t 13)])⟩, ⟨(some 15), none, [], (.bin .add (.t 12) (.t 14))⟩, ⟨(some 16), none, [1, 3], (.load true 8 (.t 5))⟩, ⟨(some 17), none, [], (.call 8 [(.t 16)])⟩, ⟨(some 18), none, [], (.bin .add (.t 15) (.t 17))⟩, ⟨(some 19), none, [], (.bin .gtr (.t 18) (.c (.int .i64 0)))⟩])
  (.cond (.t 19)
  (.seq (.reg [⟨(some 20), none, (.call 9 [])⟩, ⟨(some 6), none, (.mv (.t 20))⟩])
  .ret)
  .skip))
  (.seq (.dreg [⟨(some 21), none, [], (.load true 8 (.t 3))⟩, ⟨(some 22), none, [], (.call 10 [(.t 21)])⟩, ⟨(some 23), none, [1], (.load true 8 (.t 4))⟩, ⟨(some 24), none, [], (.call 10 [(.t 23)])⟩, ⟨(some 25), none, [1, 3], (.load true 8 (.t 5))⟩, ⟨(some 26), none, [], (.call 10 [(.t 25)])⟩, ⟨none, none, [], (.store 8 (.t 3) (.t 22))⟩, ⟨none, none, [], (.store 8 (.t 4) (.t 24))⟩, ⟨none, none, [], (.store 8 (.t 5) (.t 26))⟩])
  (.seq (.reg [⟨(some 28), none, (.load true 8 (.t 3))⟩, ⟨(some 29), none, (.load true 8 (.t 4))⟩, ⟨(some 30), none, (.load true 8 (.t 5))⟩, ⟨(some 31), none, (.call 11 [(.t 28), (.t 29), (.t 30)])⟩, ⟨(some 27), none, (.mv (.t 31))⟩, ⟨(some 32), none, (.ext (.t 27) 0)⟩, ⟨(some 33), none, (.ext (.t 27) 1)⟩, ⟨(some 7), none, (.alloc 30 8 [(.bool false), (.string ⟨⟨[]⟩⟩), (.bool false), (.string ⟨⟨[]⟩⟩), (.bool false), (.string ⟨⟨[]⟩⟩), (.bool false), (.string ⟨⟨[]⟩⟩)])⟩, ⟨none, none, (.store 8 (.t 7) (.t 32))⟩, ⟨(some 8), none, (.mv (.t 33))⟩])
  (.seq (.reg [⟨(some 35), none, (.load true 8 (.t 3))⟩, ⟨(some 36), none, (.load true 8 (.t 4))⟩, ⟨(some 37), none, (.load true 8 (.t 5))⟩, ⟨(some 38), none, (.call 12 [(.t 35), (.t 36), (.t 37)])⟩, ⟨(some 34), none, (.mv (.t 38))⟩, ⟨(some 39), none, (.ext (.t 34) 0)⟩, ⟨(some 40), none, (.ext (.t 34) 1)⟩, ⟨(some 9), none, (.alloc 30 8 [(.bool false), (.string ⟨⟨[]⟩⟩), (.bool false), (.string ⟨⟨[]⟩⟩), (.bool false), (.string ⟨⟨[]⟩⟩), (.bool false), (.string ⟨⟨[]⟩⟩)])⟩, ⟨none, none, (.store 8 (.t 9) (.t 39))⟩, ⟨(some 10), none, (.mv (.t 40))⟩])
  (.seq (.reg [⟨(some 41), none, (.call 9 [])⟩, ⟨(some 42), none, (.mv (.t 41))⟩, ⟨(some 43), (some (42, true)), (.load true 8 (.t 7))⟩, ⟨(some 44), (some (42, true)), (.load true 8 (.t 9))⟩, ⟨(some 45), (some (42, true)), (.eqa false [.b, .s, .b, .s, .b, .s, .b, .s] (.t 43) (.t 44))⟩, ⟨(some 46), none, (.pick (.t 42) (.t 45) (.c (.bool false)))⟩, ⟨(some 47), none, (.mv (.t 46))⟩, ⟨(some 48), (some (47, true)), (.mv (.t 8))⟩, ⟨(some 49), (some (47, true)), (.mv (.t 10))⟩, ⟨(some 50), (some (47, true)), (.eqb false (.t 48) (.t 49))⟩, ⟨(some 51), none, (.pick (.t 47) (.t 50) (.c (.bool false)))⟩, ⟨(some 6), none, (.mv (.t 51))⟩])
  .ret))))))
theorem tr3 : trFun Tryz.prog 3 = some ⟨52, [.t 6], c3⟩ := by kernel_rfl
theorem lq_len {s : Bool} {l : List UInt8} {g : Int} {k : Nat} (h : l.length ≤ k) : (bl (sv s l / g).natAbs).length ≤ k :=
  Nat.le_trans (bl_length_mono (Int.natAbs_ediv_le_natAbs _ _)) (len_sv h)
set_option maxHeartbeats 8000000 in
theorem ok_lPlanes : SpecOK Tryz.prog 3 (flat spLPlanes) := by
  refine flat_run (env_cons ok_lWide (env_cons ok_lFixed (env_cons ok_lForm (env_cons ok_xThree (env_cons ok_r6Three (env_nil _)))))) mixed tr3 ?_
  intro args v h N hG
  unfold spLPlanes at hG
  split at hG
  case h_2 => cases hG
  rename_i sa1 la1 sa2 la2 sa3 la3 sa4 la4 sb1 lb1 sb2 lb2 sb3 lb3 sb4 lb4 sc1 lc1 sc2 lc2 sc3 lc3 sc4 lc4
  cases hG
  refine ⟨rfl, by simp, ?_⟩
  simp only [c3, initT, List.zipIdx_cons, List.zipIdx_nil, List.map_cons, List.map_nil, Nat.reduceAdd]
  have wz0 : IntKind.i64.wrap 0 = 0 := i64_in _ (by omega)
  have w1 : IntKind.i64.wrap 1 = 1 := i64_in _ (by omega)
  have w2 : IntKind.i64.wrap 2 = 2 := i64_in _ (by omega)
  have w3 : IntKind.i64.wrap 3 = 3 := i64_in _ (by omega)
  obtain ⟨Ga, eGa⟩ : ∃ g : Prop, g = ((la1.length ≤ 6 ∧ la2.length ≤ 6 ∧ la3.length ≤ 6 ∧ la4.length ≤ 6) ∧ ¬ (sv sa1 la1 = 0 ∧ sv sa2 la2 = 0 ∧ sv sa3 la3 = 0)) := ⟨_, rfl⟩
  obtain ⟨Gb, eGb⟩ : ∃ g : Prop, g = ((lb1.length ≤ 6 ∧ lb2.length ≤ 6 ∧ lb3.length ≤ 6 ∧ lb4.length ≤ 6) ∧ ¬ (sv sb1 lb1 = 0 ∧ sv sb2 lb2 = 0 ∧ sv sb3 lb3 = 0)) := ⟨_, rfl⟩
  obtain ⟨Gc, eGc⟩ : ∃ g : Prop, g = ((lc1.length ≤ 6 ∧ lc2.length ≤ 6 ∧ lc3.length ≤ 6 ∧ lc4.length ≤ 6) ∧ ¬ (sv sc1 lc1 = 0 ∧ sv sc2 lc2 = 0 ∧ sv sc3 lc3 = 0)) := ⟨_, rfl⟩
  have ya : Ga → spLWide [.agg ⟨[.bool sa1, .string ⟨⟨la1⟩⟩, .bool sa2, .string ⟨⟨la2⟩⟩, .bool sa3, .string ⟨⟨la3⟩⟩, .bool sa4, .string ⟨⟨la4⟩⟩]⟩] = some (.int .i64 0) := fun h => by unfold spLWide; simp only; rw [if_pos (eGa ▸ h)]
  have na : ¬ Ga → spLWide [.agg ⟨[.bool sa1, .string ⟨⟨la1⟩⟩, .bool sa2, .string ⟨⟨la2⟩⟩, .bool sa3, .string ⟨⟨la3⟩⟩, .bool sa4, .string ⟨⟨la4⟩⟩]⟩] = some (.int .i64 1) := fun h => by unfold spLWide; simp only; rw [if_neg (eGa ▸ h)]
  have yb : Gb → spLWide [.agg ⟨[.bool sb1, .string ⟨⟨lb1⟩⟩, .bool sb2, .string ⟨⟨lb2⟩⟩, .bool sb3, .string ⟨⟨lb3⟩⟩, .bool sb4, .string ⟨⟨lb4⟩⟩]⟩] = some (.int .i64 0) := fun h => by unfold spLWide; simp only; rw [if_pos (eGb ▸ h)]
  have nb : ¬ Gb → spLWide [.agg ⟨[.bool sb1, .string ⟨⟨lb1⟩⟩, .bool sb2, .string ⟨⟨lb2⟩⟩, .bool sb3, .string ⟨⟨lb3⟩⟩, .bool sb4, .string ⟨⟨lb4⟩⟩]⟩] = some (.int .i64 1) := fun h => by unfold spLWide; simp only; rw [if_neg (eGb ▸ h)]
  have yc : Gc → spLWide [.agg ⟨[.bool sc1, .string ⟨⟨lc1⟩⟩, .bool sc2, .string ⟨⟨lc2⟩⟩, .bool sc3, .string ⟨⟨lc3⟩⟩, .bool sc4, .string ⟨⟨lc4⟩⟩]⟩] = some (.int .i64 0) := fun h => by unfold spLWide; simp only; rw [if_pos (eGc ▸ h)]
  have nc : ¬ Gc → spLWide [.agg ⟨[.bool sc1, .string ⟨⟨lc1⟩⟩, .bool sc2, .string ⟨⟨lc2⟩⟩, .bool sc3, .string ⟨⟨lc3⟩⟩, .bool sc4, .string ⟨⟨lc4⟩⟩]⟩] = some (.int .i64 1) := fun h => by unfold spLWide; simp only; rw [if_neg (eGc ▸ h)]
  by_cases ga : Ga
  · have Wa := ya ga
    by_cases gb : Gb
    · have Wb := yb gb
      by_cases gc : Gc
      · have Wc := yc gc
        rw [eGa] at ga
        obtain ⟨⟨ca1, ca2, ca3, ca4⟩, za⟩ := ga
        rw [eGb] at gb
        obtain ⟨⟨cb1, cb2, cb3, cb4⟩, zb⟩ := gb
        rw [eGc] at gc
        obtain ⟨⟨cc1, cc2, cc3, cc4⟩, zc⟩ := gc
        obtain ⟨ga, ega⟩ : ∃ g : Int, (lG (sv sa1 la1) (sv sa2 la2) (sv sa3 la3) (sv sa4 la4) : Int) = g := ⟨_, rfl⟩
        have qa1 := lq_len (s := sa1) (g := ga) ca1
        obtain ⟨Aa1, eAa1⟩ : ∃ z, sv sa1 la1 / ga = z := ⟨_, rfl⟩
        rw [eAa1] at qa1
        have ra1 := lle (k := 2147483648) qa1 (by omega)
        have ta1 := lle (k := 16777216) qa1 (by omega)
        have qa2 := lq_len (s := sa2) (g := ga) ca2
        obtain ⟨Aa2, eAa2⟩ : ∃ z, sv sa2 la2 / ga = z := ⟨_, rfl⟩
        rw [eAa2] at qa2
        have ra2 := lle (k := 2147483648) qa2 (by omega)
        have ta2 := lle (k := 16777216) qa2 (by omega)
        have qa3 := lq_len (s := sa3) (g := ga) ca3
        obtain ⟨Aa3, eAa3⟩ : ∃ z, sv sa3 la3 / ga = z := ⟨_, rfl⟩
        rw [eAa3] at qa3
        have ra3 := lle (k := 2147483648) qa3 (by omega)
        have ta3 := lle (k := 16777216) qa3 (by omega)
        have qa4 := lq_len (s := sa4) (g := ga) ca4
        obtain ⟨Aa4, eAa4⟩ : ∃ z, sv sa4 la4 / ga = z := ⟨_, rfl⟩
        rw [eAa4] at qa4
        have ra4 := lle (k := 2147483648) qa4 (by omega)
        have ta4 := lle (k := 16777216) qa4 (by omega)
        obtain ⟨gb, egb⟩ : ∃ g : Int, (lG (sv sb1 lb1) (sv sb2 lb2) (sv sb3 lb3) (sv sb4 lb4) : Int) = g := ⟨_, rfl⟩
        have qb1 := lq_len (s := sb1) (g := gb) cb1
        obtain ⟨Ab1, eAb1⟩ : ∃ z, sv sb1 lb1 / gb = z := ⟨_, rfl⟩
        rw [eAb1] at qb1
        have rb1 := lle (k := 2147483648) qb1 (by omega)
        have tb1 := lle (k := 16777216) qb1 (by omega)
        have qb2 := lq_len (s := sb2) (g := gb) cb2
        obtain ⟨Ab2, eAb2⟩ : ∃ z, sv sb2 lb2 / gb = z := ⟨_, rfl⟩
        rw [eAb2] at qb2
        have rb2 := lle (k := 2147483648) qb2 (by omega)
        have tb2 := lle (k := 16777216) qb2 (by omega)
        have qb3 := lq_len (s := sb3) (g := gb) cb3
        obtain ⟨Ab3, eAb3⟩ : ∃ z, sv sb3 lb3 / gb = z := ⟨_, rfl⟩
        rw [eAb3] at qb3
        have rb3 := lle (k := 2147483648) qb3 (by omega)
        have tb3 := lle (k := 16777216) qb3 (by omega)
        have qb4 := lq_len (s := sb4) (g := gb) cb4
        obtain ⟨Ab4, eAb4⟩ : ∃ z, sv sb4 lb4 / gb = z := ⟨_, rfl⟩
        rw [eAb4] at qb4
        have rb4 := lle (k := 2147483648) qb4 (by omega)
        have tb4 := lle (k := 16777216) qb4 (by omega)
        obtain ⟨gc, egc⟩ : ∃ g : Int, (lG (sv sc1 lc1) (sv sc2 lc2) (sv sc3 lc3) (sv sc4 lc4) : Int) = g := ⟨_, rfl⟩
        have qc1 := lq_len (s := sc1) (g := gc) cc1
        obtain ⟨Ac1, eAc1⟩ : ∃ z, sv sc1 lc1 / gc = z := ⟨_, rfl⟩
        rw [eAc1] at qc1
        have rc1 := lle (k := 2147483648) qc1 (by omega)
        have tc1 := lle (k := 16777216) qc1 (by omega)
        have qc2 := lq_len (s := sc2) (g := gc) cc2
        obtain ⟨Ac2, eAc2⟩ : ∃ z, sv sc2 lc2 / gc = z := ⟨_, rfl⟩
        rw [eAc2] at qc2
        have rc2 := lle (k := 2147483648) qc2 (by omega)
        have tc2 := lle (k := 16777216) qc2 (by omega)
        have qc3 := lq_len (s := sc3) (g := gc) cc3
        obtain ⟨Ac3, eAc3⟩ : ∃ z, sv sc3 lc3 / gc = z := ⟨_, rfl⟩
        rw [eAc3] at qc3
        have rc3 := lle (k := 2147483648) qc3 (by omega)
        have tc3 := lle (k := 16777216) qc3 (by omega)
        have qc4 := lq_len (s := sc4) (g := gc) cc4
        obtain ⟨Ac4, eAc4⟩ : ∃ z, sv sc4 lc4 / gc = z := ⟨_, rfl⟩
        rw [eAc4] at qc4
        have rc4 := lle (k := 2147483648) qc4 (by omega)
        have tc4 := lle (k := 16777216) qc4 (by omega)
        obtain ⟨W, eW⟩ : ∃ z, Aa1 * (Ab2 * Ac3 - Ab3 * Ac2) + Aa2 * (Ab3 * Ac1 - Ab1 * Ac3) + Aa3 * (Ab1 * Ac2 - Ab2 * Ac1) = z := ⟨_, rfl⟩
        obtain ⟨X0, eX0⟩ : ∃ z, Aa4 * (Ab2 * Ac3 - Ab3 * Ac2) + Ab4 * (Ac2 * Aa3 - Ac3 * Aa2) + Ac4 * (Aa2 * Ab3 - Aa3 * Ab2) = z := ⟨_, rfl⟩
        have eY0 : (Ab2 * Ac3 - Ab3 * Ac2) * Aa4 + (Ac2 * Aa3 - Ac3 * Aa2) * Ab4 + (Aa2 * Ab3 - Aa3 * Ab2) * Ac4 = X0 := by rw [← eX0]; grind
        obtain ⟨X1, eX1⟩ : ∃ z, Aa4 * (Ab3 * Ac1 - Ab1 * Ac3) + Ab4 * (Ac3 * Aa1 - Ac1 * Aa3) + Ac4 * (Aa3 * Ab1 - Aa1 * Ab3) = z := ⟨_, rfl⟩
        have eY1 : (Ab3 * Ac1 - Ab1 * Ac3) * Aa4 + (Ac3 * Aa1 - Ac1 * Aa3) * Ab4 + (Aa3 * Ab1 - Aa1 * Ab3) * Ac4 = X1 := by rw [← eX1]; grind
        obtain ⟨X2, eX2⟩ : ∃ z, Aa4 * (Ab1 * Ac2 - Ab2 * Ac1) + Ab4 * (Ac1 * Aa2 - Ac2 * Aa1) + Ac4 * (Aa1 * Ab2 - Aa2 * Ab1) = z := ⟨_, rfl⟩
        have eY2 : (Ab1 * Ac2 - Ab2 * Ac1) * Aa4 + (Ac1 * Aa2 - Ac2 * Aa1) * Ab4 + (Aa1 * Ab2 - Aa2 * Ab1) * Ac4 = X2 := by rw [← eX2]; grind
        by_cases hw : W = 0
        · simp only [↓R0, R1, rdL, rdH, isCall, istep, ibin, vcells, fillI, setR, flat, okCell, isBase, List.set, List.drop, List.take, List.append, bnds, bhi, blo, srcOf, ↓reduceIte, Nat.reduceEqDiff, Nat.reduceAdd, Nat.reduceLeDiff, reduceCtorEq, Nat.reduceSub, Int.reduceEq, Int.reduceLT, Int.reduceLE, Int.reduceGT, Int.reduceGE, Int.reduceSub, Int.reduceAdd, Int.reduceMul, Int.reduceNe, Int.reduceNeg, Int.reduceToNat, Nat.reduceMul, Wa, Wb, Wc, ca1, ca2, ca3, ca4, za, cb1, cb2, cb3, cb4, zb, cc1, cc2, cc3, cc4, zc, ega, eAa1, ra1, ta1, eAa2, ra2, ta2, eAa3, ra3, ta3, eAa4, ra4, ta4, egb, eAb1, rb1, tb1, eAb2, rb2, tb2, eAb3, rb3, tb3, eAb4, rb4, tb4, egc, eAc1, rc1, tc1, eAc2, rc2, tc2, eAc3, rc3, tc3, eAc4, rc4, tc4, eW, eX0, eY0, eX1, eY1, eX2, eY2, hw, wz0, spLForm, lE, not_false_eq_true, iE]
          simp only [↓R0, R1, rdL, rdH, isCall, istep, ibin, vcells, fillI, setR, flat, okCell, isBase, List.set, List.drop, List.take, List.append, bnds, bhi, blo, srcOf, ↓reduceIte, Nat.reduceEqDiff, Nat.reduceAdd, Nat.reduceLeDiff, reduceCtorEq, Nat.reduceSub, Int.reduceEq, Int.reduceLT, Int.reduceLE, Int.reduceGT, Int.reduceGE, Int.reduceSub, Int.reduceAdd, Int.reduceMul, Int.reduceNe, Int.reduceNeg, Int.reduceToNat, Nat.reduceMul, Wa, Wb, Wc, ca1, ca2, ca3, ca4, za, cb1, cb2, cb3, cb4, zb, cc1, cc2, cc3, cc4, zc, ega, eAa1, ra1, ta1, eAa2, ra2, ta2, eAa3, ra3, ta3, eAa4, ra4, ta4, egb, eAb1, rb1, tb1, eAb2, rb2, tb2, eAb3, rb3, tb3, eAb4, rb4, tb4, egc, eAc1, rc1, tc1, eAc2, rc2, tc2, eAc3, rc3, tc3, eAc4, rc4, tc4, eW, eX0, eY0, eX1, eY1, eX2, eY2, hw, spXThree, spR6Three, pZ, spLFixed, ceq, Fin, isEnd, resL, res1, iE, rE]
          exact ⟨_, rfl, rfl, fun k hk => by simp only [ne_nb hk, if_false]⟩
        · simp only [↓R0, R1, rdL, rdH, isCall, istep, ibin, vcells, fillI, setR, flat, okCell, isBase, List.set, List.drop, List.take, List.append, bnds, bhi, blo, srcOf, ↓reduceIte, Nat.reduceEqDiff, Nat.reduceAdd, Nat.reduceLeDiff, reduceCtorEq, Nat.reduceSub, Int.reduceEq, Int.reduceLT, Int.reduceLE, Int.reduceGT, Int.reduceGE, Int.reduceSub, Int.reduceAdd, Int.reduceMul, Int.reduceNe, Int.reduceNeg, Int.reduceToNat, Nat.reduceMul, Wa, Wb, Wc, ca1, ca2, ca3, ca4, za, cb1, cb2, cb3, cb4, zb, cc1, cc2, cc3, cc4, zc, ega, eAa1, ra1, ta1, eAa2, ra2, ta2, eAa3, ra3, ta3, eAa4, ra4, ta4, egb, eAb1, rb1, tb1, eAb2, rb2, tb2, eAb3, rb3, tb3, eAb4, rb4, tb4, egc, eAc1, rc1, tc1, eAc2, rc2, tc2, eAc3, rc3, tc3, eAc4, rc4, tc4, eW, eX0, eY0, eX1, eY1, eX2, eY2, hw, wz0, spLForm, lE, not_false_eq_true, iE]
          simp only [↓R0, R1, rdL, rdH, isCall, istep, ibin, vcells, fillI, setR, flat, okCell, isBase, List.set, List.drop, List.take, List.append, bnds, bhi, blo, srcOf, ↓reduceIte, Nat.reduceEqDiff, Nat.reduceAdd, Nat.reduceLeDiff, reduceCtorEq, Nat.reduceSub, Int.reduceEq, Int.reduceLT, Int.reduceLE, Int.reduceGT, Int.reduceGE, Int.reduceSub, Int.reduceAdd, Int.reduceMul, Int.reduceNe, Int.reduceNeg, Int.reduceToNat, Nat.reduceMul, Wa, Wb, Wc, ca1, ca2, ca3, ca4, za, cb1, cb2, cb3, cb4, zb, cc1, cc2, cc3, cc4, zc, ega, eAa1, ra1, ta1, eAa2, ra2, ta2, eAa3, ra3, ta3, eAa4, ra4, ta4, egb, eAb1, rb1, tb1, eAb2, rb2, tb2, eAb3, rb3, tb3, eAb4, rb4, tb4, egc, eAc1, rc1, tc1, eAc2, rc2, tc2, eAc3, rc3, tc3, eAc4, rc4, tc4, eW, eX0, eY0, eX1, eY1, eX2, eY2, hw, spXThree, spR6Three, pE, spLFixed, ceq, Fin, isEnd, resL, res1, iE, rE]
          exact ⟨_, rfl, rfl, fun k hk => by simp only [ne_nb hk, if_false]⟩
      · have Wc := nc gc
        simp only [↓R0, R1, rdL, rdH, isCall, istep, ibin, vcells, fillI, setR, flat, okCell, isBase, List.set, List.drop, List.take, List.append, bnds, bhi, blo, srcOf, ↓reduceIte, Nat.reduceEqDiff, Nat.reduceAdd, Nat.reduceLeDiff, reduceCtorEq, Nat.reduceSub, Int.reduceEq, Int.reduceLT, Int.reduceLE, Int.reduceGT, Int.reduceGE, Int.reduceSub, Int.reduceAdd, Int.reduceMul, Int.reduceNe, Int.reduceNeg, Int.reduceToNat, Nat.reduceMul, Wa, Wb, Wc, wz0, w1, w2, w3, Int.add_zero, Int.zero_add, spLFixed, Fin, isEnd, resL, res1, iE, rE]
        exact ⟨_, rfl, rfl, fun k hk => by simp only [ne_nb hk, if_false]⟩
    · have Wb := nb gb
      by_cases gc : Gc
      · have Wc := yc gc
        simp only [↓R0, R1, rdL, rdH, isCall, istep, ibin, vcells, fillI, setR, flat, okCell, isBase, List.set, List.drop, List.take, List.append, bnds, bhi, blo, srcOf, ↓reduceIte, Nat.reduceEqDiff, Nat.reduceAdd, Nat.reduceLeDiff, reduceCtorEq, Nat.reduceSub, Int.reduceEq, Int.reduceLT, Int.reduceLE, Int.reduceGT, Int.reduceGE, Int.reduceSub, Int.reduceAdd, Int.reduceMul, Int.reduceNe, Int.reduceNeg, Int.reduceToNat, Nat.reduceMul, Wa, Wb, Wc, wz0, w1, w2, w3, Int.add_zero, Int.zero_add, spLFixed, Fin, isEnd, resL, res1, iE, rE]
        exact ⟨_, rfl, rfl, fun k hk => by simp only [ne_nb hk, if_false]⟩
      · have Wc := nc gc
        simp only [↓R0, R1, rdL, rdH, isCall, istep, ibin, vcells, fillI, setR, flat, okCell, isBase, List.set, List.drop, List.take, List.append, bnds, bhi, blo, srcOf, ↓reduceIte, Nat.reduceEqDiff, Nat.reduceAdd, Nat.reduceLeDiff, reduceCtorEq, Nat.reduceSub, Int.reduceEq, Int.reduceLT, Int.reduceLE, Int.reduceGT, Int.reduceGE, Int.reduceSub, Int.reduceAdd, Int.reduceMul, Int.reduceNe, Int.reduceNeg, Int.reduceToNat, Nat.reduceMul, Wa, Wb, Wc, wz0, w1, w2, w3, Int.add_zero, Int.zero_add, spLFixed, Fin, isEnd, resL, res1, iE, rE]
        exact ⟨_, rfl, rfl, fun k hk => by simp only [ne_nb hk, if_false]⟩
  · have Wa := na ga
    by_cases gb : Gb
    · have Wb := yb gb
      by_cases gc : Gc
      · have Wc := yc gc
        simp only [↓R0, R1, rdL, rdH, isCall, istep, ibin, vcells, fillI, setR, flat, okCell, isBase, List.set, List.drop, List.take, List.append, bnds, bhi, blo, srcOf, ↓reduceIte, Nat.reduceEqDiff, Nat.reduceAdd, Nat.reduceLeDiff, reduceCtorEq, Nat.reduceSub, Int.reduceEq, Int.reduceLT, Int.reduceLE, Int.reduceGT, Int.reduceGE, Int.reduceSub, Int.reduceAdd, Int.reduceMul, Int.reduceNe, Int.reduceNeg, Int.reduceToNat, Nat.reduceMul, Wa, Wb, Wc, wz0, w1, w2, w3, Int.add_zero, Int.zero_add, spLFixed, Fin, isEnd, resL, res1, iE, rE]
        exact ⟨_, rfl, rfl, fun k hk => by simp only [ne_nb hk, if_false]⟩
      · have Wc := nc gc
        simp only [↓R0, R1, rdL, rdH, isCall, istep, ibin, vcells, fillI, setR, flat, okCell, isBase, List.set, List.drop, List.take, List.append, bnds, bhi, blo, srcOf, ↓reduceIte, Nat.reduceEqDiff, Nat.reduceAdd, Nat.reduceLeDiff, reduceCtorEq, Nat.reduceSub, Int.reduceEq, Int.reduceLT, Int.reduceLE, Int.reduceGT, Int.reduceGE, Int.reduceSub, Int.reduceAdd, Int.reduceMul, Int.reduceNe, Int.reduceNeg, Int.reduceToNat, Nat.reduceMul, Wa, Wb, Wc, wz0, w1, w2, w3, Int.add_zero, Int.zero_add, spLFixed, Fin, isEnd, resL, res1, iE, rE]
        exact ⟨_, rfl, rfl, fun k hk => by simp only [ne_nb hk, if_false]⟩
    · have Wb := nb gb
      by_cases gc : Gc
      · have Wc := yc gc
        simp only [↓R0, R1, rdL, rdH, isCall, istep, ibin, vcells, fillI, setR, flat, okCell, isBase, List.set, List.drop, List.take, List.append, bnds, bhi, blo, srcOf, ↓reduceIte, Nat.reduceEqDiff, Nat.reduceAdd, Nat.reduceLeDiff, reduceCtorEq, Nat.reduceSub, Int.reduceEq, Int.reduceLT, Int.reduceLE, Int.reduceGT, Int.reduceGE, Int.reduceSub, Int.reduceAdd, Int.reduceMul, Int.reduceNe, Int.reduceNeg, Int.reduceToNat, Nat.reduceMul, Wa, Wb, Wc, wz0, w1, w2, w3, Int.add_zero, Int.zero_add, spLFixed, Fin, isEnd, resL, res1, iE, rE]
        exact ⟨_, rfl, rfl, fun k hk => by simp only [ne_nb hk, if_false]⟩
      · have Wc := nc gc
        simp only [↓R0, R1, rdL, rdH, isCall, istep, ibin, vcells, fillI, setR, flat, okCell, isBase, List.set, List.drop, List.take, List.append, bnds, bhi, blo, srcOf, ↓reduceIte, Nat.reduceEqDiff, Nat.reduceAdd, Nat.reduceLeDiff, reduceCtorEq, Nat.reduceSub, Int.reduceEq, Int.reduceLT, Int.reduceLE, Int.reduceGT, Int.reduceGE, Int.reduceSub, Int.reduceAdd, Int.reduceMul, Int.reduceNe, Int.reduceNeg, Int.reduceToNat, Nat.reduceMul, Wa, Wb, Wc, wz0, w1, w2, w3, Int.add_zero, Int.zero_add, spLFixed, Fin, isEnd, resL, res1, iE, rE]
        exact ⟨_, rfl, rfl, fun k hk => by simp only [ne_nb hk, if_false]⟩
end Go.Eng
end
section
set_option linter.unusedVariables false
set_option linter.unusedSimpArgs false
set_option linter.unusedSectionVars false
namespace Go.Eng
def kmatch : List Kd → List Value → Prop
  | [], [] => True
  | .b :: ks, .bool _ :: r => kmatch ks r
  | .i :: ks, .int _ _ :: r => kmatch ks r
  | .s :: ks, .string _ :: r => kmatch ks r
  | _, _ => False
theorem kmatch_append : ∀ {ks ks' : List Kd} {cs cs' : List Value}, kmatch ks cs → kmatch ks' cs' → kmatch (ks ++ ks') (cs ++ cs')
  | [], _, [], _, _, h => h
  | [], _, _ :: _, _, h, _ => h.elim
  | .b :: ks, ks', cs, cs', h, h' => by
    match cs, h with
    | .bool _ :: r, h => exact kmatch_append (ks := ks) h h'
  | .i :: ks, ks', cs, cs', h, h' => by
    match cs, h with
    | .int _ _ :: r, h => exact kmatch_append (ks := ks) h h'
  | .s :: ks, ks', cs, cs', h, h' => by
    match cs, h with
    | .string _ :: r, h => exact kmatch_append (ks := ks) h h'
section
variable {H : Type} {enc : TypeId × Value → H} {P : Program}
theorem cellsOf_sz {t : TypeId} {n : Nat} (h : szOf P t = some n) : P.cellsOf t = n := by
  unfold Program.cellsOf; unfold szOf at h; rw [h]; rfl
def Plain (P : Program) (enc : TypeId × Value → H) (fuel : Nat) (t : TypeId) (ks : List Kd) : Prop :=
  ∀ (w : World) (base : Nat) (spare : Nat → Bool) (held : Bool) (cs : List Value) (x : DataW H × List MemPlace), DataW.trod enc P w base spare held fuel t cs = some x →
    kmatch ks cs ∧ x.2 = [] ∧ ∀ w' base' spare' held', DataW.trod enc P w' base' spare' held' fuel t cs = some x
theorem plain_fields {fuel : Nat} {ty : TypeId → Option (List Kd)} (hty : ∀ t ks n, ty t = some ks → szOf P t = some n → ks.length = n → Plain P enc fuel t ks) :
    ∀ (fs : List Field) (off : Nat) (ks : List Kd), flatFs ty P fs off = some ks → ∀ (w : World) (base : Nat) (spare : Nat → Bool) (held : Bool) (cs : List Value) (xs : List (DataW H × List MemPlace)),
      (fs.mapM fun f => DataW.trod enc P w base spare held fuel f.type ((cs.drop f.offset).take (P.cellsOf f.type))) = some xs → cs.length = off + ks.length →
      kmatch ks (cs.drop off) ∧ xs.flatMap (·.2) = [] ∧ ∀ w' base' spare' held', (fs.mapM fun f => DataW.trod enc P w' base' spare' held' fuel f.type ((cs.drop f.offset).take (P.cellsOf f.type))) = some xs
  | [], off, ks, h, w, base, spare, held, cs, xs, hm, hl => by
    simp only [flatFs, Option.some.injEq] at h
    subst h
    simp only [List.mapM_nil, Option.pure_def, Option.some.injEq] at hm
    subst hm
    simp only [List.length_nil, Nat.add_zero] at hl
    rw [List.drop_eq_nil_of_le (by omega)]
    exact ⟨trivial, rfl, fun _ _ _ _ => rfl⟩
  | f :: r, off, ks, h, w, base, spare, held, cs, xs, hm, hl => by
    simp only [flatFs] at h
    split at h
    case isFalse => cases h
    rename_i hc
    obtain ⟨_, hoff⟩ := hc
    split at h
    case h_2 => cases h
    rename_i ks0 n hk hn
    split at h
    case isFalse => cases h
    rename_i hlen
    rw [Option.map_eq_some_iff] at h
    obtain ⟨ks1, h1, rfl⟩ := h
    have hsz := cellsOf_sz hn
    simp only [List.mapM_cons, Option.bind_eq_bind, Option.bind_eq_some_iff, Option.pure_def, Option.some.injEq] at hm
    obtain ⟨y, hy, ys, hys, rfl⟩ := hm
    have hp := hty f.type ks0 n hk hn hlen w base spare held _ y hy
    obtain ⟨p1, p2, p3⟩ := hp
    simp only [List.length_append] at hl
    obtain ⟨q1, q2, q3⟩ := plain_fields hty r (off + n) ks1 h1 w base spare held cs ys hys (by omega)
    rw [hoff, hsz] at p1
    refine ⟨?_, ?_, ?_⟩
    · have e : cs.drop off = (cs.drop off).take n ++ cs.drop (off + n) := by
        rw [← List.drop_drop, List.take_append_drop]
      rw [e]
      exact kmatch_append p1 q1
    · simp only [List.flatMap_cons, p2, q2, List.nil_append]
    · intro w' base' spare' held'
      simp only [List.mapM_cons, Option.bind_eq_bind, Option.bind_eq_some_iff, Option.pure_def, Option.some.injEq]
      exact ⟨y, p3 w' base' spare' held', ys, q3 w' base' spare' held', rfl⟩
theorem plain_elems {fuel : Nat} {e : TypeId} {ks : List Kd} {n : Nat} (hn : szOf P e = some n) (hl : ks.length = n) (he : Plain P enc fuel e ks) :
    ∀ (m i0 : Nat) (w : World) (base : Nat) (spare : Nat → Bool) (held : Bool) (cs : List Value) (xs : List (DataW H × List MemPlace)),
      ((List.range' i0 m).mapM fun i => DataW.trod enc P w base spare held fuel e ((cs.drop (i * P.cellsOf e)).take (P.cellsOf e))) = some xs → cs.length = (i0 + m) * n →
      kmatch (List.replicate m ks).flatten (cs.drop (i0 * n)) ∧ xs.flatMap (·.2) = [] ∧ ∀ w' base' spare' held', ((List.range' i0 m).mapM fun i => DataW.trod enc P w' base' spare' held' fuel e ((cs.drop (i * P.cellsOf e)).take (P.cellsOf e))) = some xs
  | 0, i0, w, base, spare, held, cs, xs, hm, hlen => by
    simp only [List.range'_zero, List.mapM_nil, Option.pure_def, Option.some.injEq] at hm
    subst hm
    simp only [Nat.add_zero] at hlen
    rw [List.drop_eq_nil_of_le (by omega)]
    exact ⟨trivial, rfl, fun _ _ _ _ => by simp⟩
  | m + 1, i0, w, base, spare, held, cs, xs, hm, hlen => by
    have hsz := cellsOf_sz hn
    simp only [List.range'_succ, List.mapM_cons, Option.bind_eq_bind, Option.bind_eq_some_iff, Option.pure_def, Option.some.injEq] at hm
    obtain ⟨y, hy, ys, hys, rfl⟩ := hm
    obtain ⟨p1, p2, p3⟩ := he w base spare held _ y hy
    obtain ⟨q1, q2, q3⟩ := plain_elems hn hl he m (i0 + 1) w base spare held cs ys hys (by rw [hlen]; congr 1; omega)
    rw [hsz] at p1
    refine ⟨?_, ?_, ?_⟩
    · rw [List.replicate_succ, List.flatten_cons]
      have e : cs.drop (i0 * n) = (cs.drop (i0 * n)).take n ++ cs.drop ((i0 + 1) * n) := by
        rw [Nat.succ_mul, ← List.drop_drop, List.take_append_drop]
      rw [e]
      exact kmatch_append p1 q1
    · simp only [List.flatMap_cons, p2, q2, List.nil_append]
    · intro w' base' spare' held'
      simp only [List.range'_succ, List.mapM_cons, Option.bind_eq_bind, Option.bind_eq_some_iff, Option.pure_def, Option.some.injEq]
      exact ⟨y, p3 w' base' spare' held', ys, q3 w' base' spare' held', rfl⟩
theorem plain_ty : ∀ (fuel d : Nat) (t : TypeId) (ks : List Kd) (n : Nat), flatTy P d t = some ks → szOf P t = some n → ks.length = n → Plain P enc fuel t ks
  | 0, d, t, ks, n, h, hn, hl => by intro w base spare held cs x hx; simp [DataW.trod] at hx
  | fuel + 1, 0, t, ks, n, h, hn, hl => by simp [flatTy] at h
  | fuel + 1, d + 1, t, ks, n, h, hn, hl => by
    intro w base spare held cs x hx
    unfold flatTy at h
    unfold DataW.trod at hx ⊢
    split at h
    · rename_i hu
      cases h
      rw [hu] at hx ⊢
      match cs, hx with
      | [.bool b], hx => simp only [Option.some.injEq] at hx; subst hx; exact ⟨trivial, rfl, fun _ _ _ _ => rfl⟩
    · rename_i k hu
      cases h
      rw [hu] at hx ⊢
      match cs, hx with
      | [.int k' m], hx =>
        simp only at hx
        split at hx
        · rename_i hc
          simp only [Option.some.injEq] at hx; subst hx
          exact ⟨trivial, rfl, fun _ _ _ _ => by simp only; rw [if_pos hc]⟩
        · cases hx
    · rename_i hu
      cases h
      rw [hu] at hx ⊢
      match cs, hx with
      | [.string s], hx =>
        simp only at hx
        split at hx
        · rename_i hc
          simp only [Option.some.injEq] at hx; subst hx
          exact ⟨trivial, rfl, fun _ _ _ _ => by simp only; rw [if_pos hc]⟩
        · cases hx
    · rename_i fs hu
      split at h
      · cases h
      rw [hu] at hx ⊢
      simp only at hx ⊢
      split at hx
      case isFalse => cases hx
      rename_i hlen
      rw [Option.map_eq_some_iff] at hx
      obtain ⟨xs, hxs, rfl⟩ := hx
      rw [cellsOf_sz hn, ← hl] at hlen
      obtain ⟨p1, p2, p3⟩ := plain_fields (fuel := fuel) (fun t ks n h1 h2 h3 => plain_ty fuel d t ks n h1 h2 h3) fs.toList 0 ks h w base spare held cs xs hxs (by omega)
      refine ⟨by simpa using p1, p2, fun w' base' spare' held' => ?_⟩
      rw [if_pos (by rw [cellsOf_sz hn, ← hl, hlen]), p3]; rfl
    · rename_i len e hu
      split at h
      case h_2 => cases h
      rename_i ks0 m hk hm
      split at h
      case isFalse => cases h
      rename_i hlm
      simp only [Option.some.injEq] at h
      subst h
      rw [hu] at hx ⊢
      simp only at hx ⊢
      split at hx
      case isFalse => cases hx
      rename_i hlen
      rw [Option.map_eq_some_iff] at hx
      obtain ⟨xs, hxs, rfl⟩ := hx
      rw [cellsOf_sz hn, ← hl] at hlen
      rw [List.range_eq_range'] at hxs
      have hfl : ((List.replicate len ks0).flatten).length = len * m := by rw [List.length_flatten]; simp [hlm]
      obtain ⟨p1, p2, p3⟩ := plain_elems hm hlm (plain_ty fuel d e ks0 m hk hm hlm) len 0 w base spare held cs xs hxs (by rw [hlen, hfl, Nat.zero_add])
      refine ⟨by simpa using p1, p2, fun w' base' spare' held' => ?_⟩
      rw [if_pos (by rw [cellsOf_sz hn, ← hl, hlen]), List.range_eq_range', p3]; rfl
    · cases h
theorem trod_plain {w : World} {t : TypeId} {v : Value} {d : DataW H} {ps : List MemPlace} {ks : List Kd} {n : Nat} {base : Nat} {spare : Nat → Bool} {held : Bool}
    (hf : flatTy P 20 t = some ks) (hs : szOf P t = some n) (hl : ks.length = n) (h : DataW.Trod enc P w base spare held t v d ps) :
    kmatch ks v.cells.toList ∧ ps = [] ∧ ∀ w' base' spare' held', DataW.Trod enc P w' base' spare' held' t v d ps := by
  obtain ⟨fuel, h⟩ := h
  obtain ⟨p1, p2, p3⟩ := plain_ty fuel 20 t ks n hf hs hl w base spare held _ _ h
  exact ⟨p1, p2, fun w' base' spare' held' => ⟨fuel, p3 w' base' spare' held'⟩⟩
end
theorem agg_of {v : Value} {cs : List Value} (h : v.cells.toList = cs) (h2 : 2 ≤ cs.length) : v = .agg ⟨cs⟩ := by
  rw [vcells_eq] at h
  cases v <;> simp [vcells] at h <;> subst h <;> first | rfl | simp at h2
theorem flat_calls {P : Program} {f : Nat} {G : List Value → Option Value} (hS : SpecOK P f (flat G)) {args : List Value} {v : Value} (hG : G args = some v) (ha : ∀ β, VRs β args args) (hv : isBase v = true) (w : World) :
    Calls P f ⟨args⟩ w fun e w' => e = .returned v ∧ w.keptBut w' (fun _ => False) := by
  have h := hS.ok args [] 0 (v, [], 0) (by simp [flat, hG]) (fun _ => none) w args (ha _)
    ⟨fun k b e => by simp [hget] at e, fun k k' L L' e => by simp [hget] at e, fun k L e => by cases e⟩ (fun _ _ _ => rfl) ⟨0, fun k e => absurd rfl e⟩
  refine h.mono ?_
  rintro e w' ⟨β', v', he, hvr, hrel, hfr, _⟩
  refine ⟨?_, hfr.os, hfr.out, fun i hi => ?_⟩
  · rw [he, hvr.base_left hv]
  · rw [hfr.keep i hi (fun k L hk => by simp [hget] at hk)]
    cases w.heap[i]? with
    | none => rfl
    | some o =>
      cases o with
      | cells c t fr => exact ⟨rfl, rfl, rfl, fun _ _ => rfl⟩
      | map es cl => exact .inr ⟨rfl, rfl⟩
      | _ => rfl
end Go.Eng
end
