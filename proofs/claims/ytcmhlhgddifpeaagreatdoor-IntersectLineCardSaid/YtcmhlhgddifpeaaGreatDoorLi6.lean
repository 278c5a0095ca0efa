/-
  A part of the proof: the machine, the contracts of the functions and the plain laws, merged from smaller texts.
-/
import Derived.Test.YtcmhlhgddifpeaaGreatDoorLi5
import Derived.RowKit3
import Derived.ChangeSame
section
set_option linter.unusedVariables false
set_option linter.unusedSimpArgs false
set_option linter.unusedSectionVars false
set_option maxRecDepth 20000
namespace Go.Eng
open Go Go.Proofs Go.IntWalk
def spXAbove : List Value → Option Value
  | [.agg ⟨[.bool s1, .string ⟨⟨l1⟩⟩, .bool s2, .string ⟨⟨l2⟩⟩, .bool s3, .string ⟨⟨l3⟩⟩, .bool s4, .string ⟨⟨l4⟩⟩]⟩, .agg ⟨[.bool t1, .string ⟨⟨m1⟩⟩, .bool t2, .string ⟨⟨m2⟩⟩, .bool t3, .string ⟨⟨m3⟩⟩, .bool t4, .string ⟨⟨m4⟩⟩]⟩] =>
    if l1.length ≤ 4294967296 ∧ l2.length ≤ 4294967296 ∧ l3.length ≤ 4294967296 ∧ l4.length ≤ 4294967296 ∧ m1.length ≤ 4294967296 ∧ m2.length ≤ 4294967296 ∧ m3.length ≤ 4294967296 ∧ m4.length ≤ 4294967296 then
      some (.agg ⟨iE (sv s1 l1 * sv t1 m1 + sv s2 l2 * sv t2 m2 + sv s3 l3 * sv t3 m3 - sv s4 l4 * sv t4 m4)⟩) else none
  | _ => none
def c52 : ICode :=
  (.seq (.reg [⟨(some 2), none, (.box 25 8 (.t 0))⟩, ⟨(some 3), none, (.box 30 8 (.t 1))⟩, ⟨(some 4), none, (.alloc 23 2 [(.bool false), (.string ⟨⟨[]⟩⟩)])⟩])
  (.seq (.dreg [⟨(some 5), none, [], (.load true 8 (.t 2))⟩, ⟨(some 6), none, [], (.call 33 [(.t 5)])⟩, ⟨(some 7), none, [], (.faddr 0 (.t 3))⟩, ⟨(some 8), none, [1], (.load true 2 (.t 7))⟩, ⟨(some 9), none, [], (.faddr 2 (.t 3))⟩, ⟨(some 10), none, [1], (.load true 2 (.t 9))⟩, ⟨(some 11), none, [], (.faddr 4 (.t 3))⟩, ⟨(some 12), none, [1], (.load true 2 (.t 11))⟩, ⟨(some 13), none, [], (.build [(.bool false), (.string ⟨⟨[]⟩⟩), (.bool false), (.string ⟨⟨[]⟩⟩), (.bool false), (.string ⟨⟨[]⟩⟩)] [(0, 2, (.t 8)), (2, 2, (.t 10)), (4, 2, (.t 12))])⟩, ⟨(some 14), none, [], (.call 37 [(.t 6), (.t 13)])⟩, ⟨(some 15), none, [], (.faddr 6 (.t 2))⟩, ⟨(some 16), none, [1, 9], (.load true 2 (.t 15))⟩, ⟨(some 17), none, [], (.faddr 6 (.t 3))⟩, ⟨(some 18), none, [1, 9], (.load true 2 (.t 17))⟩, ⟨(some 19), none, [], (.call 35 [(.t 16), (.t 18)])⟩, ⟨(some 20), none, [], (.call 54 [(.t 14), (.t 19)])⟩, ⟨none, none, [], (.store 2 (.t 4) (.t 20))⟩])
  .ret))
theorem tr52 : trFun Tryz.prog 52 = some ⟨21, [.cell 4 true 2], c52⟩ := by kernel_rfl
set_option maxHeartbeats 2000000 in
theorem ok_xAbove : SpecOK Tryz.prog 52 (flat spXAbove) := by
  refine flat_run (env_cons ok_xNormal (env_cons ok_xDot (env_cons ok_iMul (env_cons ok_iSub (env_nil _))))) mixed tr52 ?_
  intro args v h N hG
  unfold spXAbove at hG
  split at hG
  case h_2 => cases hG
  rename_i s1 l1 s2 l2 s3 l3 s4 l4 t1 m1 t2 m2 t3 m3 t4 m4
  split at hG
  case isFalse => cases hG
  rename_i hl
  obtain ⟨h1, h2, h3, h4, g1, g2, g3, g4⟩ := hl
  cases hG
  refine ⟨rfl, by simp, ?_⟩
  have a1 : l1.length ≤ 17179869184 := by omega
  have a2 : l2.length ≤ 17179869184 := by omega
  have a3 : l3.length ≤ 17179869184 := by omega
  have a4 : l4.length ≤ 34359738368 := by omega
  have b1 : m1.length ≤ 17179869184 := by omega
  have b2 : m2.length ≤ 17179869184 := by omega
  have b3 : m3.length ≤ 17179869184 := by omega
  have b4 : m4.length ≤ 34359738368 := by omega
  have p1 := lmul (k := 8589934592) (len_sv (s := s1) h1) (len_sv (s := t1) g1) (by omega)
  have p2 := lmul (k := 8589934592) (len_sv (s := s2) h2) (len_sv (s := t2) g2) (by omega)
  have p3 := lmul (k := 8589934592) (len_sv (s := s3) h3) (len_sv (s := t3) g3) (by omega)
  have p4 := lmul (k := 68719476736) (len_sv (s := s4) h4) (len_sv (s := t4) g4) (by omega)
  have q1 := ladd (k := 68719476736) (ladd (k := 8589934593) p1 p2 (by omega)) p3 (by omega)
  simp only [c52, initT, List.zipIdx_cons, List.zipIdx_nil, List.map_cons, List.map_nil, Nat.reduceAdd]
  simp only [↓R0, R1, rdL, rdH, isCall, istep, ibin, vcells, fillI, setR, flat, okCell, isBase, List.set, List.drop, List.take, List.append, bnds, bhi, blo, srcOf, ↓reduceIte, Nat.reduceEqDiff, Nat.reduceAdd, Nat.reduceLeDiff, reduceCtorEq, Nat.reduceSub, Int.reduceEq, Int.reduceLT, Int.reduceLE, Int.reduceGT, Int.reduceGE, Int.reduceSub, Int.reduceAdd, Int.reduceMul, Int.reduceNe, Int.reduceNeg, Int.reduceToNat, Nat.reduceMul, spXNormal, spXDot, spIMul, spISub, a1, a2, a3, a4, b1, b2, b3, b4, p4, q1, Fin, isEnd, resL, res1, iE, rE]
  exact ⟨_, rfl, rfl, fun k hk => by simp only [ne_nb hk, if_false]⟩
def spXBetw : List Value → Heap → Option Value
  | [.agg ⟨[.bool s1, .string ⟨⟨l1⟩⟩]⟩, .agg ⟨[.bool s2, .string ⟨⟨l2⟩⟩]⟩, .pointer (some ⟨k, 0, none⟩), .pointer (some ⟨k', 0, none⟩)], h => match hget h k, hget h k' with
    | some ⟨_, _, _, [.bool t1, .string ⟨⟨m1⟩⟩]⟩, some ⟨_, _, _, [.bool t2, .string ⟨⟨m2⟩⟩]⟩ =>
      if l1.length ≤ 17179869184 ∧ l2.length ≤ 17179869184 ∧ m1.length ≤ 17179869184 ∧ m2.length ≤ 17179869184 then some (.agg ⟨iE (sv s1 l1 * sv t1 m1 - sv s2 l2 * sv t2 m2)⟩) else none
    | _, _ => none
  | _, _ => none
def c53 : ICode :=
  (.seq (.reg [⟨(some 4), none, (.box 23 2 (.t 0))⟩, ⟨(some 5), none, (.box 23 2 (.t 1))⟩, ⟨(some 6), none, (.alloc 23 2 [(.bool false), (.string ⟨⟨[]⟩⟩)])⟩])
  (.seq (.dreg [⟨(some 7), none, [], (.load true 2 (.t 4))⟩, ⟨(some 8), none, [], (.load true 2 (.t 2))⟩, ⟨(some 9), none, [], (.call 35 [(.t 7), (.t 8)])⟩, ⟨(some 10), none, [2], (.load true 2 (.t 5))⟩, ⟨(some 11), none, [2], (.load true 2 (.t 3))⟩, ⟨(some 12), none, [], (.call 35 [(.t 10), (.t 11)])⟩, ⟨(some 13), none, [], (.call 54 [(.t 9), (.t 12)])⟩, ⟨none, none, [], (.store 2 (.t 6) (.t 13))⟩])
  .ret))
theorem tr53 : trFun Tryz.prog 53 = some ⟨14, [.cell 6 true 2], c53⟩ := by kernel_rfl
theorem ok_xBetw : SpecOK Tryz.prog 53 (rdS spXBetw) := by
  refine rd_run (env_cons ok_iMul (env_cons ok_iSub (env_nil _))) mixed tr53 ?_ ?_
  · intro args h h' v hle e
    unfold spXBetw at e ⊢
    split at e
    · split at e
      · rename_i b1 b2
        simp only [hle _ _ b1, hle _ _ b2]; exact e
      · cases e
    · cases e
  intro args v h N hG hN
  unfold spXBetw at hG
  split at hG
  case h_2 => cases hG
  rename_i s1 l1 s2 l2 k k'
  split at hG
  case h_2 => cases hG
  rename_i e1 z1 x1 t1 m1 e2 z2 x2 t2 m2 hb1 hb2
  split at hG
  case isFalse => cases hG
  rename_i hl
  obtain ⟨h1, h2, h3, h4⟩ := hl
  cases hG
  refine ⟨rfl, by simp, ?_⟩
  have k1 := hN _ _ hb1
  have k2 := hN _ _ hb2
  have ne1 : ∀ j, (N + j = k) = False := fun j => eq_false (by omega)
  have ne2 : ∀ j, (N + j = k') = False := fun j => eq_false (by omega)
  have a1 : l1.length ≤ 34359738368 := by omega
  have a2 : l2.length ≤ 34359738368 := by omega
  have b1 : m1.length ≤ 34359738368 := by omega
  have b2 : m2.length ≤ 34359738368 := by omega
  have p1 := lmul (k := 68719476736) (len_sv (s := s1) h1) (len_sv (s := t1) h3) (by omega)
  have p2 := lmul (k := 68719476736) (len_sv (s := s2) h2) (len_sv (s := t2) h4) (by omega)
  simp only [c53, initT, List.zipIdx_cons, List.zipIdx_nil, List.map_cons, List.map_nil, Nat.reduceAdd]
  simp only [↓R0, R1, rdL, rdH, isCall, istep, ibin, vcells, fillI, setR, flat, okCell, isBase, List.set, List.drop, List.take, List.append, bnds, bhi, blo, srcOf, ↓reduceIte, Nat.reduceEqDiff, Nat.reduceAdd, Nat.reduceLeDiff, reduceCtorEq, Nat.reduceSub, Int.reduceEq, Int.reduceLT, Int.reduceLE, Int.reduceGT, Int.reduceGE, Int.reduceSub, Int.reduceAdd, Int.reduceMul, Int.reduceNe, Int.reduceNeg, Int.reduceToNat, Nat.reduceMul, ne1, ne2, hb1, hb2, spIMul, spISub, a1, a2, b1, b2, p1, p2, Fin, isEnd, resL, res1, iE, rE]
  exact ⟨_, rfl, rfl, fun k hk => by simp only [ne_nb hk, if_false]⟩
def spXLine : List Value → Option Value
  | [.agg ⟨[.bool s1, .string ⟨⟨l1⟩⟩, .bool s2, .string ⟨⟨l2⟩⟩, .bool s3, .string ⟨⟨l3⟩⟩, .bool s4, .string ⟨⟨l4⟩⟩]⟩, .agg ⟨[.bool t1, .string ⟨⟨m1⟩⟩, .bool t2, .string ⟨⟨m2⟩⟩, .bool t3, .string ⟨⟨m3⟩⟩, .bool t4, .string ⟨⟨m4⟩⟩]⟩,
      .agg ⟨[.bool u1, .string ⟨⟨o1⟩⟩, .bool u2, .string ⟨⟨o2⟩⟩, .bool u3, .string ⟨⟨o3⟩⟩, .bool u4, .string ⟨⟨o4⟩⟩]⟩] =>
    if l1.length ≤ 2147483648 ∧ l2.length ≤ 2147483648 ∧ l3.length ≤ 2147483648 ∧ l4.length ≤ 2147483648 ∧ m1.length ≤ 2147483648 ∧ m2.length ≤ 2147483648 ∧ m3.length ≤ 2147483648 ∧ m4.length ≤ 2147483648 ∧
      o1.length ≤ 2147483648 ∧ o2.length ≤ 2147483648 ∧ o3.length ≤ 2147483648 ∧ o4.length ≤ 2147483648 then
      (if t1 = u1 ∧ m1 = o1 ∧ t2 = u2 ∧ m2 = o2 ∧ t3 = u3 ∧ m3 = o3 ∧ t4 = u4 ∧ m4 = o4 then some (.tuple ⟨[.agg ⟨pZ⟩, .bool false]⟩) else
      if sv t4 m4 * (sv s1 l1 * sv u1 o1 + sv s2 l2 * sv u2 o2 + sv s3 l3 * sv u3 o3 - sv s4 l4 * sv u4 o4) - sv u4 o4 * (sv s1 l1 * sv t1 m1 + sv s2 l2 * sv t2 m2 + sv s3 l3 * sv t3 m3 - sv s4 l4 * sv t4 m4) = 0 then some (.tuple ⟨[.agg ⟨pZ⟩, .bool false]⟩) else
      some (.tuple ⟨[.agg ⟨pE (sv t1 m1 * (sv s1 l1 * sv u1 o1 + sv s2 l2 * sv u2 o2 + sv s3 l3 * sv u3 o3 - sv s4 l4 * sv u4 o4) - sv u1 o1 * (sv s1 l1 * sv t1 m1 + sv s2 l2 * sv t2 m2 + sv s3 l3 * sv t3 m3 - sv s4 l4 * sv t4 m4))
        (sv t2 m2 * (sv s1 l1 * sv u1 o1 + sv s2 l2 * sv u2 o2 + sv s3 l3 * sv u3 o3 - sv s4 l4 * sv u4 o4) - sv u2 o2 * (sv s1 l1 * sv t1 m1 + sv s2 l2 * sv t2 m2 + sv s3 l3 * sv t3 m3 - sv s4 l4 * sv t4 m4))
        (sv t3 m3 * (sv s1 l1 * sv u1 o1 + sv s2 l2 * sv u2 o2 + sv s3 l3 * sv u3 o3 - sv s4 l4 * sv u4 o4) - sv u3 o3 * (sv s1 l1 * sv t1 m1 + sv s2 l2 * sv t2 m2 + sv s3 l3 * sv t3 m3 - sv s4 l4 * sv t4 m4))
        (sv t4 m4 * (sv s1 l1 * sv u1 o1 + sv s2 l2 * sv u2 o2 + sv s3 l3 * sv u3 o3 - sv s4 l4 * sv u4 o4) - sv u4 o4 * (sv s1 l1 * sv t1 m1 + sv s2 l2 * sv t2 m2 + sv s3 l3 * sv t3 m3 - sv s4 l4 * sv t4 m4))⟩, .bool true]⟩)) else none
  | _ => none
def c15 : ICode :=
  (.seq (.reg [⟨(some 3), none, (.box 25 8 (.t 0))⟩, ⟨(some 4), none, (.box 30 8 (.t 1))⟩, ⟨(some 5), none, (.box 30 8 (.t 2))⟩, ⟨(some 6), none, (.alloc 30 8 [(.bool false), (.string ⟨⟨[]⟩⟩), (.bool false), (.string ⟨⟨[]⟩⟩), (.bool false), (.string ⟨⟨[]⟩⟩), (.bool false), (.string ⟨⟨[]⟩⟩)])⟩, ⟨(some 7), none, (.mv (.c (.bool false)))⟩])
  (.seq (.seq (.reg [⟨(some 11), none, (.load true 8 (.t 4))⟩, ⟨(some 12), none, (.load true 8 (.t 5))⟩, ⟨(some 13), none, (.eqa false [.b, .s, .b, .s, .b, .s, .b, .s] (.t 11) (.t 12))⟩])
  (.cond (.t 13)
  (.seq (.reg [⟨(some 14), none, (.build [(.bool false), (.string ⟨⟨[]⟩⟩), (.bool false), (.string ⟨⟨[]⟩⟩), (.bool false), (.string ⟨⟨[]⟩⟩), (.bool false), (.string ⟨⟨[]⟩⟩)] [])⟩, ⟨none, none, (.store 8 (.t 6) (.t 14))⟩, ⟨(some 7), none, (.mv (.c (.bool false)))⟩])
  .ret)
  .skip))
  (.seq (.dreg [⟨(some 15), none, [], (.load true 8 (.t 3))⟩, ⟨(some 16), none, [], (.load true 8 (.t 4))⟩, ⟨(some 17), none, [], (.call 52 [(.t 15), (.t 16)])⟩, ⟨(some 18), none, [2], (.load true 8 (.t 3))⟩, ⟨(some 19), none, [2], (.load true 8 (.t 5))⟩, ⟨(some 20), none, [], (.call 52 [(.t 18), (.t 19)])⟩, ⟨(some 8), none, [], (.alloc 23 2 [(.bool false), (.string ⟨⟨[]⟩⟩)])⟩, ⟨(some 9), none, [], (.alloc 23 2 [(.bool false), (.string ⟨⟨[]⟩⟩)])⟩, ⟨none, none, [], (.store 2 (.t 8) (.t 17))⟩, ⟨none, none, [], (.store 2 (.t 9) (.t 20))⟩])
  (.seq (.reg [⟨(some 21), none, (.mkfn 53 [(.t 9), (.t 8)])⟩, ⟨(some 10), none, (.mv (.t 21))⟩])
  (.seq (.dreg [⟨(some 22), none, [], (.mv (.t 10))⟩, ⟨(some 23), none, [], (.faddr 0 (.t 4))⟩, ⟨(some 24), none, [], (.load true 2 (.t 23))⟩, ⟨(some 25), none, [], (.faddr 0 (.t 5))⟩, ⟨(some 26), none, [], (.load true 2 (.t 25))⟩, ⟨(some 27), none, [], (.callv (.t 22) [(.t 24), (.t 26)])⟩, ⟨(some 28), none, [], (.mv (.t 10))⟩, ⟨(some 29), none, [], (.faddr 2 (.t 4))⟩, ⟨(some 30), none, [5], (.load true 2 (.t 29))⟩, ⟨(some 31), none, [], (.faddr 2 (.t 5))⟩, ⟨(some 32), none, [5], (.load true 2 (.t 31))⟩, ⟨(some 33), none, [], (.callv (.t 28) [(.t 30), (.t 32)])⟩, ⟨(some 34), none, [], (.mv (.t 10))⟩, ⟨(some 35), none, [], (.faddr 4 (.t 4))⟩, ⟨(some 36), none, [5, 11], (.load true 2 (.t 35))⟩, ⟨(some 37), none, [], (.faddr 4 (.t 5))⟩, ⟨(some 38), none, [5, 11], (.load true 2 (.t 37))⟩, ⟨(some 39), none, [], (.callv (.t 34) [(.t 36), (.t 38)])⟩, ⟨(some 40), none, [], (.build [(.bool false), (.string ⟨⟨[]⟩⟩), (.bool false), (.string ⟨⟨[]⟩⟩), (.bool false), (.string ⟨⟨[]⟩⟩)] [(0, 2, (.t 27)), (2, 2, (.t 33)), (4, 2, (.t 39))])⟩, ⟨(some 41), none, [], (.mv (.t 10))⟩, ⟨(some 42), none, [], (.faddr 6 (.t 4))⟩, ⟨(some 43), none, [5, 11, 17], (.load true 2 (.t 42))⟩, ⟨(some 44), none, [], (.faddr 6 (.t 5))⟩, ⟨(some 45), none, [5, 11, 17], (.load true 2 (.t 44))⟩, ⟨(some 46), none, [], (.callv (.t 41) [(.t 43), (.t 45)])⟩, ⟨(some 47), none, [], (.call 36 [(.t 40), (.t 46)])⟩, ⟨(some 48), none, [], (.ext (.t 47) 0)⟩, ⟨(some 49), none, [], (.ext (.t 47) 1)⟩, ⟨none, none, [], (.store 8 (.t 6) (.t 48))⟩, ⟨(some 7), none, [], (.mv (.t 49))⟩])
  .ret)))))
theorem tr15 : trFun Tryz.prog 15 = some ⟨50, [.cell 6 true 8, .t 7], c15⟩ := by kernel_rfl
set_option maxHeartbeats 8000000 in
theorem ok_xLine : SpecOK Tryz.prog 15 (flat spXLine) := by
  refine flat_run (env_cons ok_xAbove (env_cons ok_xBetw (env_cons ok_xMade (env_nil _)))) mixed tr15 ?_
  intro args v h N hG
  unfold spXLine at hG
  split at hG
  case h_2 => cases hG
  rename_i s1 l1 s2 l2 s3 l3 s4 l4 t1 m1 t2 m2 t3 m3 t4 m4 u1 o1 u2 o2 u3 o3 u4 o4
  split at hG
  case isFalse => cases hG
  rename_i hl
  obtain ⟨h1, h2, h3, h4, g1, g2, g3, g4, j1, j2, j3, j4⟩ := hl
  split at hG
  · rename_i heq
    obtain ⟨rfl, rfl, rfl, rfl, rfl, rfl, rfl, rfl⟩ := heq
    cases hG
    refine ⟨rfl, by simp, ?_⟩
    simp only [c15, initT, List.zipIdx_cons, List.zipIdx_nil, List.map_cons, List.map_nil, Nat.reduceAdd]
    simp only [↓R0, R1, rdL, rdH, isCall, istep, ibin, vcells, fillI, setR, flat, okCell, isBase, List.set, List.drop, List.take, List.append, bnds, bhi, blo, srcOf, ↓reduceIte, Nat.reduceEqDiff, Nat.reduceAdd, Nat.reduceLeDiff, reduceCtorEq, Nat.reduceSub, Int.reduceEq, Int.reduceLT, Int.reduceLE, Int.reduceGT, Int.reduceGE, Int.reduceSub, Int.reduceAdd, Int.reduceMul, Int.reduceNe, Int.reduceNeg, Int.reduceToNat, Nat.reduceMul, ceq, pZ, Fin, isEnd, resL, res1, iE, rE]
    exact ⟨_, rfl, rfl, fun k hk => by simp only [ne_nb hk, if_false]⟩
  rename_i hne
  have hc : (decide (t1 = u1) && (decide (m1 = o1) && (decide (t2 = u2) && (decide (m2 = o2) && (decide (t3 = u3) && (decide (m3 = o3) && (decide (t4 = u4) && decide (m4 = o4)))))))) = false := by
    cases hb : (decide (t1 = u1) && (decide (m1 = o1) && (decide (t2 = u2) && (decide (m2 = o2) && (decide (t3 = u3) && (decide (m3 = o3) && (decide (t4 = u4) && decide (m4 = o4)))))))) with
    | false => rfl
    | true => simp only [Bool.and_eq_true, decide_eq_true_eq] at hb; exact absurd hb hne
  have bS := lsub (k := 4294967299) (ladd (k := 4294967298) (ladd (k := 4294967297) (lmul (k := 4294967296) (len_sv (s := s1) h1) (len_sv (s := t1) g1) (by omega)) (lmul (k := 4294967296) (len_sv (s := s2) h2) (len_sv (s := t2) g2) (by omega)) (by omega)) (lmul (k := 4294967296) (len_sv (s := s3) h3) (len_sv (s := t3) g3) (by omega)) (by omega)) (lmul (k := 4294967296) (len_sv (s := s4) h4) (len_sv (s := t4) g4) (by omega)) (by omega)
  have bT := lsub (k := 4294967299) (ladd (k := 4294967298) (ladd (k := 4294967297) (lmul (k := 4294967296) (len_sv (s := s1) h1) (len_sv (s := u1) j1) (by omega)) (lmul (k := 4294967296) (len_sv (s := s2) h2) (len_sv (s := u2) j2) (by omega)) (by omega)) (lmul (k := 4294967296) (len_sv (s := s3) h3) (len_sv (s := u3) j3) (by omega)) (by omega)) (lmul (k := 4294967296) (len_sv (s := s4) h4) (len_sv (s := u4) j4) (by omega)) (by omega)
  obtain ⟨S, eS⟩ : ∃ z, sv s1 l1 * sv t1 m1 + sv s2 l2 * sv t2 m2 + sv s3 l3 * sv t3 m3 - sv s4 l4 * sv t4 m4 = z := ⟨_, rfl⟩
  obtain ⟨T, eT⟩ : ∃ z, sv s1 l1 * sv u1 o1 + sv s2 l2 * sv u2 o2 + sv s3 l3 * sv u3 o3 - sv s4 l4 * sv u4 o4 = z := ⟨_, rfl⟩
  rw [eS] at hG bS
  rw [eT] at hG bT
  have a1 : l1.length ≤ 4294967296 := by omega
  have a2 : l2.length ≤ 4294967296 := by omega
  have a3 : l3.length ≤ 4294967296 := by omega
  have a4 : l4.length ≤ 4294967296 := by omega
  have b1 : m1.length ≤ 4294967296 := by omega
  have b2 : m2.length ≤ 4294967296 := by omega
  have b3 : m3.length ≤ 4294967296 := by omega
  have b4 : m4.length ≤ 4294967296 := by omega
  have c1 : o1.length ≤ 4294967296 := by omega
  have c2 : o2.length ≤ 4294967296 := by omega
  have c3 : o3.length ≤ 4294967296 := by omega
  have c4 : o4.length ≤ 4294967296 := by omega
  have b1' : m1.length ≤ 17179869184 := by omega
  have b2' : m2.length ≤ 17179869184 := by omega
  have b3' : m3.length ≤ 17179869184 := by omega
  have b4' : m4.length ≤ 17179869184 := by omega
  have c1' : o1.length ≤ 17179869184 := by omega
  have c2' : o2.length ≤ 17179869184 := by omega
  have c3' : o3.length ≤ 17179869184 := by omega
  have c4' : o4.length ≤ 17179869184 := by omega
  have bS' := lle (k := 17179869184) bS (by omega)
  have bT' := lle (k := 17179869184) bT (by omega)
  have X1 := lsub (k := 34359738368) (lmul (k := 12884901888) (len_sv (s := t1) g1) bT (by omega)) (lmul (k := 12884901888) (len_sv (s := u1) j1) bS (by omega)) (by omega)
  have X2 := lsub (k := 34359738368) (lmul (k := 12884901888) (len_sv (s := t2) g2) bT (by omega)) (lmul (k := 12884901888) (len_sv (s := u2) j2) bS (by omega)) (by omega)
  have X3 := lsub (k := 34359738368) (lmul (k := 12884901888) (len_sv (s := t3) g3) bT (by omega)) (lmul (k := 12884901888) (len_sv (s := u3) j3) bS (by omega)) (by omega)
  have X4 := lsub (k := 34359738368) (lmul (k := 12884901888) (len_sv (s := t4) g4) bT (by omega)) (lmul (k := 12884901888) (len_sv (s := u4) j4) bS (by omega)) (by omega)
  have zl0 : (bl (Int.natAbs 0)).length ≤ 34359738368 := by rw [show Int.natAbs 0 = 0 from rfl, bl_zero]; exact Nat.zero_le _
  have zs0 : sv false (bl (Int.natAbs 0)) = 0 := by rw [sv_bl]; rfl
  split at hG
  · rename_i hw
    cases hG
    refine ⟨rfl, by simp, ?_⟩
    simp only [c15, initT, List.zipIdx_cons, List.zipIdx_nil, List.map_cons, List.map_nil, Nat.reduceAdd]
    simp only [↓R0, R1, rdL, rdH, isCall, istep, ibin, vcells, fillI, setR, flat, okCell, isBase, List.set, List.drop, List.take, List.append, bnds, bhi, blo, srcOf, ↓reduceIte, Nat.reduceEqDiff, Nat.reduceAdd, Nat.reduceLeDiff, reduceCtorEq, Nat.reduceSub, Int.reduceEq, Int.reduceLT, Int.reduceLE, Int.reduceGT, Int.reduceGE, Int.reduceSub, Int.reduceAdd, Int.reduceMul, Int.reduceNe, Int.reduceNeg, Int.reduceToNat, Nat.reduceMul, ceq, hc, spXAbove, a1, a2, a3, a4, b1, b2, b3, b4, c1, c2, c3, c4, b1', b2', b3', b4', c1', c2', c3', c4', eS, eT, bS', bT', callF, rdS, spXBetw, X1, X2, X3, X4, spXMade, hw, zl0, zs0, Int.lt_irrefl, pZ, pE, Fin, isEnd, resL, res1, iE, rE]
    exact ⟨_, rfl, rfl, fun k hk => by simp only [ne_nb hk, if_false]⟩
  · rename_i hw
    cases hG
    refine ⟨rfl, by simp, ?_⟩
    simp only [c15, initT, List.zipIdx_cons, List.zipIdx_nil, List.map_cons, List.map_nil, Nat.reduceAdd]
    simp only [↓R0, R1, rdL, rdH, isCall, istep, ibin, vcells, fillI, setR, flat, okCell, isBase, List.set, List.drop, List.take, List.append, bnds, bhi, blo, srcOf, ↓reduceIte, Nat.reduceEqDiff, Nat.reduceAdd, Nat.reduceLeDiff, reduceCtorEq, Nat.reduceSub, Int.reduceEq, Int.reduceLT, Int.reduceLE, Int.reduceGT, Int.reduceGE, Int.reduceSub, Int.reduceAdd, Int.reduceMul, Int.reduceNe, Int.reduceNeg, Int.reduceToNat, Nat.reduceMul, ceq, hc, spXAbove, a1, a2, a3, a4, b1, b2, b3, b4, c1, c2, c3, c4, b1', b2', b3', b4', c1', c2', c3', c4', eS, eT, bS', bT', callF, rdS, spXBetw, X1, X2, X3, X4, spXMade, hw, zl0, zs0, Int.lt_irrefl, pZ, pE, Fin, isEnd, resL, res1, iE, rE]
    exact ⟨_, rfl, rfl, fun k hk => by simp only [ne_nb hk, if_false]⟩
end Go.Eng
end
section
set_option linter.unusedVariables false
set_option linter.unusedSimpArgs false
set_option linter.unusedSectionVars false
set_option maxRecDepth 20000
namespace Go.Eng
open Go Go.Proofs Go.IntWalk
def spLFlat : List Value → Option Value
  | [.int .i64 a, .int .i64 b, .int .i64 c, .int .i64 d] => if (-9223372036854775808 ≤ a ∧ a ≤ 9223372036854775807) ∧ (-9223372036854775808 ≤ b ∧ b ≤ 9223372036854775807) ∧ (-9223372036854775808 ≤ c ∧ c ≤ 9223372036854775807) ∧ (-9223372036854775808 ≤ d ∧ d ≤ 9223372036854775807) then
      some (.agg ⟨iE a ++ iE b ++ iE c ++ iE d⟩) else none
  | _ => none
def c30 : ICode :=
  (.seq (.reg [⟨(some 8), none, (.alloc 25 8 [(.bool false), (.string ⟨⟨[]⟩⟩), (.bool false), (.string ⟨⟨[]⟩⟩), (.bool false), (.string ⟨⟨[]⟩⟩), (.bool false), (.string ⟨⟨[]⟩⟩)])⟩])
  (.seq (.reg [⟨(some 9), none, (.mv (.t 0))⟩, ⟨(some 10), none, (.call 26 [(.t 9)])⟩, ⟨(some 11), none, (.mv (.t 1))⟩, ⟨(some 12), none, (.call 26 [(.t 11)])⟩, ⟨(some 13), none, (.mv (.t 2))⟩, ⟨(some 14), none, (.call 26 [(.t 13)])⟩, ⟨(some 15), none, (.mv (.t 3))⟩, ⟨(some 16), none, (.call 26 [(.t 15)])⟩, ⟨(some 17), none, (.build [(.bool false), (.string ⟨⟨[]⟩⟩), (.bool false), (.string ⟨⟨[]⟩⟩), (.bool false), (.string ⟨⟨[]⟩⟩), (.bool false), (.string ⟨⟨[]⟩⟩)] [(0, 2, (.t 10)), (2, 2, (.t 12)), (4, 2, (.t 14)), (6, 2, (.t 16))])⟩, ⟨none, none, (.store 8 (.t 8) (.t 17))⟩])
  .ret))
theorem tr30 : trFun Tryz.prog 30 = some ⟨18, [.cell 8 true 8], c30⟩ := by kernel_rfl
theorem ok_lFlat : SpecOK Tryz.prog 30 (flat spLFlat) := by
  refine flat_run (env_cons ok_iFrom (env_nil _)) mixed tr30 ?_
  intro args v h N hG
  unfold spLFlat at hG
  split at hG
  case h_2 => cases hG
  rename_i a b c d
  split at hG
  case isFalse => cases hG
  rename_i hl
  obtain ⟨⟨h1, h2⟩, ⟨h3, h4⟩, ⟨h5, h6⟩, ⟨h7, h8⟩⟩ := hl
  cases hG
  refine ⟨rfl, by simp, ?_⟩
  simp only [c30, initT, List.zipIdx_cons, List.zipIdx_nil, List.map_cons, List.map_nil, Nat.reduceAdd]
  simp only [↓R0, R1, rdL, rdH, isCall, istep, ibin, vcells, fillI, setR, flat, okCell, isBase, List.set, List.drop, List.take, List.append, bnds, bhi, blo, srcOf, ↓reduceIte, Nat.reduceEqDiff, Nat.reduceAdd, Nat.reduceLeDiff, reduceCtorEq, Nat.reduceSub, Int.reduceEq, Int.reduceLT, Int.reduceLE, Int.reduceGT, Int.reduceGE, Int.reduceSub, Int.reduceAdd, Int.reduceMul, Int.reduceNe, Int.reduceNeg, Int.reduceToNat, Nat.reduceMul, spIFrom, h1, h2, h3, h4, h5, h6, h7, h8, Fin, isEnd, resL, res1, iE, rE]
  exact ⟨_, rfl, rfl, fun k hk => by simp only [ne_nb hk, if_false]⟩
def spLAt : List Value → Option Value
  | [.int .i64 a, .int .i64 b, .int .i64 c] => if (-9223372036854775808 ≤ a ∧ a ≤ 9223372036854775807) ∧ (-9223372036854775808 ≤ b ∧ b ≤ 9223372036854775807) ∧ (-9223372036854775808 ≤ c ∧ c ≤ 9223372036854775807) then
      some (.agg ⟨iE a ++ iE b ++ iE c ++ iE 1⟩) else none
  | _ => none
def c31 : ICode :=
  (.seq (.reg [⟨(some 6), none, (.alloc 30 8 [(.bool false), (.string ⟨⟨[]⟩⟩), (.bool false), (.string ⟨⟨[]⟩⟩), (.bool false), (.string ⟨⟨[]⟩⟩), (.bool false), (.string ⟨⟨[]⟩⟩)])⟩])
  (.seq (.reg [⟨(some 7), none, (.mv (.t 0))⟩, ⟨(some 8), none, (.call 26 [(.t 7)])⟩, ⟨(some 9), none, (.mv (.t 1))⟩, ⟨(some 10), none, (.call 26 [(.t 9)])⟩, ⟨(some 11), none, (.mv (.t 2))⟩, ⟨(some 12), none, (.call 26 [(.t 11)])⟩, ⟨(some 13), none, (.call 26 [(.c (.int .i64 1))])⟩, ⟨(some 14), none, (.build [(.bool false), (.string ⟨⟨[]⟩⟩), (.bool false), (.string ⟨⟨[]⟩⟩), (.bool false), (.string ⟨⟨[]⟩⟩), (.bool false), (.string ⟨⟨[]⟩⟩)] [(0, 2, (.t 8)), (2, 2, (.t 10)), (4, 2, (.t 12)), (6, 2, (.t 13))])⟩, ⟨none, none, (.store 8 (.t 6) (.t 14))⟩])
  .ret))
theorem tr31 : trFun Tryz.prog 31 = some ⟨15, [.cell 6 true 8], c31⟩ := by kernel_rfl
theorem ok_lAt : SpecOK Tryz.prog 31 (flat spLAt) := by
  refine flat_run (env_cons ok_iFrom (env_nil _)) mixed tr31 ?_
  intro args v h N hG
  unfold spLAt at hG
  split at hG
  case h_2 => cases hG
  rename_i a b c
  split at hG
  case isFalse => cases hG
  rename_i hl
  obtain ⟨⟨h1, h2⟩, ⟨h3, h4⟩, ⟨h5, h6⟩⟩ := hl
  cases hG
  refine ⟨rfl, by simp, ?_⟩
  simp only [c31, initT, List.zipIdx_cons, List.zipIdx_nil, List.map_cons, List.map_nil, Nat.reduceAdd]
  simp only [↓R0, R1, rdL, rdH, isCall, istep, ibin, vcells, fillI, setR, flat, okCell, isBase, List.set, List.drop, List.take, List.append, bnds, bhi, blo, srcOf, ↓reduceIte, Nat.reduceEqDiff, Nat.reduceAdd, Nat.reduceLeDiff, reduceCtorEq, Nat.reduceSub, Int.reduceEq, Int.reduceLT, Int.reduceLE, Int.reduceGT, Int.reduceGE, Int.reduceSub, Int.reduceAdd, Int.reduceMul, Int.reduceNe, Int.reduceNeg, Int.reduceToNat, Nat.reduceMul, spIFrom, h1, h2, h3, h4, h5, h6, Fin, isEnd, resL, res1, iE, rE]
  exact ⟨_, rfl, rfl, fun k hk => by simp only [ne_nb hk, if_false]⟩
theorem bl_small {n : Nat} (h0 : n ≠ 0) (h : n < 256) : bl n = [UInt8.ofNat n] := by
  rw [bl_pos h0, Nat.div_eq_of_lt h, bl_zero, Nat.mod_eq_of_lt h]
theorem iE_0 : iE 0 = [.bool false, .string ⟨⟨[]⟩⟩] := by unfold iE; rw [show Int.natAbs 0 = 0 from rfl, bl_zero]; rfl
theorem iE_1 : iE 1 = [.bool false, .string ⟨⟨[1]⟩⟩] := by unfold iE; rw [show Int.natAbs 1 = 1 from rfl, bl_small (by decide) (by decide)]; rfl
theorem iE_2 : iE 2 = [.bool false, .string ⟨⟨[2]⟩⟩] := by unfold iE; rw [show Int.natAbs 2 = 2 from rfl, bl_small (by decide) (by decide)]; rfl
theorem iE_3 : iE 3 = [.bool false, .string ⟨⟨[3]⟩⟩] := by unfold iE; rw [show Int.natAbs 3 = 3 from rfl, bl_small (by decide) (by decide)]; rfl
theorem iE_4 : iE 4 = [.bool false, .string ⟨⟨[4]⟩⟩] := by unfold iE; rw [show Int.natAbs 4 = 4 from rfl, bl_small (by decide) (by decide)]; rfl
def cE4 (a b c d : List UInt8) : List Value := [.bool false, .string ⟨⟨a⟩⟩, .bool false, .string ⟨⟨b⟩⟩, .bool false, .string ⟨⟨c⟩⟩, .bool false, .string ⟨⟨d⟩⟩]
theorem fx1 : spLFlat [.int .i64 1, .int .i64 0, .int .i64 0, .int .i64 2] = some (.agg ⟨cE4 [1] [] [] [2]⟩) := by
  unfold spLFlat; simp only; rw [if_pos (by decide), iE_1, iE_0, iE_2]; rfl
theorem fx2 : spLFlat [.int .i64 0, .int .i64 1, .int .i64 0, .int .i64 3] = some (.agg ⟨cE4 [] [1] [] [3]⟩) := by
  unfold spLFlat; simp only; rw [if_pos (by decide), iE_1, iE_0, iE_3]; rfl
theorem fx3 : spLFlat [.int .i64 0, .int .i64 0, .int .i64 1, .int .i64 4] = some (.agg ⟨cE4 [] [] [1] [4]⟩) := by
  unfold spLFlat; simp only; rw [if_pos (by decide), iE_1, iE_0, iE_4]; rfl
theorem fx4 : spLFlat [.int .i64 0, .int .i64 0, .int .i64 1, .int .i64 1] = some (.agg ⟨cE4 [] [] [1] [1]⟩) := by
  unfold spLFlat; simp only; rw [if_pos (by decide), iE_1, iE_0]; rfl
theorem fx5 : spLAt [.int .i64 0, .int .i64 0, .int .i64 0] = some (.agg ⟨cE4 [] [] [] [1]⟩) := by
  unfold spLAt; simp only; rw [if_pos (by decide), iE_1, iE_0]; rfl
theorem fx6 : spLAt [.int .i64 1, .int .i64 1, .int .i64 2] = some (.agg ⟨cE4 [1] [1] [2] [1]⟩) := by
  unfold spLAt; simp only; rw [if_pos (by decide), iE_1, iE_2]; rfl
theorem fx7 : spLAt [.int .i64 2, .int .i64 3, .int .i64 4] = some (.agg ⟨cE4 [2] [3] [4] [1]⟩) := by
  unfold spLAt; simp only; rw [if_pos (by decide), iE_1, iE_2, iE_3, iE_4]; rfl
theorem fx8 : spIFrom [.int .i64 1] = some (.agg ⟨[.bool false, .string ⟨⟨[1]⟩⟩]⟩) := by
  unfold spIFrom; simp only; rw [if_pos (by decide), iE_1]
theorem fx9 : spIFrom [.int .i64 2] = some (.agg ⟨[.bool false, .string ⟨⟨[2]⟩⟩]⟩) := by
  unfold spIFrom; simp only; rw [if_pos (by decide), iE_2]
theorem pE_2341 : pE 2 3 4 1 = cE4 [2] [3] [4] [1] := by
  unfold pE
  rw [show pQ 2 3 4 1 2 = 2 by decide, show pQ 2 3 4 1 3 = 3 by decide, show pQ 2 3 4 1 4 = 4 by decide, show pQ 2 3 4 1 (pW 1) = 1 by decide, iE_1, iE_2, iE_3, iE_4]; rfl
theorem pE_1122 : pE 1 1 2 2 = cE4 [1] [1] [2] [2] := by
  unfold pE
  rw [show pQ 1 1 2 2 1 = 1 by decide, show pQ 1 1 2 2 2 = 2 by decide, show pQ 1 1 2 2 (pW 2) = 2 by decide, iE_1, iE_2]; rfl
theorem fxA : spXThree [.agg ⟨cE4 [1] [] [] [2]⟩, .agg ⟨cE4 [] [1] [] [3]⟩, .agg ⟨cE4 [] [] [1] [4]⟩] = some (.tuple ⟨[.agg ⟨cE4 [2] [3] [4] [1]⟩, .bool true]⟩) := by
  unfold spXThree cE4
  simp only
  rw [if_pos (by decide), if_neg (by decide)]
  have h : ∀ X Y Z W : Int, X = 2 → Y = 3 → Z = 4 → W = 1 → some (Value.tuple ⟨[.agg ⟨pE X Y Z W⟩, .bool true]⟩) = some (.tuple ⟨[.agg ⟨cE4 [2] [3] [4] [1]⟩, .bool true]⟩) := by
    intro X Y Z W h1 h2 h3 h4
    rw [h1, h2, h3, h4, pE_2341]
  exact h _ _ _ _ (by decide) (by decide) (by decide) (by decide)
theorem fxB : spXLine [.agg ⟨cE4 [] [] [1] [1]⟩, .agg ⟨cE4 [] [] [] [1]⟩, .agg ⟨cE4 [1] [1] [2] [1]⟩] = some (.tuple ⟨[.agg ⟨cE4 [1] [1] [2] [2]⟩, .bool true]⟩) := by
  unfold spXLine cE4
  simp only
  rw [if_pos (by decide), if_neg (by decide), if_neg (by decide)]
  have h : ∀ X Y Z W : Int, X = 1 → Y = 1 → Z = 2 → W = 2 → some (Value.tuple ⟨[.agg ⟨pE X Y Z W⟩, .bool true]⟩) = some (.tuple ⟨[.agg ⟨cE4 [1] [1] [2] [2]⟩, .bool true]⟩) := by
    intro X Y Z W h1 h2 h3 h4
    rw [h1, h2, h3, h4, pE_1122]
  exact h _ _ _ _ (by decide) (by decide) (by decide) (by decide)
def spLFixed : List Value → Option Value
  | [] => some (.bool true)
  | _ => none
def c9 : ICode :=
  (.seq (.reg [⟨(some 0), none, (.mv (.c (.bool false)))⟩])
  (.seq (.reg [⟨(some 6), none, (.call 30 [(.c (.int .i64 1)), (.c (.int .i64 0)), (.c (.int .i64 0)), (.c (.int .i64 2))])⟩, ⟨(some 7), none, (.call 30 [(.c (.int .i64 0)), (.c (.int .i64 1)), (.c (.int .i64 0)), (.c (.int .i64 3))])⟩, ⟨(some 8), none, (.call 30 [(.c (.int .i64 0)), (.c (.int .i64 0)), (.c (.int .i64 1)), (.c (.int .i64 4))])⟩, ⟨(some 9), none, (.call 11 [(.t 6), (.t 7), (.t 8)])⟩, ⟨(some 5), none, (.mv (.t 9))⟩, ⟨(some 10), none, (.ext (.t 5) 0)⟩, ⟨(some 11), none, (.ext (.t 5) 1)⟩, ⟨(some 1), none, (.alloc 30 8 [(.bool false), (.string ⟨⟨[]⟩⟩), (.bool false), (.string ⟨⟨[]⟩⟩), (.bool false), (.string ⟨⟨[]⟩⟩), (.bool false), (.string ⟨⟨[]⟩⟩)])⟩, ⟨none, none, (.store 8 (.t 1) (.t 10))⟩, ⟨(some 2), none, (.mv (.t 11))⟩])
  (.seq (.reg [⟨(some 13), none, (.call 30 [(.c (.int .i64 0)), (.c (.int .i64 0)), (.c (.int .i64 1)), (.c (.int .i64 1))])⟩, ⟨(some 14), none, (.call 31 [(.c (.int .i64 0)), (.c (.int .i64 0)), (.c (.int .i64 0))])⟩, ⟨(some 15), none, (.call 31 [(.c (.int .i64 1)), (.c (.int .i64 1)), (.c (.int .i64 2))])⟩, ⟨(some 16), none, (.call 15 [(.t 13), (.t 14), (.t 15)])⟩, ⟨(some 12), none, (.mv (.t 16))⟩, ⟨(some 17), none, (.ext (.t 12) 0)⟩, ⟨(some 18), none, (.ext (.t 12) 1)⟩, ⟨(some 3), none, (.alloc 30 8 [(.bool false), (.string ⟨⟨[]⟩⟩), (.bool false), (.string ⟨⟨[]⟩⟩), (.bool false), (.string ⟨⟨[]⟩⟩), (.bool false), (.string ⟨⟨[]⟩⟩)])⟩, ⟨none, none, (.store 8 (.t 3) (.t 17))⟩, ⟨(some 4), none, (.mv (.t 18))⟩])
  (.seq (.dreg [⟨(some 19), none, [], (.mv (.t 2))⟩, ⟨(some 20), none, [], (.mv (.t 19))⟩, ⟨(some 21), (some (20, true)), [], (.mv (.t 4))⟩, ⟨(some 22), none, [], (.pick (.t 20) (.t 21) (.c (.bool false)))⟩, ⟨(some 23), none, [], (.mv (.t 22))⟩, ⟨(some 24), (some (23, true)), [], (.load true 8 (.t 1))⟩, ⟨(some 25), (some (23, true)), [], (.call 31 [(.c (.int .i64 2)), (.c (.int .i64 3)), (.c (.int .i64 4))])⟩, ⟨(some 26), (some (23, true)), [], (.eqa false [.b, .s, .b, .s, .b, .s, .b, .s] (.t 24) (.t 25))⟩, ⟨(some 27), none, [], (.pick (.t 23) (.t 26) (.c (.bool false)))⟩, ⟨(some 28), none, [], (.mv (.t 27))⟩, ⟨(some 29), (some (28, true)), [], (.load true 8 (.t 3))⟩, ⟨(some 30), (some (28, true)), [], (.call 26 [(.c (.int .i64 1))])⟩, ⟨(some 31), (some (28, true)), [], (.call 26 [(.c (.int .i64 1))])⟩, ⟨(some 32), (some (28, true)), [], (.call 26 [(.c (.int .i64 2))])⟩, ⟨(some 33), (some (28, true)), [], (.call 26 [(.c (.int .i64 2))])⟩, ⟨(some 34), (some (28, true)), [], (.build [(.bool false), (.string ⟨⟨[]⟩⟩), (.bool false), (.string ⟨⟨[]⟩⟩), (.bool false), (.string ⟨⟨[]⟩⟩), (.bool false), (.string ⟨⟨[]⟩⟩)] [(0, 2, (.t 30)), (2, 2, (.t 31)), (4, 2, (.t 32)), (6, 2, (.t 33))])⟩, ⟨(some 35), (some (28, true)), [], (.eqa false [.b, .s, .b, .s, .b, .s, .b, .s] (.t 29) (.t 34))⟩, ⟨(some 36), none, [], (.pick (.t 28) (.t 35) (.c (.bool false)))⟩, ⟨(some 0), none, [], (.mv (.t 36))⟩])
  .ret))))
theorem tr9 : trFun Tryz.prog 9 = some ⟨37, [.t 0], c9⟩ := by kernel_rfl
set_option maxHeartbeats 4000000 in
theorem ok_lFixed : SpecOK Tryz.prog 9 (flat spLFixed) := by
  refine flat_run (env_cons ok_lFlat (env_cons ok_lAt (env_cons ok_iFrom (env_cons ok_xThree (env_cons ok_xLine (env_nil _)))))) mixed tr9 ?_
  intro args v h N hG
  unfold spLFixed at hG
  split at hG
  case h_2 => cases hG
  cases hG
  refine ⟨rfl, by simp, ?_⟩
  have fA := fxA
  have fB := fxB
  have g1 := fx1
  have g2 := fx2
  have g3 := fx3
  have g4 := fx4
  have g5 := fx5
  have g6 := fx6
  have g7 := fx7
  unfold cE4 at fA fB g1 g2 g3 g4 g5 g6 g7
  simp only [c9, initT, List.zipIdx_cons, List.zipIdx_nil, List.map_cons, List.map_nil, Nat.reduceAdd]
  simp only [↓R0, R1, rdL, rdH, isCall, istep, ibin, vcells, fillI, setR, flat, okCell, isBase, List.set, List.drop, List.take, List.append, bnds, bhi, blo, srcOf, ↓reduceIte, Nat.reduceEqDiff, Nat.reduceAdd, Nat.reduceLeDiff, reduceCtorEq, Nat.reduceSub, Int.reduceEq, Int.reduceLT, Int.reduceLE, Int.reduceGT, Int.reduceGE, Int.reduceSub, Int.reduceAdd, Int.reduceMul, Int.reduceNe, Int.reduceNeg, Int.reduceToNat, Nat.reduceMul, g1, g2, g3, g4, g5, g6, g7, fx8, fx9, fA, fB, ceq, Fin, isEnd, resL, res1, iE, rE]
  exact ⟨_, rfl, rfl, fun k hk => by simp only [ne_nb hk, if_false]⟩
def spLWide : List Value → Option Value
  | [.agg ⟨[.bool s1, .string ⟨⟨l1⟩⟩, .bool s2, .string ⟨⟨l2⟩⟩, .bool s3, .string ⟨⟨l3⟩⟩, .bool s4, .string ⟨⟨l4⟩⟩]⟩] =>
    some (.int .i64 (if (l1.length ≤ 6 ∧ l2.length ≤ 6 ∧ l3.length ≤ 6 ∧ l4.length ≤ 6) ∧ ¬ (sv s1 l1 = 0 ∧ sv s2 l2 = 0 ∧ sv s3 l3 = 0) then 0 else 1))
  | _ => none
def c8 : ICode :=
  (.seq (.reg [⟨(some 1), none, (.box 25 8 (.t 0))⟩, ⟨(some 2), none, (.mv (.c (.int .i64 0)))⟩])
  (.seq (.seq (.reg [⟨(some 5), none, (.faddr 0 (.t 1))⟩, ⟨(some 6), none, (.faddr 1 (.t 5))⟩, ⟨(some 7), none, (.load false 1 (.t 6))⟩, ⟨(some 8), none, (.lens (.t 7))⟩, ⟨(some 9), none, (.bin .gtr (.t 8) (.c (.int .i64 6)))⟩, ⟨(some 10), none, (.mv (.t 9))⟩, ⟨(some 11), (some (10, false)), (.faddr 2 (.t 1))⟩, ⟨(some 12), (some (10, false)), (.faddr 1 (.t 11))⟩, ⟨(some 13), (some (10, false)), (.load false 1 (.t 12))⟩, ⟨(some 14), (some (10, false)), (.lens (.t 13))⟩, ⟨(some 15), (some (10, false)), (.bin .gtr (.t 14) (.c (.int .i64 6)))⟩, ⟨(some 16), none, (.pick (.t 10) (.c (.bool true)) (.t 15))⟩, ⟨(some 17), none, (.mv (.t 16))⟩, ⟨(some 18), (some (17, false)), (.faddr 4 (.t 1))⟩, ⟨(some 19), (some (17, false)), (.faddr 1 (.t 18))⟩, ⟨(some 20), (some (17, false)), (.load false 1 (.t 19))⟩, ⟨(some 21), (some (17, false)), (.lens (.t 20))⟩, ⟨(some 22), (some (17, false)), (.bin .gtr (.t 21) (.c (.int .i64 6)))⟩, ⟨(some 23), none, (.pick (.t 17) (.c (.bool true)) (.t 22))⟩, ⟨(some 24), none, (.mv (.t 23))⟩, ⟨(some 25), (some (24, false)), (.faddr 6 (.t 1))⟩, ⟨(some 26), (some (24, false)), (.faddr 1 (.t 25))⟩, ⟨(some 27), (some (24, false)), (.load false 1 (.t 26))⟩, ⟨(some 28), (some (24, false)), (.lens (.t 27))⟩, ⟨(some 29), (some (24, false)), (.bin .gtr (.t 28) (.c (.int .i64 6)))⟩, ⟨(some 30), none, (.pick (.t 24) (.c (.bool true)) (.t 29))⟩])
  (.cond (.t 30)
  (.seq (.reg [⟨(some 2), none, (.mv (.c (.int .i64 1)))⟩])
  .ret)
  .skip))
  (.seq (.seq (.reg [⟨(some 32), none, (.load true 8 (.t 1))⟩, ⟨(some 33), none, (.call 29 [(.t 32)])⟩, ⟨(some 31), none, (.mv (.t 33))⟩, ⟨(some 34), none, (.ext (.t 31) 0)⟩, ⟨(some 35), none, (.ext (.t 31) 1)⟩, ⟨(some 3), none, (.alloc 25 8 [(.bool false), (.string ⟨⟨[]⟩⟩), (.bool false), (.string ⟨⟨[]⟩⟩), (.bool false), (.string ⟨⟨[]⟩⟩), (.bool false), (.string ⟨⟨[]⟩⟩)])⟩, ⟨none, none, (.store 8 (.t 3) (.t 34))⟩, ⟨(some 4), none, (.mv (.t 35))⟩])
  (.seq (.reg [⟨(some 36), none, (.mv (.t 4))⟩, ⟨(some 37), none, (.un .not (.t 36))⟩])
  (.cond (.t 37)
  (.seq (.reg [⟨(some 2), none, (.mv (.c (.int .i64 1)))⟩])
  .ret)
  .skip)))
  (.seq (.reg [⟨(some 2), none, (.mv (.c (.int .i64 0)))⟩])
  .ret))))
theorem tr8 : trFun Tryz.prog 8 = some ⟨38, [.t 2], c8⟩ := by kernel_rfl
theorem ok_lWide : SpecOK Tryz.prog 8 (flat spLWide) := by
  refine flat_run (env_cons ok_r5Norm (env_nil _)) mixed tr8 ?_
  intro args v h N hG
  unfold spLWide at hG
  split at hG
  case h_2 => cases hG
  rename_i s1 l1 s2 l2 s3 l3 s4 l4
  cases hG
  refine ⟨rfl, by simp, ?_⟩
  have tr : ∀ l : List UInt8, ¬ l.length ≤ 6 → ((l.length : Int) > 6) = True := fun l h => eq_true (by omega)
  have fl : ∀ l : List UInt8, l.length ≤ 6 → ((l.length : Int) > 6) = False := fun l h => eq_false (by omega)
  simp only [c8, initT, List.zipIdx_cons, List.zipIdx_nil, List.map_cons, List.map_nil, Nat.reduceAdd]
  by_cases c1 : l1.length ≤ 6
  · by_cases c2 : l2.length ≤ 6
    · by_cases c3 : l3.length ≤ 6
      · by_cases c4 : l4.length ≤ 6
        · have a1 : l1.length ≤ 68719476736 := by omega
          have a2 : l2.length ≤ 68719476736 := by omega
          have a3 : l3.length ≤ 68719476736 := by omega
          have a4 : l4.length ≤ 68719476736 := by omega
          have d1 := fl l1 c1
          have d2 := fl l2 c2
          have d3 := fl l3 c3
          have d4 := fl l4 c4
          by_cases z : sv s1 l1 = 0 ∧ sv s2 l2 = 0 ∧ sv s3 l3 = 0
          · rw [if_neg (fun e => e.2 z)]
            have z' := z
            obtain ⟨z1, z2, z3⟩ := z
            simp only [↓R0, R1, rdL, rdH, isCall, istep, ibin, vcells, fillI, setR, flat, okCell, isBase, List.set, List.drop, List.take, List.append, bnds, bhi, blo, srcOf, ↓reduceIte, Nat.reduceEqDiff, Nat.reduceAdd, Nat.reduceLeDiff, reduceCtorEq, Nat.reduceSub, Int.reduceEq, Int.reduceLT, Int.reduceLE, Int.reduceGT, Int.reduceGE, Int.reduceSub, Int.reduceAdd, Int.reduceMul, Int.reduceNe, Int.reduceNeg, Int.reduceToNat, Nat.reduceMul, d1, d2, d3, d4, a1, a2, a3, a4, z1, z2, z3, spR5Norm, Bool.not_false, Fin, isEnd, resL, res1, iE, rE]
            exact ⟨_, rfl, rfl, fun k hk => by simp only [ne_nb hk, if_false]⟩
          · rw [if_pos ⟨⟨c1, c2, c3, c4⟩, z⟩]
            simp only [↓R0, R1, rdL, rdH, isCall, istep, ibin, vcells, fillI, setR, flat, okCell, isBase, List.set, List.drop, List.take, List.append, bnds, bhi, blo, srcOf, ↓reduceIte, Nat.reduceEqDiff, Nat.reduceAdd, Nat.reduceLeDiff, reduceCtorEq, Nat.reduceSub, Int.reduceEq, Int.reduceLT, Int.reduceLE, Int.reduceGT, Int.reduceGE, Int.reduceSub, Int.reduceAdd, Int.reduceMul, Int.reduceNe, Int.reduceNeg, Int.reduceToNat, Nat.reduceMul, d1, d2, d3, d4, a1, a2, a3, a4, z, spR5Norm, lE, Bool.not_true, Fin, isEnd, resL, res1, iE, rE]
            exact ⟨_, rfl, rfl, fun k hk => by simp only [ne_nb hk, if_false]⟩
        · rw [if_neg (fun e => c4 e.1.2.2.2)]
          have d1 := fl l1 c1
          have d2 := fl l2 c2
          have d3 := fl l3 c3
          have d4 := tr l4 c4
          simp only [↓R0, R1, rdL, rdH, isCall, istep, ibin, vcells, fillI, setR, flat, okCell, isBase, List.set, List.drop, List.take, List.append, bnds, bhi, blo, srcOf, ↓reduceIte, Nat.reduceEqDiff, Nat.reduceAdd, Nat.reduceLeDiff, reduceCtorEq, Nat.reduceSub, Int.reduceEq, Int.reduceLT, Int.reduceLE, Int.reduceGT, Int.reduceGE, Int.reduceSub, Int.reduceAdd, Int.reduceMul, Int.reduceNe, Int.reduceNeg, Int.reduceToNat, Nat.reduceMul, d1, d2, d3, d4, Fin, isEnd, resL, res1, iE, rE]
          exact ⟨_, rfl, rfl, fun k hk => by simp only [ne_nb hk, if_false]⟩
      · rw [if_neg (fun e => c3 e.1.2.2.1)]
        have d1 := fl l1 c1
        have d2 := fl l2 c2
        have d3 := tr l3 c3
        simp only [↓R0, R1, rdL, rdH, isCall, istep, ibin, vcells, fillI, setR, flat, okCell, isBase, List.set, List.drop, List.take, List.append, bnds, bhi, blo, srcOf, ↓reduceIte, Nat.reduceEqDiff, Nat.reduceAdd, Nat.reduceLeDiff, reduceCtorEq, Nat.reduceSub, Int.reduceEq, Int.reduceLT, Int.reduceLE, Int.reduceGT, Int.reduceGE, Int.reduceSub, Int.reduceAdd, Int.reduceMul, Int.reduceNe, Int.reduceNeg, Int.reduceToNat, Nat.reduceMul, d1, d2, d3, Fin, isEnd, resL, res1, iE, rE]
        exact ⟨_, rfl, rfl, fun k hk => by simp only [ne_nb hk, if_false]⟩
    · rw [if_neg (fun e => c2 e.1.2.1)]
      have d1 := fl l1 c1
      have d2 := tr l2 c2
      simp only [↓R0, R1, rdL, rdH, isCall, istep, ibin, vcells, fillI, setR, flat, okCell, isBase, List.set, List.drop, List.take, List.append, bnds, bhi, blo, srcOf, ↓reduceIte, Nat.reduceEqDiff, Nat.reduceAdd, Nat.reduceLeDiff, reduceCtorEq, Nat.reduceSub, Int.reduceEq, Int.reduceLT, Int.reduceLE, Int.reduceGT, Int.reduceGE, Int.reduceSub, Int.reduceAdd, Int.reduceMul, Int.reduceNe, Int.reduceNeg, Int.reduceToNat, Nat.reduceMul, d1, d2, Fin, isEnd, resL, res1, iE, rE]
      exact ⟨_, rfl, rfl, fun k hk => by simp only [ne_nb hk, if_false]⟩
  · rw [if_neg (fun e => c1 e.1.1)]
    have d1 := tr l1 c1
    simp only [↓R0, R1, rdL, rdH, isCall, istep, ibin, vcells, fillI, setR, flat, okCell, isBase, List.set, List.drop, List.take, List.append, bnds, bhi, blo, srcOf, ↓reduceIte, Nat.reduceEqDiff, Nat.reduceAdd, Nat.reduceLeDiff, reduceCtorEq, Nat.reduceSub, Int.reduceEq, Int.reduceLT, Int.reduceLE, Int.reduceGT, Int.reduceGE, Int.reduceSub, Int.reduceAdd, Int.reduceMul, Int.reduceNe, Int.reduceNeg, Int.reduceToNat, Nat.reduceMul, d1, Fin, isEnd, resL, res1, iE, rE]
    exact ⟨_, rfl, rfl, fun k hk => by simp only [ne_nb hk, if_false]⟩
def spLForm : List Value → Option Value
  | [.agg ⟨[.bool s1, .string ⟨⟨l1⟩⟩, .bool s2, .string ⟨⟨l2⟩⟩, .bool s3, .string ⟨⟨l3⟩⟩, .bool s4, .string ⟨⟨l4⟩⟩]⟩] =>
    if l1.length ≤ 6 ∧ l2.length ≤ 6 ∧ l3.length ≤ 6 ∧ l4.length ≤ 6 ∧ ¬ (sv s1 l1 = 0 ∧ sv s2 l2 = 0 ∧ sv s3 l3 = 0) then some (.agg ⟨lE (sv s1 l1) (sv s2 l2) (sv s3 l3) (sv s4 l4)⟩) else none
  | _ => none
def c10 : ICode :=
  (.seq (.reg [⟨(some 1), none, (.box 25 8 (.t 0))⟩, ⟨(some 2), none, (.alloc 25 8 [(.bool false), (.string ⟨⟨[]⟩⟩), (.bool false), (.string ⟨⟨[]⟩⟩), (.bool false), (.string ⟨⟨[]⟩⟩), (.bool false), (.string ⟨⟨[]⟩⟩)])⟩])
  (.seq (.reg [⟨(some 6), none, (.load true 8 (.t 1))⟩, ⟨(some 7), none, (.call 29 [(.t 6)])⟩, ⟨(some 5), none, (.mv (.t 7))⟩, ⟨(some 8), none, (.ext (.t 5) 0)⟩, ⟨(some 9), none, (.ext (.t 5) 1)⟩, ⟨(some 3), none, (.alloc 25 8 [(.bool false), (.string ⟨⟨[]⟩⟩), (.bool false), (.string ⟨⟨[]⟩⟩), (.bool false), (.string ⟨⟨[]⟩⟩), (.bool false), (.string ⟨⟨[]⟩⟩)])⟩, ⟨none, none, (.store 8 (.t 3) (.t 8))⟩, ⟨(some 4), none, (.mv (.t 9))⟩])
  (.seq (.reg [⟨(some 10), none, (.load true 8 (.t 3))⟩, ⟨none, none, (.store 8 (.t 2) (.t 10))⟩])
  .ret)))
theorem tr10 : trFun Tryz.prog 10 = some ⟨11, [.cell 2 true 8], c10⟩ := by kernel_rfl
theorem ok_lForm : SpecOK Tryz.prog 10 (flat spLForm) := by
  refine flat_run (env_cons ok_r5Norm (env_nil _)) mixed tr10 ?_
  intro args v h N hG
  unfold spLForm at hG
  split at hG
  case h_2 => cases hG
  rename_i s1 l1 s2 l2 s3 l3 s4 l4
  split at hG
  case isFalse => cases hG
  rename_i hl
  obtain ⟨c1, c2, c3, c4, z⟩ := hl
  cases hG
  refine ⟨rfl, by simp, ?_⟩
  have a1 : l1.length ≤ 68719476736 := by omega
  have a2 : l2.length ≤ 68719476736 := by omega
  have a3 : l3.length ≤ 68719476736 := by omega
  have a4 : l4.length ≤ 68719476736 := by omega
  simp only [c10, initT, List.zipIdx_cons, List.zipIdx_nil, List.map_cons, List.map_nil, Nat.reduceAdd]
  simp only [↓R0, R1, rdL, rdH, isCall, istep, ibin, vcells, fillI, setR, flat, okCell, isBase, List.set, List.drop, List.take, List.append, bnds, bhi, blo, srcOf, ↓reduceIte, Nat.reduceEqDiff, Nat.reduceAdd, Nat.reduceLeDiff, reduceCtorEq, Nat.reduceSub, Int.reduceEq, Int.reduceLT, Int.reduceLE, Int.reduceGT, Int.reduceGE, Int.reduceSub, Int.reduceAdd, Int.reduceMul, Int.reduceNe, Int.reduceNeg, Int.reduceToNat, Nat.reduceMul, a1, a2, a3, a4, z, spR5Norm, lE, Fin, isEnd, resL, res1, iE, rE]
  exact ⟨_, rfl, rfl, fun k hk => by simp only [ne_nb hk, if_false]⟩
end Go.Eng
end
section
set_option linter.unusedVariables false
set_option linter.unusedSimpArgs false
set_option linter.unusedSectionVars false
set_option maxRecDepth 20000
namespace Go.Eng
open Go Go.Proofs Go.IntWalk
theorem ints_cons {cells : List Value} {z : Bool × List UInt8} {zs : List (Bool × List UInt8)} (h : ints cells = some (z :: zs)) : ∃ r, cells = .bool z.1 :: .string ⟨⟨z.2⟩⟩ :: r ∧ ints r = some zs := by
  unfold ints at h
  split at h
  · cases h
  · rename_i s l r
    rw [Option.map_eq_some_iff] at h
    obtain ⟨ys, h1, h2⟩ := h
    cases h2
    exact ⟨r, rfl, h1⟩
  · cases h
theorem ints_drop : ∀ (j : Nat) {cells : List Value} {zs : List (Bool × List UInt8)}, ints cells = some zs → j ≤ zs.length → ints (cells.drop (2 * j)) = some (zs.drop j)
  | 0, cells, zs, h, _ => h
  | j + 1, cells, zs, h, hj => by
    match zs, hj with
    | z :: zs, hj =>
      obtain ⟨r, rfl, hr⟩ := ints_cons h
      have := ints_drop j hr (by simpa using hj)
      rw [show 2 * (j + 1) = 2 * j + 2 by omega]
      simpa using this
theorem ints_four {cells : List Value} {zs : List (Bool × List UInt8)} (h : ints cells = some zs) {i : Nat} (hi : 4 * i + 4 ≤ zs.length) :
    ∃ s1 l1 s2 l2 s3 l3 s4 l4, zs.drop (4 * i) = (s1, l1) :: (s2, l2) :: (s3, l3) :: (s4, l4) :: zs.drop (4 * i + 4) ∧ i * 8 + 8 ≤ cells.length ∧
      (cells.drop (i * 8)).take 8 = [.bool s1, .string ⟨⟨l1⟩⟩, .bool s2, .string ⟨⟨l2⟩⟩, .bool s3, .string ⟨⟨l3⟩⟩, .bool s4, .string ⟨⟨l4⟩⟩] := by
  have hd := ints_drop (4 * i) h (by omega)
  have e : 2 * (4 * i) = i * 8 := by omega
  rw [e] at hd
  obtain ⟨⟨s1, l1⟩, h1⟩ : ∃ z, zs[4 * i]? = some z := ⟨_, List.getElem?_eq_getElem (by omega)⟩
  obtain ⟨⟨s2, l2⟩, h2⟩ : ∃ z, zs[4 * i + 1]? = some z := ⟨_, List.getElem?_eq_getElem (by omega)⟩
  obtain ⟨⟨s3, l3⟩, h3⟩ : ∃ z, zs[4 * i + 2]? = some z := ⟨_, List.getElem?_eq_getElem (by omega)⟩
  obtain ⟨⟨s4, l4⟩, h4⟩ : ∃ z, zs[4 * i + 3]? = some z := ⟨_, List.getElem?_eq_getElem (by omega)⟩
  have dr : ∀ (k : Nat) z, zs[k]? = some z → zs.drop k = z :: zs.drop (k + 1) := fun k z hk => by
    have := List.getElem?_eq_some_iff.1 hk
    obtain ⟨h5, h6⟩ := this
    rw [List.drop_eq_getElem_cons h5, h6]
  have hz : zs.drop (4 * i) = (s1, l1) :: (s2, l2) :: (s3, l3) :: (s4, l4) :: zs.drop (4 * i + 4) := by
    rw [dr _ _ h1, dr _ _ h2, dr _ _ h3, dr _ _ h4]
  rw [hz] at hd
  obtain ⟨r1, c1, d1⟩ := ints_cons hd
  obtain ⟨r2, c2, d2⟩ := ints_cons d1
  obtain ⟨r3, c3, d3⟩ := ints_cons d2
  obtain ⟨r4, c4, d4⟩ := ints_cons d3
  subst c2 c3 c4
  refine ⟨s1, l1, s2, l2, s3, l3, s4, l4, hz, ?_, by rw [c1]; rfl⟩
  have := congrArg List.length c1
  simp at this
  omega
def spLGreat : List Value → Heap → Option Value
  | [.slice (some ⟨k, 0, none⟩) len _], h => match hget h k with
    | some blk => match ints blk.cells with
      | some zs => if 4 * len ≤ zs.length ∧ len ≤ 1000 then some (.int .i64 (if (zs.take (4 * len)).all (fun z => decide (z.2.length ≤ 6)) = true then 0 else 1)) else none
      | none => none
    | none => none
  | _, _ => none
def c13 : ICode :=
  (.seq (.reg [⟨(some 2), none, (.mv (.c (.int .i64 0)))⟩])
  (.seq (.seq (.reg [⟨(some 5), none, (.mv (.t 0))⟩, ⟨(some 6), none, (.lensl (.t 5))⟩, ⟨(some 7), none, (.mv (.c (.int .i64 0)))⟩])
  (.block 0 (.loop (.seq (.reg [⟨(some 8), none, (.bin .lss (.t 7) (.t 6))⟩])
  (.seq (.cond (.t 8)
  .skip
  (.exit 0))
  (.seq (.block 1 (.seq (.reg [⟨(some 9), none, (.ixsl 8 (.t 5) (.t 7))⟩, ⟨(some 10), none, (.load true 8 (.t 9))⟩, ⟨(some 4), none, (.alloc 30 8 [(.bool false), (.string ⟨⟨[]⟩⟩), (.bool false), (.string ⟨⟨[]⟩⟩), (.bool false), (.string ⟨⟨[]⟩⟩), (.bool false), (.string ⟨⟨[]⟩⟩)])⟩, ⟨none, none, (.store 8 (.t 4) (.t 10))⟩])
  (.seq (.reg [⟨(some 11), none, (.faddr 0 (.t 4))⟩, ⟨(some 12), none, (.faddr 1 (.t 11))⟩, ⟨(some 13), none, (.load false 1 (.t 12))⟩, ⟨(some 14), none, (.lens (.t 13))⟩, ⟨(some 15), none, (.bin .gtr (.t 14) (.c (.int .i64 6)))⟩, ⟨(some 16), none, (.mv (.t 15))⟩, ⟨(some 17), (some (16, false)), (.faddr 2 (.t 4))⟩, ⟨(some 18), (some (16, false)), (.faddr 1 (.t 17))⟩, ⟨(some 19), (some (16, false)), (.load false 1 (.t 18))⟩, ⟨(some 20), (some (16, false)), (.lens (.t 19))⟩, ⟨(some 21), (some (16, false)), (.bin .gtr (.t 20) (.c (.int .i64 6)))⟩, ⟨(some 22), none, (.pick (.t 16) (.c (.bool true)) (.t 21))⟩, ⟨(some 23), none, (.mv (.t 22))⟩, ⟨(some 24), (some (23, false)), (.faddr 4 (.t 4))⟩, ⟨(some 25), (some (23, false)), (.faddr 1 (.t 24))⟩, ⟨(some 26), (some (23, false)), (.load false 1 (.t 25))⟩, ⟨(some 27), (some (23, false)), (.lens (.t 26))⟩, ⟨(some 28), (some (23, false)), (.bin .gtr (.t 27) (.c (.int .i64 6)))⟩, ⟨(some 29), none, (.pick (.t 23) (.c (.bool true)) (.t 28))⟩, ⟨(some 30), none, (.mv (.t 29))⟩, ⟨(some 31), (some (30, false)), (.faddr 6 (.t 4))⟩, ⟨(some 32), (some (30, false)), (.faddr 1 (.t 31))⟩, ⟨(some 33), (some (30, false)), (.load false 1 (.t 32))⟩, ⟨(some 34), (some (30, false)), (.lens (.t 33))⟩, ⟨(some 35), (some (30, false)), (.bin .gtr (.t 34) (.c (.int .i64 6)))⟩, ⟨(some 36), none, (.pick (.t 30) (.c (.bool true)) (.t 35))⟩])
  (.cond (.t 36)
  (.seq (.reg [⟨(some 2), none, (.mv (.c (.int .i64 1)))⟩])
  .ret)
  .skip))))
  (.reg [⟨(some 37), none, (.bin .add (.t 7) (.c (.int .i64 1)))⟩, ⟨(some 7), none, (.mv (.t 37))⟩])))))))
  (.seq (.reg [⟨(some 2), none, (.mv (.c (.int .i64 0)))⟩])
  .ret)))
theorem tr13 : trFun Tryz.prog 13 = some ⟨38, [.t 2], c13⟩ := by kernel_rfl
set_option maxHeartbeats 1000000 in
theorem ok_lGreat : SpecOK Tryz.prog 13 (rdS spLGreat) := by
  refine rd_run (env_nil _) mixed tr13 ?_ ?_
  · intro args h h' v hle e
    unfold spLGreat at e ⊢
    split at e
    · rename_i k len c
      split at e
      · rename_i blk hb
        simp only [hle _ _ hb]; exact e
      · cases e
    · cases e
  intro args v h N hG hN
  unfold spLGreat at hG
  split at hG
  case h_2 => cases hG
  rename_i k len c
  split at hG
  case h_2 => cases hG
  rename_i blk hb
  split at hG
  case h_2 => cases hG
  rename_i zs hz
  split at hG
  case isFalse => cases hG
  rename_i hl
  obtain ⟨hl1, hl2⟩ := hl
  cases hG
  have hk := hN _ _ hb
  refine ⟨by rfl, by simp, ?_⟩
  have tr : ∀ l : List UInt8, ¬ l.length ≤ 6 → ((l.length : Int) > 6) = True := fun l h => eq_true (by omega)
  have fl : ∀ l : List UInt8, l.length ≤ 6 → ((l.length : Int) > 6) = False := fun l h => eq_false (by omega)
  simp only [c13, initT, List.zipIdx_cons, List.zipIdx_nil, List.map_cons, List.map_nil, Nat.reduceAdd]
  simp only [↓R0, R1, rdL, rdH, isCall, istep, ibin, vcells, fillI, setR, flat, okCell, isBase, List.set, List.drop, List.take, List.append, bnds, bhi, blo, srcOf, ↓reduceIte, Nat.reduceEqDiff, Nat.reduceAdd, Nat.reduceLeDiff, reduceCtorEq, Nat.reduceSub, Int.reduceEq, Int.reduceLT, Int.reduceLE, Int.reduceGT, Int.reduceGE, Int.reduceSub, Int.reduceAdd, Int.reduceMul, Int.reduceNe, Int.reduceNeg, Int.reduceToNat, Nat.reduceMul]
  refine lp_parts (fun n tm hp nx => ∃ (i : Nat), n + i = len ∧ tmget tm 5 = .slice (some ⟨k, 0, none⟩) len c ∧ tmget tm 6 = .int .i64 len ∧ tmget tm 7 = .int .i64 i ∧
      (zs.take (4 * i)).all (fun z => decide (z.2.length ≤ 6)) = true ∧ (∀ q, q < N → hget hp q = hget h q) ∧ nx = N + i) ?_ len
    ⟨0, by omega, ?_, ?_, ?_, rfl, fun q _ => rfl, rfl⟩
  · intro n tm hp nx ⟨i, hn, t5, t6, t7, hall, hh, hnx⟩
    rw [hnx]
    clear hnx nx
    by_cases c1 : i < len
    · obtain ⟨s1, l1, s2, l2, s3, l3, s4, l4, e1, e2, e3⟩ := ints_four hz (i := i) (by omega)
      have hbb : hget hp k = some blk := by rw [hh k hk]; exact hb
      have ei : IntKind.i64.wrap ((i : Int) + 1) = ((i + 1 : Nat) : Int) := by rw [i64_in _ (by omega)]; omega
      have hne : ¬ (N + i = k) := by omega
      have hlen : ∀ m, i < m → 4 * m ≤ zs.length → zs.take (4 * m) = zs.take (4 * i) ++ ((s1, l1) :: (s2, l2) :: (s3, l3) :: (s4, l4) :: (zs.drop (4 * i + 4)).take (4 * m - (4 * i + 4))) := by
        intro m hm hm2
        have : zs.take (4 * m) = zs.take (4 * i) ++ (zs.drop (4 * i)).take (4 * m - 4 * i) := by
          rw [← List.take_add, show 4 * i + (4 * m - 4 * i) = 4 * m by omega]
        rw [this, e1]
        obtain ⟨d, hd⟩ : ∃ d, 4 * m - 4 * i = d + 4 := ⟨4 * m - 4 * i - 4, by omega⟩
        rw [hd, show 4 * m - (4 * i + 4) = d by omega]
        rfl
      have htot := hlen len c1 hl1
      by_cases c2 : l1.length ≤ 6 ∧ l2.length ≤ 6 ∧ l3.length ≤ 6 ∧ l4.length ≤ 6
      · obtain ⟨q1, q2, q3, q4⟩ := c2
        have d1 := fl l1 q1
        have d2 := fl l2 q2
        have d3 := fl l3 q3
        have d4 := fl l4 q4
        simp only [↓R0, R1, rdL, rdH, isCall, istep, ibin, vcells, fillI, setR, flat, okCell, isBase, List.set, List.drop, List.take, List.append, bnds, bhi, blo, srcOf, ↓reduceIte, Nat.reduceEqDiff, Nat.reduceAdd, Nat.reduceLeDiff, reduceCtorEq, Nat.reduceSub, Int.reduceEq, Int.reduceLT, Int.reduceLE, Int.reduceGT, Int.reduceGE, Int.reduceSub, Int.reduceAdd, Int.reduceMul, Int.reduceNe, Int.reduceNeg, Int.reduceToNat, Nat.reduceMul, t5, t6, t7, c1, hne, hbb, e2, e3, d1, d2, d3, d4, ei]
        refine ⟨n - 1, by omega, i + 1, by omega, rfl, ?_, ?_, rfl⟩
        · have := hlen (i + 1) (by omega) (by omega)
          rw [this]
          simp [hall, q1, q2, q3, q4, show 4 * (i + 1) - (4 * i + 4) = 0 by omega]
        · intro q hq
          simp only [if_neg (show ¬ N + i = q by omega)]
          exact hh q hq
      · have hbad : ¬ ((zs.take (4 * len)).all (fun z => decide (z.2.length ≤ 6)) = true) := by
          intro e
          rw [htot] at e
          simp only [List.all_append, List.all_cons, Bool.and_eq_true, decide_eq_true_eq] at e
          exact c2 ⟨e.2.1, e.2.2.1, e.2.2.2.1, e.2.2.2.2.1⟩
        rw [if_neg hbad]
        by_cases q1 : l1.length ≤ 6
        · have d1 := fl l1 q1
          by_cases q2 : l2.length ≤ 6
          · have d2 := fl l2 q2
            by_cases q3 : l3.length ≤ 6
            · have d3 := fl l3 q3
              have d4 := tr l4 (fun q4 => c2 ⟨q1, q2, q3, q4⟩)
              simp only [↓R0, R1, rdL, rdH, isCall, istep, ibin, vcells, fillI, setR, flat, okCell, isBase, List.set, List.drop, List.take, List.append, bnds, bhi, blo, srcOf, ↓reduceIte, Nat.reduceEqDiff, Nat.reduceAdd, Nat.reduceLeDiff, reduceCtorEq, Nat.reduceSub, Int.reduceEq, Int.reduceLT, Int.reduceLE, Int.reduceGT, Int.reduceGE, Int.reduceSub, Int.reduceAdd, Int.reduceMul, Int.reduceNe, Int.reduceNeg, Int.reduceToNat, Nat.reduceMul, t5, t6, t7, c1, hne, hbb, e2, e3, d1, d2, d3, d4, Fin, isEnd, resL, res1, iE, rE]
              first | exact ⟨_, rfl, rfl, hh⟩ | exact ⟨_, rfl, rfl, fun k hk => by simp only [ne_nb hk, if_false]; exact hh k hk⟩
            · have d3 := tr l3 q3
              simp only [↓R0, R1, rdL, rdH, isCall, istep, ibin, vcells, fillI, setR, flat, okCell, isBase, List.set, List.drop, List.take, List.append, bnds, bhi, blo, srcOf, ↓reduceIte, Nat.reduceEqDiff, Nat.reduceAdd, Nat.reduceLeDiff, reduceCtorEq, Nat.reduceSub, Int.reduceEq, Int.reduceLT, Int.reduceLE, Int.reduceGT, Int.reduceGE, Int.reduceSub, Int.reduceAdd, Int.reduceMul, Int.reduceNe, Int.reduceNeg, Int.reduceToNat, Nat.reduceMul, t5, t6, t7, c1, hne, hbb, e2, e3, d1, d2, d3, Fin, isEnd, resL, res1, iE, rE]
              first | exact ⟨_, rfl, rfl, hh⟩ | exact ⟨_, rfl, rfl, fun k hk => by simp only [ne_nb hk, if_false]; exact hh k hk⟩
          · have d2 := tr l2 q2
            simp only [↓R0, R1, rdL, rdH, isCall, istep, ibin, vcells, fillI, setR, flat, okCell, isBase, List.set, List.drop, List.take, List.append, bnds, bhi, blo, srcOf, ↓reduceIte, Nat.reduceEqDiff, Nat.reduceAdd, Nat.reduceLeDiff, reduceCtorEq, Nat.reduceSub, Int.reduceEq, Int.reduceLT, Int.reduceLE, Int.reduceGT, Int.reduceGE, Int.reduceSub, Int.reduceAdd, Int.reduceMul, Int.reduceNe, Int.reduceNeg, Int.reduceToNat, Nat.reduceMul, t5, t6, t7, c1, hne, hbb, e2, e3, d1, d2, Fin, isEnd, resL, res1, iE, rE]
            first | exact ⟨_, rfl, rfl, hh⟩ | exact ⟨_, rfl, rfl, fun k hk => by simp only [ne_nb hk, if_false]; exact hh k hk⟩
        · have d1 := tr l1 q1
          simp only [↓R0, R1, rdL, rdH, isCall, istep, ibin, vcells, fillI, setR, flat, okCell, isBase, List.set, List.drop, List.take, List.append, bnds, bhi, blo, srcOf, ↓reduceIte, Nat.reduceEqDiff, Nat.reduceAdd, Nat.reduceLeDiff, reduceCtorEq, Nat.reduceSub, Int.reduceEq, Int.reduceLT, Int.reduceLE, Int.reduceGT, Int.reduceGE, Int.reduceSub, Int.reduceAdd, Int.reduceMul, Int.reduceNe, Int.reduceNeg, Int.reduceToNat, Nat.reduceMul, t5, t6, t7, c1, hne, hbb, e2, e3, d1, Fin, isEnd, resL, res1, iE, rE]
          first | exact ⟨_, rfl, rfl, hh⟩ | exact ⟨_, rfl, rfl, fun k hk => by simp only [ne_nb hk, if_false]; exact hh k hk⟩
    · have ei : i = len := by omega
      subst ei
      rw [if_pos hall]
      simp only [↓R0, R1, rdL, rdH, isCall, istep, ibin, vcells, fillI, setR, flat, okCell, isBase, List.set, List.drop, List.take, List.append, bnds, bhi, blo, srcOf, ↓reduceIte, Nat.reduceEqDiff, Nat.reduceAdd, Nat.reduceLeDiff, reduceCtorEq, Nat.reduceSub, Int.reduceEq, Int.reduceLT, Int.reduceLE, Int.reduceGT, Int.reduceGE, Int.reduceSub, Int.reduceAdd, Int.reduceMul, Int.reduceNe, Int.reduceNeg, Int.reduceToNat, Nat.reduceMul, t5, t6, t7, c1, Fin, isEnd, resL, res1, iE, rE]
      first | exact ⟨_, rfl, rfl, hh⟩ | exact ⟨_, rfl, rfl, fun k hk => by simp only [ne_nb hk, if_false]; exact hh k hk⟩
  · (first | (simp only [↓R0, R1, rdL, rdH, isCall, istep, ibin, vcells, fillI, setR, flat, okCell, isBase, List.set, List.drop, List.take, List.append, bnds, bhi, blo, srcOf, ↓reduceIte, Nat.reduceEqDiff, Nat.reduceAdd, Nat.reduceLeDiff, reduceCtorEq, Nat.reduceSub, Int.reduceEq, Int.reduceLT, Int.reduceLE, Int.reduceGT, Int.reduceGE, Int.reduceSub, Int.reduceAdd, Int.reduceMul, Int.reduceNe, Int.reduceNeg, Int.reduceToNat, Nat.reduceMul]; done) | (simp only [↓R0, R1, rdL, rdH, isCall, istep, ibin, vcells, fillI, setR, flat, okCell, isBase, List.set, List.drop, List.take, List.append, bnds, bhi, blo, srcOf, ↓reduceIte, Nat.reduceEqDiff, Nat.reduceAdd, Nat.reduceLeDiff, reduceCtorEq, Nat.reduceSub, Int.reduceEq, Int.reduceLT, Int.reduceLE, Int.reduceGT, Int.reduceGE, Int.reduceSub, Int.reduceAdd, Int.reduceMul, Int.reduceNe, Int.reduceNeg, Int.reduceToNat, Nat.reduceMul]; rfl) | rfl)
  · (first | (simp only [↓R0, R1, rdL, rdH, isCall, istep, ibin, vcells, fillI, setR, flat, okCell, isBase, List.set, List.drop, List.take, List.append, bnds, bhi, blo, srcOf, ↓reduceIte, Nat.reduceEqDiff, Nat.reduceAdd, Nat.reduceLeDiff, reduceCtorEq, Nat.reduceSub, Int.reduceEq, Int.reduceLT, Int.reduceLE, Int.reduceGT, Int.reduceGE, Int.reduceSub, Int.reduceAdd, Int.reduceMul, Int.reduceNe, Int.reduceNeg, Int.reduceToNat, Nat.reduceMul]; done) | (simp only [↓R0, R1, rdL, rdH, isCall, istep, ibin, vcells, fillI, setR, flat, okCell, isBase, List.set, List.drop, List.take, List.append, bnds, bhi, blo, srcOf, ↓reduceIte, Nat.reduceEqDiff, Nat.reduceAdd, Nat.reduceLeDiff, reduceCtorEq, Nat.reduceSub, Int.reduceEq, Int.reduceLT, Int.reduceLE, Int.reduceGT, Int.reduceGE, Int.reduceSub, Int.reduceAdd, Int.reduceMul, Int.reduceNe, Int.reduceNeg, Int.reduceToNat, Nat.reduceMul]; rfl) | rfl)
  · (first | (simp only [↓R0, R1, rdL, rdH, isCall, istep, ibin, vcells, fillI, setR, flat, okCell, isBase, List.set, List.drop, List.take, List.append, bnds, bhi, blo, srcOf, ↓reduceIte, Nat.reduceEqDiff, Nat.reduceAdd, Nat.reduceLeDiff, reduceCtorEq, Nat.reduceSub, Int.reduceEq, Int.reduceLT, Int.reduceLE, Int.reduceGT, Int.reduceGE, Int.reduceSub, Int.reduceAdd, Int.reduceMul, Int.reduceNe, Int.reduceNeg, Int.reduceToNat, Nat.reduceMul]; done) | (simp only [↓R0, R1, rdL, rdH, isCall, istep, ibin, vcells, fillI, setR, flat, okCell, isBase, List.set, List.drop, List.take, List.append, bnds, bhi, blo, srcOf, ↓reduceIte, Nat.reduceEqDiff, Nat.reduceAdd, Nat.reduceLeDiff, reduceCtorEq, Nat.reduceSub, Int.reduceEq, Int.reduceLT, Int.reduceLE, Int.reduceGT, Int.reduceGE, Int.reduceSub, Int.reduceAdd, Int.reduceMul, Int.reduceNe, Int.reduceNeg, Int.reduceToNat, Nat.reduceMul]; rfl) | rfl)
end Go.Eng
end
section
set_option linter.unusedVariables false
set_option linter.unusedSimpArgs false
set_option linter.unusedSectionVars false
namespace Go.Eng
theorem pG_dvd_x (x y z w : Int) : (pG x y z w : Int) ∣ x := by
  refine Int.ofNat_dvd_left.2 ?_; exact Nat.dvd_trans (Nat.gcd_dvd_left _ _) (Nat.dvd_trans (Nat.gcd_dvd_left _ _) (Nat.gcd_dvd_left _ _))
theorem pG_dvd_y (x y z w : Int) : (pG x y z w : Int) ∣ y := by
  refine Int.ofNat_dvd_left.2 ?_; exact Nat.dvd_trans (Nat.gcd_dvd_left _ _) (Nat.dvd_trans (Nat.gcd_dvd_left _ _) (Nat.gcd_dvd_right _ _))
theorem pG_dvd_z (x y z w : Int) : (pG x y z w : Int) ∣ z := by
  refine Int.ofNat_dvd_left.2 ?_; exact Nat.dvd_trans (Nat.gcd_dvd_left _ _) (Nat.gcd_dvd_right _ _)
theorem pG_dvd_w (x y z w : Int) : (pG x y z w : Int) ∣ pW w := by
  refine Int.ofNat_dvd_left.2 ?_; exact Nat.gcd_dvd_right _ _
theorem pQ_len {x y z w a : Int} {k : Nat} (h : (bl a.natAbs).length ≤ k) : (bl (pQ x y z w a).natAbs).length ≤ k := by
  unfold pQ
  refine Nat.le_trans (bl_length_mono (Int.natAbs_ediv_le_natAbs _ _)) ?_
  split
  · rw [Int.natAbs_neg]; exact h
  · exact h
theorem pQ_mul {x y z w a : Int} (h : (pG x y z w : Int) ∣ a) : pQ x y z w a * (pG x y z w : Int) = if pW w < 0 then -a else a := by
  unfold pQ
  split
  · exact Int.ediv_mul_cancel (Int.dvd_neg.2 h)
  · exact Int.ediv_mul_cancel h
theorem pQ_pos (x y z w : Int) : 0 < pQ x y z w (pW w) := by
  have h := pQ_mul (pG_dvd_w x y z w)
  have hg := pG_pos x y z w
  have hw := pW_ne w
  have hp : 0 < pQ x y z w (pW w) * (pG x y z w : Int) := by
    rw [h]; split <;> omega
  exact Int.pos_of_mul_pos_left hp (by omega)
theorem pQ_div {x y z w a : Int} (h : (pG x y z w : Int) ∣ a) : Rat.divInt (pQ x y z w a) (pQ x y z w (pW w)) = Rat.divInt a (pW w) := by
  have h1 := pQ_mul h
  have h2 := pQ_mul (pG_dvd_w x y z w)
  have hp := pQ_pos x y z w
  have hw := pW_ne w
  have hg := pG_pos x y z w
  rw [Rat.divInt_eq_divInt_iff (by omega) hw]
  have hg' : (pG x y z w : Int) ≠ 0 := by omega
  generalize (pG x y z w : Int) = g at *
  generalize pQ x y z w a = q at *
  generalize pQ x y z w (pW w) = r at *
  by_cases c : pW w < 0
  · rw [if_pos c] at h1 h2
    apply Int.eq_of_mul_eq_mul_right hg'
    grind
  · rw [if_neg c] at h1 h2
    apply Int.eq_of_mul_eq_mul_right hg'
    grind
theorem line_by {A B C x1 y1 z1 w1 x2 y2 z2 w2 D : Int} (h1 : w1 ≠ 0) (h2 : w2 ≠ 0) :
    (A : Rat) * (Rat.divInt x2 w2 - Rat.divInt x1 w1) + (B : Rat) * (Rat.divInt y2 w2 - Rat.divInt y1 w1) + (C : Rat) * (Rat.divInt z2 w2 - Rat.divInt z1 w1) =
      Rat.divInt (w1 * (A * x2 + B * y2 + C * z2 - D * w2) - w2 * (A * x1 + B * y1 + C * z1 - D * w1)) (w1 * w2) := by
  have e1 : (w1 : Rat) ≠ 0 := fun e => h1 (by exact_mod_cast e)
  have e2 : (w2 : Rat) ≠ 0 := fun e => h2 (by exact_mod_cast e)
  simp only [Rat.divInt_eq_div, Rat.intCast_sub, Rat.intCast_add, Rat.intCast_mul]
  generalize (w1 : Rat) = W1 at *
  generalize (w2 : Rat) = W2 at *
  grind
theorem line_zero {N a b : Int} (ha : a ≠ 0) (hb : b ≠ 0) : Rat.divInt N (a * b) = 0 ↔ N = 0 := by
  rw [Rat.divInt_eq_div]
  have e : ((a * b : Int) : Rat) ≠ 0 := fun e => by
    have : a * b = 0 := by exact_mod_cast e
    exact Int.mul_ne_zero ha hb this
  constructor
  · intro h
    have : (N : Rat) = 0 := by
      generalize ((a * b : Int) : Rat) = d at *
      grind
    exact_mod_cast this
  · intro h
    subst h
    have : ((0 : Int) : Rat) = 0 := rfl
    rw [this]
    grind
theorem line_at {A B C D x1 y1 z1 w1 x2 y2 z2 w2 p1 p2 : Int} (h1 : w1 ≠ 0) (h2 : w2 ≠ 0) {N S T : Int} (hS : S = A * x1 + B * y1 + C * z1 - D * w1) (hT : T = A * x2 + B * y2 + C * z2 - D * w2) (hN : N = w1 * T - w2 * S) (h0 : N ≠ 0) :
    Rat.divInt p1 w1 + (Rat.divInt p2 w2 - Rat.divInt p1 w1) * (((D : Rat) - ((A : Rat) * Rat.divInt x1 w1 + (B : Rat) * Rat.divInt y1 w1 + (C : Rat) * Rat.divInt z1 w1)) / Rat.divInt N (w1 * w2)) =
      Rat.divInt (p1 * T - p2 * S) N := by
  have e1 : (w1 : Rat) ≠ 0 := fun e => h1 (by exact_mod_cast e)
  have e2 : (w2 : Rat) ≠ 0 := fun e => h2 (by exact_mod_cast e)
  have e3 : (N : Rat) ≠ 0 := fun e => h0 (by exact_mod_cast e)
  have hS' : (S : Rat) = (A : Rat) * x1 + (B : Rat) * y1 + (C : Rat) * z1 - (D : Rat) * w1 := by rw [hS]; simp only [Rat.intCast_sub, Rat.intCast_add, Rat.intCast_mul]
  have hN' : (N : Rat) = (w1 : Rat) * T - (w2 : Rat) * S := by rw [hN]; simp only [Rat.intCast_sub, Rat.intCast_add, Rat.intCast_mul]
  simp only [Rat.divInt_eq_div, Rat.intCast_sub, Rat.intCast_add, Rat.intCast_mul]
  clear hS hT hN h0 h1 h2
  generalize (w1 : Rat) = W1 at *
  generalize (w2 : Rat) = W2 at *
  generalize (N : Rat) = n at *
  generalize (S : Rat) = s at *
  generalize (T : Rat) = t at *
  generalize (A : Rat) = a at *
  generalize (B : Rat) = b at *
  generalize (C : Rat) = c at *
  generalize (D : Rat) = d at *
  generalize (x1 : Rat) = X1 at *
  generalize (y1 : Rat) = Y1 at *
  generalize (z1 : Rat) = Z1 at *
  generalize (p1 : Rat) = P1 at *
  generalize (p2 : Rat) = P2 at *
  have k : d - (a * (X1 / W1) + b * (Y1 / W1) + c * (Z1 / W1)) = - s / W1 := by grind
  rw [k]
  have k2 : -s / W1 / (n / (W1 * W2)) = - s * W2 / n := by grind
  rw [k2]
  grind
end Go.Eng
end
section
set_option linter.unusedVariables false
set_option linter.unusedSimpArgs false
set_option linter.unusedSectionVars false
set_option maxRecDepth 20000
namespace Go.Eng
open Go Go.Proofs Go.IntWalk
def spR4Coords : List Value → Option Value
  | [.agg ⟨[.bool s1, .string ⟨⟨l1⟩⟩, .bool s2, .string ⟨⟨l2⟩⟩, .bool s3, .string ⟨⟨l3⟩⟩, .bool s4, .string ⟨⟨l4⟩⟩]⟩] =>
    if l1.length ≤ 34359738368 ∧ l2.length ≤ 34359738368 ∧ l3.length ≤ 34359738368 ∧ l4.length ≤ 34359738368 then
      some (.agg ⟨r3E (Rat.divInt (sv s1 l1) (pW (sv s4 l4))) (Rat.divInt (sv s2 l2) (pW (sv s4 l4))) (Rat.divInt (sv s3 l3) (pW (sv s4 l4)))⟩) else none
  | _ => none
def c57 : ICode :=
  (.seq (.reg [⟨(some 1), none, (.box 30 8 (.t 0))⟩, ⟨(some 2), none, (.alloc 67 9 [(.bool false), (.string ⟨⟨[]⟩⟩), (.string ⟨⟨[]⟩⟩), (.bool false), (.string ⟨⟨[]⟩⟩), (.string ⟨⟨[]⟩⟩), (.bool false), (.string ⟨⟨[]⟩⟩), (.string ⟨⟨[]⟩⟩)])⟩])
  (.seq (.reg [⟨(some 10), none, (.load true 8 (.t 1))⟩, ⟨(some 11), none, (.call 14 [(.t 10)])⟩, ⟨(some 3), none, (.alloc 30 8 [(.bool false), (.string ⟨⟨[]⟩⟩), (.bool false), (.string ⟨⟨[]⟩⟩), (.bool false), (.string ⟨⟨[]⟩⟩), (.bool false), (.string ⟨⟨[]⟩⟩)])⟩, ⟨none, none, (.store 8 (.t 3) (.t 11))⟩])
  (.seq (.reg [⟨(some 13), none, (.faddr 0 (.t 3))⟩, ⟨(some 14), none, (.load true 2 (.t 13))⟩, ⟨(some 15), none, (.faddr 6 (.t 3))⟩, ⟨(some 16), none, (.load true 2 (.t 15))⟩, ⟨(some 17), none, (.call 86 [(.t 14), (.t 16)])⟩, ⟨(some 12), none, (.mv (.t 17))⟩, ⟨(some 18), none, (.ext (.t 12) 0)⟩, ⟨(some 19), none, (.ext (.t 12) 1)⟩, ⟨(some 4), none, (.alloc 47 3 [(.bool false), (.string ⟨⟨[]⟩⟩), (.string ⟨⟨[]⟩⟩)])⟩, ⟨none, none, (.store 3 (.t 4) (.t 18))⟩, ⟨(some 5), none, (.mv (.t 19))⟩])
  (.seq (.reg [⟨(some 21), none, (.faddr 2 (.t 3))⟩, ⟨(some 22), none, (.load true 2 (.t 21))⟩, ⟨(some 23), none, (.faddr 6 (.t 3))⟩, ⟨(some 24), none, (.load true 2 (.t 23))⟩, ⟨(some 25), none, (.call 86 [(.t 22), (.t 24)])⟩, ⟨(some 20), none, (.mv (.t 25))⟩, ⟨(some 26), none, (.ext (.t 20) 0)⟩, ⟨(some 27), none, (.ext (.t 20) 1)⟩, ⟨(some 6), none, (.alloc 47 3 [(.bool false), (.string ⟨⟨[]⟩⟩), (.string ⟨⟨[]⟩⟩)])⟩, ⟨none, none, (.store 3 (.t 6) (.t 26))⟩, ⟨(some 7), none, (.mv (.t 27))⟩])
  (.seq (.reg [⟨(some 29), none, (.faddr 4 (.t 3))⟩, ⟨(some 30), none, (.load true 2 (.t 29))⟩, ⟨(some 31), none, (.faddr 6 (.t 3))⟩, ⟨(some 32), none, (.load true 2 (.t 31))⟩, ⟨(some 33), none, (.call 86 [(.t 30), (.t 32)])⟩, ⟨(some 28), none, (.mv (.t 33))⟩, ⟨(some 34), none, (.ext (.t 28) 0)⟩, ⟨(some 35), none, (.ext (.t 28) 1)⟩, ⟨(some 8), none, (.alloc 47 3 [(.bool false), (.string ⟨⟨[]⟩⟩), (.string ⟨⟨[]⟩⟩)])⟩, ⟨none, none, (.store 3 (.t 8) (.t 34))⟩, ⟨(some 9), none, (.mv (.t 35))⟩])
  (.seq (.reg [⟨(some 36), none, (.load true 3 (.t 4))⟩, ⟨(some 37), none, (.load true 3 (.t 6))⟩, ⟨(some 38), none, (.load true 3 (.t 8))⟩, ⟨(some 39), none, (.build [(.bool false), (.string ⟨⟨[]⟩⟩), (.string ⟨⟨[]⟩⟩), (.bool false), (.string ⟨⟨[]⟩⟩), (.string ⟨⟨[]⟩⟩), (.bool false), (.string ⟨⟨[]⟩⟩), (.string ⟨⟨[]⟩⟩)] [(0, 3, (.t 36)), (3, 3, (.t 37)), (6, 3, (.t 38))])⟩, ⟨none, none, (.store 9 (.t 2) (.t 39))⟩])
  .ret))))))
theorem tr57 : trFun Tryz.prog 57 = some ⟨40, [.cell 2 true 9], c57⟩ := by kernel_rfl
theorem pW_len {w : Int} {k : Nat} (h : (bl w.natAbs).length ≤ k) (hk : 1 ≤ k) : (bl (pW w).natAbs).length ≤ k := by
  unfold pW; split
  · exact Nat.le_trans (bl_length_le (k := 1).2 (by decide)) hk
  · exact h
theorem ok_r4Coords : SpecOK Tryz.prog 57 (flat spR4Coords) := by
  refine flat_run (env_cons ok_r4Norm (env_cons ok_r3Make (env_nil _))) mixed tr57 ?_
  intro args v h N hG
  unfold spR4Coords at hG
  split at hG
  case h_2 => cases hG
  rename_i s1 l1 s2 l2 s3 l3 s4 l4
  split at hG
  case isFalse => cases hG
  rename_i hl
  obtain ⟨h1, h2, h3, h4⟩ := hl
  cases hG
  refine ⟨rfl, by simp, ?_⟩
  have n1 := lle (k := 68719476736) (len_sv (s := s1) h1) (by omega)
  have n2 := lle (k := 68719476736) (len_sv (s := s2) h2) (by omega)
  have n3 := lle (k := 68719476736) (len_sv (s := s3) h3) (by omega)
  have n4 := pW_len (lle (k := 68719476736) (len_sv (s := s4) h4) (by omega)) (by omega)
  generalize ex : sv s1 l1 = x at *
  generalize ey : sv s2 l2 = y at *
  generalize ez : sv s3 l3 = z at *
  generalize ew : sv s4 l4 = w at *
  have q1 := pQ_len (x := x) (y := y) (z := z) (w := w) n1
  have q2 := pQ_len (x := x) (y := y) (z := z) (w := w) n2
  have q3 := pQ_len (x := x) (y := y) (z := z) (w := w) n3
  have q4 := pQ_len (x := x) (y := y) (z := z) (w := w) n4
  have d1 := pQ_div (pG_dvd_x x y z w)
  have d2 := pQ_div (pG_dvd_y x y z w)
  have d3 := pQ_div (pG_dvd_z x y z w)
  have ne : ¬ ((pQ x y z w (pW w)).natAbs = 0) := by have := pQ_pos x y z w; omega
  simp only [c57, initT, List.zipIdx_cons, List.zipIdx_nil, List.map_cons, List.map_nil, Nat.reduceAdd]
  simp only [↓R0, R1, rdL, rdH, isCall, istep, ibin, vcells, fillI, setR, flat, okCell, isBase, List.set, List.drop, List.take, List.append, bnds, bhi, blo, srcOf, ↓reduceIte, Nat.reduceEqDiff, Nat.reduceAdd, Nat.reduceLeDiff, reduceCtorEq, Nat.reduceSub, Int.reduceEq, Int.reduceLT, Int.reduceLE, Int.reduceGT, Int.reduceGE, Int.reduceSub, Int.reduceAdd, Int.reduceMul, Int.reduceNe, Int.reduceNeg, Int.reduceToNat, Nat.reduceMul, spR4Norm, h1, h2, h3, h4, ex, ey, ez, ew, pE, iE]
  simp only [↓R0, R1, rdL, rdH, isCall, istep, ibin, vcells, fillI, setR, flat, okCell, isBase, List.set, List.drop, List.take, List.append, bnds, bhi, blo, srcOf, ↓reduceIte, Nat.reduceEqDiff, Nat.reduceAdd, Nat.reduceLeDiff, reduceCtorEq, Nat.reduceSub, Int.reduceEq, Int.reduceLT, Int.reduceLE, Int.reduceGT, Int.reduceGE, Int.reduceSub, Int.reduceAdd, Int.reduceMul, Int.reduceNe, Int.reduceNeg, Int.reduceToNat, Nat.reduceMul, spR3Make, q1, q2, q3, q4, nl_bl, ne, d1, d2, d3, r3E, Fin, isEnd, resL, res1, iE, rE]
  exact ⟨_, rfl, rfl, fun k hk => by simp only [ne_nb hk, if_false]⟩
def spR6Minus : List Value → Option Value
  | [.agg ⟨[.bool s1, .string ⟨⟨l1⟩⟩, .bool s2, .string ⟨⟨l2⟩⟩, .bool s3, .string ⟨⟨l3⟩⟩, .bool s4, .string ⟨⟨l4⟩⟩]⟩, .agg ⟨[.bool t1, .string ⟨⟨m1⟩⟩, .bool t2, .string ⟨⟨m2⟩⟩, .bool t3, .string ⟨⟨m3⟩⟩, .bool t4, .string ⟨⟨m4⟩⟩]⟩] =>
    if l1.length ≤ 4294967296 ∧ l2.length ≤ 4294967296 ∧ l3.length ≤ 4294967296 ∧ l4.length ≤ 4294967296 ∧ m1.length ≤ 4294967296 ∧ m2.length ≤ 4294967296 ∧ m3.length ≤ 4294967296 ∧ m4.length ≤ 4294967296 then
      some (.agg ⟨r3E (Rat.divInt (sv s1 l1) (pW (sv s4 l4)) - Rat.divInt (sv t1 m1) (pW (sv t4 m4))) (Rat.divInt (sv s2 l2) (pW (sv s4 l4)) - Rat.divInt (sv t2 m2) (pW (sv t4 m4))) (Rat.divInt (sv s3 l3) (pW (sv s4 l4)) - Rat.divInt (sv t3 m3) (pW (sv t4 m4)))⟩) else none
  | _ => none
def c55 : ICode :=
  (.seq (.reg [⟨(some 2), none, (.box 30 8 (.t 0))⟩, ⟨(some 3), none, (.box 30 8 (.t 1))⟩, ⟨(some 4), none, (.alloc 67 9 [(.bool false), (.string ⟨⟨[]⟩⟩), (.string ⟨⟨[]⟩⟩), (.bool false), (.string ⟨⟨[]⟩⟩), (.string ⟨⟨[]⟩⟩), (.bool false), (.string ⟨⟨[]⟩⟩), (.string ⟨⟨[]⟩⟩)])⟩])
  (.seq (.dreg [⟨(some 7), none, [], (.load true 8 (.t 2))⟩, ⟨(some 8), none, [], (.call 57 [(.t 7)])⟩, ⟨(some 9), none, [1], (.load true 8 (.t 3))⟩, ⟨(some 10), none, [], (.call 57 [(.t 9)])⟩, ⟨(some 5), none, [], (.alloc 67 9 [(.bool false), (.string ⟨⟨[]⟩⟩), (.string ⟨⟨[]⟩⟩), (.bool false), (.string ⟨⟨[]⟩⟩), (.string ⟨⟨[]⟩⟩), (.bool false), (.string ⟨⟨[]⟩⟩), (.string ⟨⟨[]⟩⟩)])⟩, ⟨(some 6), none, [], (.alloc 67 9 [(.bool false), (.string ⟨⟨[]⟩⟩), (.string ⟨⟨[]⟩⟩), (.bool false), (.string ⟨⟨[]⟩⟩), (.string ⟨⟨[]⟩⟩), (.bool false), (.string ⟨⟨[]⟩⟩), (.string ⟨⟨[]⟩⟩)])⟩, ⟨none, none, [], (.store 9 (.t 5) (.t 8))⟩, ⟨none, none, [], (.store 9 (.t 6) (.t 10))⟩])
  (.seq (.dreg [⟨(some 11), none, [], (.ixarr 3 3 (.t 5) (.c (.int .i64 0)))⟩, ⟨(some 12), none, [], (.load true 3 (.t 11))⟩, ⟨(some 13), none, [], (.ixarr 3 3 (.t 6) (.c (.int .i64 0)))⟩, ⟨(some 14), none, [], (.load true 3 (.t 13))⟩, ⟨(some 15), none, [], (.call 56 [(.t 12), (.t 14)])⟩, ⟨(some 16), none, [], (.ixarr 3 3 (.t 5) (.c (.int .i64 1)))⟩, ⟨(some 17), none, [4], (.load true 3 (.t 16))⟩, ⟨(some 18), none, [], (.ixarr 3 3 (.t 6) (.c (.int .i64 1)))⟩, ⟨(some 19), none, [4], (.load true 3 (.t 18))⟩, ⟨(some 20), none, [], (.call 56 [(.t 17), (.t 19)])⟩, ⟨(some 21), none, [], (.ixarr 3 3 (.t 5) (.c (.int .i64 2)))⟩, ⟨(some 22), none, [4, 9], (.load true 3 (.t 21))⟩, ⟨(some 23), none, [], (.ixarr 3 3 (.t 6) (.c (.int .i64 2)))⟩, ⟨(some 24), none, [4, 9], (.load true 3 (.t 23))⟩, ⟨(some 25), none, [], (.call 56 [(.t 22), (.t 24)])⟩, ⟨(some 26), none, [], (.build [(.bool false), (.string ⟨⟨[]⟩⟩), (.string ⟨⟨[]⟩⟩), (.bool false), (.string ⟨⟨[]⟩⟩), (.string ⟨⟨[]⟩⟩), (.bool false), (.string ⟨⟨[]⟩⟩), (.string ⟨⟨[]⟩⟩)] [(0, 3, (.t 15)), (3, 3, (.t 20)), (6, 3, (.t 25))])⟩, ⟨none, none, [], (.store 9 (.t 4) (.t 26))⟩])
  .ret)))
theorem tr55 : trFun Tryz.prog 55 = some ⟨27, [.cell 4 true 9], c55⟩ := by kernel_rfl
set_option maxHeartbeats 2000000 in
theorem ok_r6Minus : SpecOK Tryz.prog 55 (flat spR6Minus) := by
  refine flat_run (env_cons ok_r4Coords (env_cons ok_r3Sub (env_nil _))) mixed tr55 ?_
  intro args v h N hG
  unfold spR6Minus at hG
  split at hG
  case h_2 => cases hG
  rename_i s1 l1 s2 l2 s3 l3 s4 l4 t1 m1 t2 m2 t3 m3 t4 m4
  split at hG
  case isFalse => cases hG
  rename_i hl
  obtain ⟨h1, h2, h3, h4, g1, g2, g3, g4⟩ := hl
  cases hG
  refine ⟨rfl, by simp, ?_⟩
  have a1 : l1.length ≤ 34359738368 := by omega
  have a2 : l2.length ≤ 34359738368 := by omega
  have a3 : l3.length ≤ 34359738368 := by omega
  have a4 : l4.length ≤ 34359738368 := by omega
  have b1 : m1.length ≤ 34359738368 := by omega
  have b2 : m2.length ≤ 34359738368 := by omega
  have b3 : m3.length ≤ 34359738368 := by omega
  have b4 : m4.length ≤ 34359738368 := by omega
  have w1 := pW_len (len_sv (s := s4) h4) (by omega)
  have w2 := pW_len (len_sv (s := t4) g4) (by omega)
  have r1 := divInt_RB (pW_ne _) (len_sv (s := s1) h1) w1
  have r2 := divInt_RB (pW_ne _) (len_sv (s := s2) h2) w1
  have r3 := divInt_RB (pW_ne _) (len_sv (s := s3) h3) w1
  have r4 := divInt_RB (pW_ne _) (len_sv (s := t1) g1) w2
  have r5 := divInt_RB (pW_ne _) (len_sv (s := t2) g2) w2
  have r6 := divInt_RB (pW_ne _) (len_sv (s := t3) g3) w2
  have u1 := r1.num (k := 8589934592) (by omega)
  have u2 := r2.num (k := 8589934592) (by omega)
  have u3 := r3.num (k := 8589934592) (by omega)
  have u4 := r4.num (k := 8589934592) (by omega)
  have u5 := r5.num (k := 8589934592) (by omega)
  have u6 := r6.num (k := 8589934592) (by omega)
  have v1 := r1.den (k := 8589934592) (by omega)
  have v2 := r2.den (k := 8589934592) (by omega)
  have v3 := r3.den (k := 8589934592) (by omega)
  have v4 := r4.den' (k := 8589934592) (by omega)
  have v5 := r5.den' (k := 8589934592) (by omega)
  have v6 := r6.den' (k := 8589934592) (by omega)
  simp only [c55, initT, List.zipIdx_cons, List.zipIdx_nil, List.map_cons, List.map_nil, Nat.reduceAdd]
  simp only [↓R0, R1, rdL, rdH, isCall, istep, ibin, vcells, fillI, setR, flat, okCell, isBase, List.set, List.drop, List.take, List.append, bnds, bhi, blo, srcOf, ↓reduceIte, Nat.reduceEqDiff, Nat.reduceAdd, Nat.reduceLeDiff, reduceCtorEq, Nat.reduceSub, Int.reduceEq, Int.reduceLT, Int.reduceLE, Int.reduceGT, Int.reduceGE, Int.reduceSub, Int.reduceAdd, Int.reduceMul, Int.reduceNe, Int.reduceNeg, Int.reduceToNat, Nat.reduceMul, spR4Coords, a1, a2, a3, a4, b1, b2, b3, b4, r3E, rE]
  simp only [↓R0, R1, rdL, rdH, isCall, istep, ibin, vcells, fillI, setR, flat, okCell, isBase, List.set, List.drop, List.take, List.append, bnds, bhi, blo, srcOf, ↓reduceIte, Nat.reduceEqDiff, Nat.reduceAdd, Nat.reduceLeDiff, reduceCtorEq, Nat.reduceSub, Int.reduceEq, Int.reduceLT, Int.reduceLE, Int.reduceGT, Int.reduceGE, Int.reduceSub, Int.reduceAdd, Int.reduceMul, Int.reduceNe, Int.reduceNeg, Int.reduceToNat, Nat.reduceMul, spR3Sub, u1, u2, u3, u4, u5, u6, v1, v2, v3, v4, v5, v6, rv_can, r3E, Fin, isEnd, resL, res1, iE, rE]
  exact ⟨_, rfl, rfl, fun k hk => by simp only [ne_nb hk, if_false]⟩
end Go.Eng
end
section
set_option linter.unusedVariables false
set_option linter.unusedSimpArgs false
set_option linter.unusedSectionVars false
set_option maxRecDepth 20000
namespace Go.Eng
open Go Go.Proofs Go.IntWalk
def spR6Cross : List Value → Option Value
  | [.agg ⟨[.bool s1, .string ⟨⟨l1⟩⟩, .bool s2, .string ⟨⟨l2⟩⟩, .bool s3, .string ⟨⟨l3⟩⟩, .bool s4, .string ⟨⟨l4⟩⟩]⟩, .agg ⟨[.bool t1, .string ⟨⟨m1⟩⟩, .bool t2, .string ⟨⟨m2⟩⟩, .bool t3, .string ⟨⟨m3⟩⟩, .bool t4, .string ⟨⟨m4⟩⟩]⟩, .agg ⟨[.bool u1, .string ⟨⟨o1⟩⟩, .bool u2, .string ⟨⟨o2⟩⟩, .bool u3, .string ⟨⟨o3⟩⟩, .bool u4, .string ⟨⟨o4⟩⟩]⟩] =>
    if l1.length ≤ 16777216 ∧ l2.length ≤ 16777216 ∧ l3.length ≤ 16777216 ∧ l4.length ≤ 16777216 ∧ m1.length ≤ 16777216 ∧ m2.length ≤ 16777216 ∧ m3.length ≤ 16777216 ∧ m4.length ≤ 16777216 ∧ o1.length ≤ 16777216 ∧ o2.length ≤ 16777216 ∧ o3.length ≤ 16777216 ∧ o4.length ≤ 16777216 then
      (if pW (sv t4 m4) * (sv s1 l1 * sv u1 o1 + sv s2 l2 * sv u2 o2 + sv s3 l3 * sv u3 o3 - sv s4 l4 * pW (sv u4 o4)) - pW (sv u4 o4) * (sv s1 l1 * sv t1 m1 + sv s2 l2 * sv t2 m2 + sv s3 l3 * sv t3 m3 - sv s4 l4 * pW (sv t4 m4)) = 0 then some (.tuple ⟨[.agg ⟨pZ⟩, .bool false]⟩) else some (.tuple ⟨[.agg ⟨pE (sv t1 m1 * (sv s1 l1 * sv u1 o1 + sv s2 l2 * sv u2 o2 + sv s3 l3 * sv u3 o3 - sv s4 l4 * pW (sv u4 o4)) - sv u1 o1 * (sv s1 l1 * sv t1 m1 + sv s2 l2 * sv t2 m2 + sv s3 l3 * sv t3 m3 - sv s4 l4 * pW (sv t4 m4))) (sv t2 m2 * (sv s1 l1 * sv u1 o1 + sv s2 l2 * sv u2 o2 + sv s3 l3 * sv u3 o3 - sv s4 l4 * pW (sv u4 o4)) - sv u2 o2 * (sv s1 l1 * sv t1 m1 + sv s2 l2 * sv t2 m2 + sv s3 l3 * sv t3 m3 - sv s4 l4 * pW (sv t4 m4))) (sv t3 m3 * (sv s1 l1 * sv u1 o1 + sv s2 l2 * sv u2 o2 + sv s3 l3 * sv u3 o3 - sv s4 l4 * pW (sv u4 o4)) - sv u3 o3 * (sv s1 l1 * sv t1 m1 + sv s2 l2 * sv t2 m2 + sv s3 l3 * sv t3 m3 - sv s4 l4 * pW (sv t4 m4))) (pW (sv t4 m4) * (sv s1 l1 * sv u1 o1 + sv s2 l2 * sv u2 o2 + sv s3 l3 * sv u3 o3 - sv s4 l4 * pW (sv u4 o4)) - pW (sv u4 o4) * (sv s1 l1 * sv t1 m1 + sv s2 l2 * sv t2 m2 + sv s3 l3 * sv t3 m3 - sv s4 l4 * pW (sv t4 m4)))⟩, .bool true]⟩)) else none
  | _ => none
def c16 : ICode :=
  (.seq (.reg [⟨(some 3), none, (.box 25 8 (.t 0))⟩, ⟨(some 4), none, (.box 30 8 (.t 1))⟩, ⟨(some 5), none, (.box 30 8 (.t 2))⟩, ⟨(some 6), none, (.alloc 30 8 [(.bool false), (.string ⟨⟨[]⟩⟩), (.bool false), (.string ⟨⟨[]⟩⟩), (.bool false), (.string ⟨⟨[]⟩⟩), (.bool false), (.string ⟨⟨[]⟩⟩)])⟩, ⟨(some 7), none, (.mv (.c (.bool false)))⟩])
  (.seq (.reg [⟨(some 15), none, (.load true 8 (.t 3))⟩, ⟨(some 16), none, (.call 38 [(.t 15)])⟩, ⟨(some 14), none, (.mv (.t 16))⟩, ⟨(some 17), none, (.ext (.t 14) 0)⟩, ⟨(some 18), none, (.ext (.t 14) 1)⟩, ⟨(some 8), none, (.alloc 67 9 [(.bool false), (.string ⟨⟨[]⟩⟩), (.string ⟨⟨[]⟩⟩), (.bool false), (.string ⟨⟨[]⟩⟩), (.string ⟨⟨[]⟩⟩), (.bool false), (.string ⟨⟨[]⟩⟩), (.string ⟨⟨[]⟩⟩)])⟩, ⟨(some 9), none, (.alloc 47 3 [(.bool false), (.string ⟨⟨[]⟩⟩), (.string ⟨⟨[]⟩⟩)])⟩, ⟨none, none, (.store 9 (.t 8) (.t 17))⟩, ⟨none, none, (.store 3 (.t 9) (.t 18))⟩])
  (.seq (.reg [⟨(some 19), none, (.load true 8 (.t 5))⟩, ⟨(some 20), none, (.load true 8 (.t 4))⟩, ⟨(some 21), none, (.call 55 [(.t 19), (.t 20)])⟩, ⟨(some 10), none, (.alloc 67 9 [(.bool false), (.string ⟨⟨[]⟩⟩), (.string ⟨⟨[]⟩⟩), (.bool false), (.string ⟨⟨[]⟩⟩), (.string ⟨⟨[]⟩⟩), (.bool false), (.string ⟨⟨[]⟩⟩), (.string ⟨⟨[]⟩⟩)])⟩, ⟨none, none, (.store 9 (.t 10) (.t 21))⟩])
  (.seq (.reg [⟨(some 22), none, (.load true 9 (.t 8))⟩, ⟨(some 23), none, (.load true 9 (.t 10))⟩, ⟨(some 24), none, (.call 39 [(.t 22), (.t 23)])⟩, ⟨(some 11), none, (.alloc 47 3 [(.bool false), (.string ⟨⟨[]⟩⟩), (.string ⟨⟨[]⟩⟩)])⟩, ⟨none, none, (.store 3 (.t 11) (.t 24))⟩])
  (.seq (.seq (.reg [⟨(some 25), none, (.load true 3 (.t 11))⟩, ⟨(some 26), none, (.call 41 [(.t 25)])⟩, ⟨(some 27), none, (.bin .eql (.t 26) (.c (.int .i64 0)))⟩])
  (.cond (.t 27)
  (.seq (.reg [⟨(some 28), none, (.build [(.bool false), (.string ⟨⟨[]⟩⟩), (.bool false), (.string ⟨⟨[]⟩⟩), (.bool false), (.string ⟨⟨[]⟩⟩), (.bool false), (.string ⟨⟨[]⟩⟩)] [])⟩, ⟨none, none, (.store 8 (.t 6) (.t 28))⟩, ⟨(some 7), none, (.mv (.c (.bool false)))⟩])
  .ret)
  .skip))
  (.seq (.dreg [⟨(some 30), none, [], (.load true 3 (.t 9))⟩, ⟨(some 31), none, [], (.load true 9 (.t 8))⟩, ⟨(some 32), none, [], (.load true 8 (.t 4))⟩, ⟨(some 33), none, [], (.call 57 [(.t 32)])⟩, ⟨(some 34), none, [], (.call 39 [(.t 31), (.t 33)])⟩, ⟨(some 35), none, [], (.call 56 [(.t 30), (.t 34)])⟩, ⟨(some 36), none, [3, 4, 5], (.load true 3 (.t 11))⟩, ⟨(some 37), none, [], (.call 44 [(.t 35), (.t 36)])⟩, ⟨(some 29), none, [], (.mv (.t 37))⟩, ⟨(some 38), none, [], (.ext (.t 29) 0)⟩, ⟨(some 39), none, [], (.ext (.t 29) 1)⟩, ⟨(some 12), none, [], (.alloc 47 3 [(.bool false), (.string ⟨⟨[]⟩⟩), (.string ⟨⟨[]⟩⟩)])⟩, ⟨none, none, [], (.store 3 (.t 12) (.t 38))⟩, ⟨(some 13), none, [], (.mv (.t 39))⟩])
  (.seq (.dreg [⟨(some 40), none, [], (.load true 8 (.t 4))⟩, ⟨(some 41), none, [], (.call 57 [(.t 40)])⟩, ⟨(some 42), none, [1], (.load true 9 (.t 10))⟩, ⟨(some 43), none, [1], (.load true 3 (.t 12))⟩, ⟨(some 44), none, [], (.call 43 [(.t 42), (.t 43)])⟩, ⟨(some 45), none, [], (.call 42 [(.t 41), (.t 44)])⟩, ⟨(some 46), none, [], (.call 45 [(.t 45)])⟩, ⟨none, none, [], (.store 8 (.t 6) (.t 46))⟩, ⟨(some 7), none, [], (.mv (.c (.bool true)))⟩])
  .ret)))))))
theorem tr16 : trFun Tryz.prog 16 = some ⟨47, [.cell 6 true 8, .t 7], c16⟩ := by kernel_rfl
set_option maxHeartbeats 8000000 in
theorem ok_r6Cross : SpecOK Tryz.prog 16 (flat spR6Cross) := by
  refine flat_run (env_cons ok_r6Normal (env_cons ok_r6Minus (env_cons ok_r6Dot (env_cons ok_r3Sign (env_cons ok_r4Coords (env_cons ok_r3Sub (env_cons ok_r3Div (env_cons ok_r6Scale (env_cons ok_r6Plus (env_cons ok_r4Make (env_nil _))))))))))) mixed tr16 ?_
  intro args v h N hG
  unfold spR6Cross at hG
  split at hG
  case h_2 => cases hG
  rename_i s1 l1 s2 l2 s3 l3 s4 l4 t1 m1 t2 m2 t3 m3 t4 m4 u1 o1 u2 o2 u3 o3 u4 o4
  split at hG
  case isFalse => cases hG
  rename_i hl
  obtain ⟨hl1, hl2, hl3, hl4, hm1, hm2, hm3, hm4, ho1, ho2, ho3, ho4⟩ := hl
  have kl1 : l1.length ≤ 68719476736 := by omega
  have kl2 : l2.length ≤ 68719476736 := by omega
  have kl3 : l3.length ≤ 68719476736 := by omega
  have kl4 : l4.length ≤ 68719476736 := by omega
  have km1 : m1.length ≤ 34359738368 := by omega
  have jm1 : m1.length ≤ 4294967296 := by omega
  have km2 : m2.length ≤ 34359738368 := by omega
  have jm2 : m2.length ≤ 4294967296 := by omega
  have km3 : m3.length ≤ 34359738368 := by omega
  have jm3 : m3.length ≤ 4294967296 := by omega
  have km4 : m4.length ≤ 34359738368 := by omega
  have jm4 : m4.length ≤ 4294967296 := by omega
  have ko1 : o1.length ≤ 34359738368 := by omega
  have jo1 : o1.length ≤ 4294967296 := by omega
  have ko2 : o2.length ≤ 34359738368 := by omega
  have jo2 : o2.length ≤ 4294967296 := by omega
  have ko3 : o3.length ≤ 34359738368 := by omega
  have jo3 : o3.length ≤ 4294967296 := by omega
  have ko4 : o4.length ≤ 34359738368 := by omega
  have jo4 : o4.length ≤ 4294967296 := by omega
  have n1 := len_sv (s := s1) hl1
  obtain ⟨A1, eA1⟩ : ∃ z, sv s1 l1 = z := ⟨_, rfl⟩
  rw [eA1] at n1 hG
  have pn1 := lle (k := 1073741824) n1 (by omega)
  have rn1 := lle (k := 8589934592) n1 (by omega)
  have n2 := len_sv (s := s2) hl2
  obtain ⟨A2, eA2⟩ : ∃ z, sv s2 l2 = z := ⟨_, rfl⟩
  rw [eA2] at n2 hG
  have pn2 := lle (k := 1073741824) n2 (by omega)
  have rn2 := lle (k := 8589934592) n2 (by omega)
  have n3 := len_sv (s := s3) hl3
  obtain ⟨A3, eA3⟩ : ∃ z, sv s3 l3 = z := ⟨_, rfl⟩
  rw [eA3] at n3 hG
  have pn3 := lle (k := 1073741824) n3 (by omega)
  have rn3 := lle (k := 8589934592) n3 (by omega)
  have n4 := len_sv (s := s4) hl4
  obtain ⟨A4, eA4⟩ : ∃ z, sv s4 l4 = z := ⟨_, rfl⟩
  rw [eA4] at n4 hG
  have pn4 := lle (k := 1073741824) n4 (by omega)
  have rn4 := lle (k := 8589934592) n4 (by omega)
  have hw1 := pW_ne (sv t4 m4)
  have hw2 := pW_ne (sv u4 o4)
  have nw1 := pW_len (len_sv (s := t4) hm4) (by omega)
  have nw2 := pW_len (len_sv (s := u4) ho4) (by omega)
  obtain ⟨w1, ew1⟩ : ∃ z, pW (sv t4 m4) = z := ⟨_, rfl⟩
  obtain ⟨w2, ew2⟩ : ∃ z, pW (sv u4 o4) = z := ⟨_, rfl⟩
  rw [ew1] at hw1 nw1 hG
  rw [ew2] at hw2 nw2 hG
  obtain ⟨x1, ex1⟩ : ∃ z, sv t1 m1 = z := ⟨_, rfl⟩
  have cx1 := len_sv (s := t1) hm1
  rw [ex1] at cx1 hG
  have Rq1 := divInt_RB hw1 cx1 nw1
  obtain ⟨x2, ex2⟩ : ∃ z, sv t2 m2 = z := ⟨_, rfl⟩
  have cx2 := len_sv (s := t2) hm2
  rw [ex2] at cx2 hG
  have Rq2 := divInt_RB hw1 cx2 nw1
  obtain ⟨x3, ex3⟩ : ∃ z, sv t3 m3 = z := ⟨_, rfl⟩
  have cx3 := len_sv (s := t3) hm3
  rw [ex3] at cx3 hG
  have Rq3 := divInt_RB hw1 cx3 nw1
  obtain ⟨y1, ey1⟩ : ∃ z, sv u1 o1 = z := ⟨_, rfl⟩
  have cy1 := len_sv (s := u1) ho1
  rw [ey1] at cy1 hG
  have Rq4 := divInt_RB hw2 cy1 nw2
  obtain ⟨y2, ey2⟩ : ∃ z, sv u2 o2 = z := ⟨_, rfl⟩
  have cy2 := len_sv (s := u2) ho2
  rw [ey2] at cy2 hG
  have Rq5 := divInt_RB hw2 cy2 nw2
  obtain ⟨y3, ey3⟩ : ∃ z, sv u3 o3 = z := ⟨_, rfl⟩
  have cy3 := len_sv (s := u3) ho3
  rw [ey3] at cy3 hG
  have Rq6 := divInt_RB hw2 cy3 nw2
  obtain ⟨S, eS⟩ : ∃ z, (A1 * x1 + A2 * x2 + A3 * x3 - A4 * w1) = z := ⟨_, rfl⟩
  obtain ⟨T, eT⟩ : ∃ z, (A1 * y1 + A2 * y2 + A3 * y3 - A4 * w2) = z := ⟨_, rfl⟩
  have lby := line_by (A := A1) (B := A2) (C := A3) (x1 := x1) (y1 := x2) (z1 := x3) (x2 := y1) (y2 := y2) (z2 := y3) (D := A4) hw1 hw2
  rw [eS] at hG lby
  rw [eT] at hG lby
  obtain ⟨n, en⟩ : ∃ z, w1 * T - w2 * S = z := ⟨_, rfl⟩
  rw [en] at hG lby
  have lz := line_zero (N := n) hw1 hw2
  have lat : ∀ p1 p2, n ≠ 0 → _ := fun p1 p2 h0 => line_at (p1 := p1) (p2 := p2) hw1 hw2 eS.symm eT.symm en.symm h0
  obtain ⟨Q1, eQ1⟩ : ∃ q, Rat.divInt x1 w1 = q := ⟨_, rfl⟩
  rw [eQ1] at Rq1
  obtain ⟨Q2, eQ2⟩ : ∃ q, Rat.divInt x2 w1 = q := ⟨_, rfl⟩
  rw [eQ2] at Rq2
  obtain ⟨Q3, eQ3⟩ : ∃ q, Rat.divInt x3 w1 = q := ⟨_, rfl⟩
  rw [eQ3] at Rq3
  obtain ⟨Q4, eQ4⟩ : ∃ q, Rat.divInt y1 w2 = q := ⟨_, rfl⟩
  rw [eQ4] at Rq4
  obtain ⟨Q5, eQ5⟩ : ∃ q, Rat.divInt y2 w2 = q := ⟨_, rfl⟩
  rw [eQ5] at Rq5
  obtain ⟨Q6, eQ6⟩ : ∃ q, Rat.divInt y3 w2 = q := ⟨_, rfl⟩
  rw [eQ6] at Rq6
  rw [eQ1, eQ2, eQ3, eQ4, eQ5, eQ6] at lby
  have lat1 := lat x1 y1
  have lat2 := lat x2 y2
  have lat3 := lat x3 y3
  rw [eQ1, eQ2, eQ3, eQ4] at lat1
  rw [eQ1, eQ2, eQ3, eQ5] at lat2
  rw [eQ1, eQ2, eQ3, eQ6] at lat3
  clear lat
  have q1an := Rq1.num (k := 8589934592) (by omega)
  have q1ad := Rq1.den (k := 8589934592) (by omega)
  have q1bn := Rq1.num (k := 1073741824) (by omega)
  have q1bd := Rq1.den (k := 1073741824) (by omega)
  have Rw1 := RB.sub (k := 33554433) Rq4 Rq1 (by omega)
  obtain ⟨V1, eV1⟩ : ∃ q, Q4 - Q1 = q := ⟨_, rfl⟩
  rw [eV1] at Rw1 lby lat1
  have v1an := Rw1.num (k := 8589934592) (by omega)
  have v1ad := Rw1.den (k := 8589934592) (by omega)
  have v1bn := Rw1.num (k := 1073741824) (by omega)
  have v1bd := Rw1.den (k := 1073741824) (by omega)
  have Ri1 := RB.int n1 (by omega)
  have q2an := Rq2.num (k := 8589934592) (by omega)
  have q2ad := Rq2.den (k := 8589934592) (by omega)
  have q2bn := Rq2.num (k := 1073741824) (by omega)
  have q2bd := Rq2.den (k := 1073741824) (by omega)
  have Rw2 := RB.sub (k := 33554433) Rq5 Rq2 (by omega)
  obtain ⟨V2, eV2⟩ : ∃ q, Q5 - Q2 = q := ⟨_, rfl⟩
  rw [eV2] at Rw2 lby lat2
  have v2an := Rw2.num (k := 8589934592) (by omega)
  have v2ad := Rw2.den (k := 8589934592) (by omega)
  have v2bn := Rw2.num (k := 1073741824) (by omega)
  have v2bd := Rw2.den (k := 1073741824) (by omega)
  have Ri2 := RB.int n2 (by omega)
  have q3an := Rq3.num (k := 8589934592) (by omega)
  have q3ad := Rq3.den (k := 8589934592) (by omega)
  have q3bn := Rq3.num (k := 1073741824) (by omega)
  have q3bd := Rq3.den (k := 1073741824) (by omega)
  have Rw3 := RB.sub (k := 33554433) Rq6 Rq3 (by omega)
  obtain ⟨V3, eV3⟩ : ∃ q, Q6 - Q3 = q := ⟨_, rfl⟩
  rw [eV3] at Rw3 lby lat3
  have v3an := Rw3.num (k := 8589934592) (by omega)
  have v3ad := Rw3.den (k := 8589934592) (by omega)
  have v3bn := Rw3.num (k := 1073741824) (by omega)
  have v3bd := Rw3.den (k := 1073741824) (by omega)
  have Ri3 := RB.int n3 (by omega)
  have Ri4 := RB.int n4 (by omega)
  have Rby := RB.add (k := 150994949) (RB.add (k := 100663299) (RB.mul (k := 50331649) Ri1 Rw1 (by omega)) (RB.mul (k := 50331649) Ri2 Rw2 (by omega)) (by omega)) (RB.mul (k := 50331649) Ri3 Rw3 (by omega)) (by omega)
  obtain ⟨by_, eby⟩ : ∃ q, (A1 : Rat) * V1 + (A2 : Rat) * V2 + (A3 : Rat) * V3 = q := ⟨_, rfl⟩
  rw [eby] at lby Rby
  have lz2 : by_ = 0 ↔ n = 0 := by rw [lby]; exact lz
  rw [← lby] at lat1 lat2 lat3
  have byan := Rby.num (k := 34359738368) (by omega)
  have byad := Rby.den (k := 34359738368) (by omega)
  have bybn := Rby.num (k := 8589934592) (by omega)
  have bybd := Rby.den (k := 8589934592) (by omega)
  have eSg : (by_.num.sign = 0) = (n = 0) := propext (Int.sign_eq_zero_iff_zero.trans (Rat.num_eq_zero.trans lz2))
  have Rd := RB.add (k := 100663298) (RB.add (k := 67108865) (RB.mul (k := 33554432) Ri1 Rq1 (by omega)) (RB.mul (k := 33554432) Ri2 Rq2 (by omega)) (by omega)) (RB.mul (k := 33554432) Ri3 Rq3 (by omega)) (by omega)
  obtain ⟨dt, edt⟩ : ∃ q, (A1 : Rat) * Q1 + (A2 : Rat) * Q2 + (A3 : Rat) * Q3 = q := ⟨_, rfl⟩
  rw [edt] at Rd lat1 lat2 lat3
  have dan := Rd.num (k := 8589934592) (by omega)
  have dad := Rd.den (k := 8589934592) (by omega)
  have dae := Rd.den' (k := 8589934592) (by omega)
  have Ru := RB.sub (k := 117440515) Ri4 Rd (by omega)
  obtain ⟨U, eU⟩ : ∃ q, (A4 : Rat) - dt = q := ⟨_, rfl⟩
  rw [eU] at Ru lat1 lat2 lat3
  have uan := Ru.num (k := 8589934592) (by omega)
  have uad := Ru.den (k := 8589934592) (by omega)
  have Rt := RB.div (k := 268435464) Ru Rby (by omega) (by omega)
  obtain ⟨tt, ett⟩ : ∃ q, U / by_ = q := ⟨_, rfl⟩
  rw [ett] at Rt lat1 lat2 lat3
  have tan := Rt.num (k := 8589934592) (by omega)
  have tad := Rt.den (k := 8589934592) (by omega)
  have Rp1 := RB.mul (k := 301989897) Rw1 Rt (by omega)
  obtain ⟨P1, eP1⟩ : ∃ q, V1 * tt = q := ⟨_, rfl⟩
  rw [eP1] at Rp1 lat1
  have p1an := Rp1.num (k := 8589934592) (by omega)
  have p1ad := Rp1.den (k := 8589934592) (by omega)
  have Rr1 := RB.add (k := 318767114) Rq1 Rp1 (by omega)
  obtain ⟨RR1, eR1⟩ : ∃ q, Q1 + P1 = q := ⟨_, rfl⟩
  rw [eR1] at Rr1 lat1
  have r1an := Rr1.num (k := 2147483648) (by omega)
  have r1ad := Rr1.den (k := 2147483648) (by omega)
  have Rp2 := RB.mul (k := 301989897) Rw2 Rt (by omega)
  obtain ⟨P2, eP2⟩ : ∃ q, V2 * tt = q := ⟨_, rfl⟩
  rw [eP2] at Rp2 lat2
  have p2an := Rp2.num (k := 8589934592) (by omega)
  have p2ad := Rp2.den (k := 8589934592) (by omega)
  have Rr2 := RB.add (k := 318767114) Rq2 Rp2 (by omega)
  obtain ⟨RR2, eR2⟩ : ∃ q, Q2 + P2 = q := ⟨_, rfl⟩
  rw [eR2] at Rr2 lat2
  have r2an := Rr2.num (k := 2147483648) (by omega)
  have r2ad := Rr2.den (k := 2147483648) (by omega)
  have Rp3 := RB.mul (k := 301989897) Rw3 Rt (by omega)
  obtain ⟨P3, eP3⟩ : ∃ q, V3 * tt = q := ⟨_, rfl⟩
  rw [eP3] at Rp3 lat3
  have p3an := Rp3.num (k := 8589934592) (by omega)
  have p3ad := Rp3.den (k := 8589934592) (by omega)
  have Rr3 := RB.add (k := 318767114) Rq3 Rp3 (by omega)
  obtain ⟨RR3, eR3⟩ : ∃ q, Q3 + P3 = q := ⟨_, rfl⟩
  rw [eR3] at Rr3 lat3
  have r3an := Rr3.num (k := 2147483648) (by omega)
  have r3ad := Rr3.den (k := 2147483648) (by omega)
  have one9 : 1 ≤ 8589934592 := by omega
  split at hG
  · rename_i hw
    cases hG
    refine ⟨rfl, by simp, ?_⟩
    have hz : by_ = 0 := lz2.2 hw
    simp only [c16, initT, List.zipIdx_cons, List.zipIdx_nil, List.map_cons, List.map_nil, Nat.reduceAdd]
    simp only [↓R0, R1, rdL, rdH, isCall, istep, ibin, vcells, fillI, setR, flat, okCell, isBase, List.set, List.drop, List.take, List.append, bnds, bhi, blo, srcOf, ↓reduceIte, Nat.reduceEqDiff, Nat.reduceAdd, Nat.reduceLeDiff, reduceCtorEq, Nat.reduceSub, Int.reduceEq, Int.reduceLT, Int.reduceLE, Int.reduceGT, Int.reduceGE, Int.reduceSub, Int.reduceAdd, Int.reduceMul, Int.reduceNe, Int.reduceNeg, Int.reduceToNat, Nat.reduceMul, kl1, kl2, kl3, kl4, km1, jm1, km2, jm2, km3, jm3, km4, jm4, ko1, jo1, ko2, jo2, ko3, jo3, ko4, jo4, eA1, pn1, rn1, eA2, pn2, rn2, eA3, pn3, rn3, eA4, pn4, rn4, ew1, ew2, ex1, ex2, ex3, ey1, ey2, ey3, eQ1, eQ2, eQ3, eQ4, eQ5, eQ6, q1an, q1ad, q1bn, q1bd, eV1, v1an, v1ad, v1bn, v1bd, q2an, q2ad, q2bn, q2bd, eV2, v2an, v2ad, v2bn, v2bd, q3an, q3ad, q3bn, q3bd, eV3, v3an, v3ad, v3bn, v3bd, eby, byan, byad, bybn, bybd, eSg, edt, dan, dad, dae, eU, uan, uad, ett, tan, tad, eP1, p1an, p1ad, eR1, r1an, r1ad, eP2, p2an, p2ad, eR2, r2an, r2ad, eP3, p3an, p3ad, eR3, r3an, r3ad, rv_int, rv_can, rE_int, Rat.num_intCast, Rat.den_intCast, r3E, Nat.zero_le, Nat.zero_add, spR6Normal, spR6Minus, spR6Dot, spR3Sign, spR4Coords, spR3Sub, spR3Div, spR6Scale, spR6Plus, spR4Make, hw, pZ, Fin, isEnd, resL, res1, iE, rE]
    exact ⟨_, rfl, rfl, fun k hk => by simp only [ne_nb hk, if_false]⟩
  rename_i hw
  cases hG
  refine ⟨rfl, by simp, ?_⟩
  have hb : by_.num ≠ 0 := fun e => hw (lz2.1 (Rat.num_eq_zero.1 e))
  have hb' : ¬ (by_.num.natAbs = 0) := by omega
  have hmk := mkE_pE (x := x1 * T - y1 * S) (y := x2 * T - y2 * S) (z := x3 * T - y3 * S) hw
  rw [← lat1 hw, ← lat2 hw, ← lat3 hw] at hmk
  simp only [c16, initT, List.zipIdx_cons, List.zipIdx_nil, List.map_cons, List.map_nil, Nat.reduceAdd]
  simp only [↓R0, R1, rdL, rdH, isCall, istep, ibin, vcells, fillI, setR, flat, okCell, isBase, List.set, List.drop, List.take, List.append, bnds, bhi, blo, srcOf, ↓reduceIte, Nat.reduceEqDiff, Nat.reduceAdd, Nat.reduceLeDiff, reduceCtorEq, Nat.reduceSub, Int.reduceEq, Int.reduceLT, Int.reduceLE, Int.reduceGT, Int.reduceGE, Int.reduceSub, Int.reduceAdd, Int.reduceMul, Int.reduceNe, Int.reduceNeg, Int.reduceToNat, Nat.reduceMul, kl1, kl2, kl3, kl4, km1, jm1, km2, jm2, km3, jm3, km4, jm4, ko1, jo1, ko2, jo2, ko3, jo3, ko4, jo4, eA1, pn1, rn1, eA2, pn2, rn2, eA3, pn3, rn3, eA4, pn4, rn4, ew1, ew2, ex1, ex2, ex3, ey1, ey2, ey3, eQ1, eQ2, eQ3, eQ4, eQ5, eQ6, q1an, q1ad, q1bn, q1bd, eV1, v1an, v1ad, v1bn, v1bd, q2an, q2ad, q2bn, q2bd, eV2, v2an, v2ad, v2bn, v2bd, q3an, q3ad, q3bn, q3bd, eV3, v3an, v3ad, v3bn, v3bd, eby, byan, byad, bybn, bybd, eSg, edt, dan, dad, dae, eU, uan, uad, ett, tan, tad, eP1, p1an, p1ad, eR1, r1an, r1ad, eP2, p2an, p2ad, eR2, r2an, r2ad, eP3, p3an, p3ad, eR3, r3an, r3ad, one9, rv_int, rv_can, rE_int, Rat.num_intCast, Rat.den_intCast, r3E, Nat.zero_le, Nat.zero_add, spR6Normal, spR6Minus, spR6Dot, spR3Sign, spR4Coords, spR3Sub, spR3Div, spR6Scale, spR6Plus, spR4Make, hw, hb', nl_bl, rE]
  simp only [↓R0, R1, rdL, rdH, isCall, istep, ibin, vcells, fillI, setR, flat, okCell, isBase, List.set, List.drop, List.take, List.append, bnds, bhi, blo, srcOf, ↓reduceIte, Nat.reduceEqDiff, Nat.reduceAdd, Nat.reduceLeDiff, reduceCtorEq, Nat.reduceSub, Int.reduceEq, Int.reduceLT, Int.reduceLE, Int.reduceGT, Int.reduceGE, Int.reduceSub, Int.reduceAdd, Int.reduceMul, Int.reduceNe, Int.reduceNeg, Int.reduceToNat, Nat.reduceMul, hmk, pE, Fin, isEnd, resL, res1, iE, rE]
  exact ⟨_, rfl, rfl, fun k hk => by simp only [ne_nb hk, if_false]⟩
end Go.Eng
end
section
set_option linter.unusedVariables false
set_option linter.unusedSimpArgs false
set_option linter.unusedSectionVars false
set_option maxRecDepth 20000
namespace Go.Eng
open Go Go.Proofs Go.IntWalk
def spLLine : List Value → Option Value
  | [.agg ⟨[.bool s1, .string ⟨⟨l1⟩⟩, .bool s2, .string ⟨⟨l2⟩⟩, .bool s3, .string ⟨⟨l3⟩⟩, .bool s4, .string ⟨⟨l4⟩⟩]⟩, .agg ⟨[.bool t1, .string ⟨⟨m1⟩⟩, .bool t2, .string ⟨⟨m2⟩⟩, .bool t3, .string ⟨⟨m3⟩⟩, .bool t4, .string ⟨⟨m4⟩⟩]⟩, .agg ⟨[.bool u1, .string ⟨⟨o1⟩⟩, .bool u2, .string ⟨⟨o2⟩⟩, .bool u3, .string ⟨⟨o3⟩⟩, .bool u4, .string ⟨⟨o4⟩⟩]⟩] => some (.bool true)
  | _ => none
def c4 : ICode :=
  (.seq (.reg [⟨(some 3), none, (.box 25 8 (.t 0))⟩, ⟨(some 4), none, (.box 30 8 (.t 1))⟩, ⟨(some 5), none, (.box 30 8 (.t 2))⟩, ⟨(some 6), none, (.mv (.c (.bool false)))⟩])
  (.seq (.seq (.reg [⟨(some 11), none, (.load true 8 (.t 3))⟩, ⟨(some 12), none, (.call 8 [(.t 11)])⟩, ⟨(some 13), none, (.bin .gtr (.t 12) (.c (.int .i64 0)))⟩, ⟨(some 14), none, (.mv (.t 13))⟩, ⟨(some 15), (some (14, false)), (.load true 8 (.t 4))⟩, ⟨(some 16), (some (14, false)), (.load true 8 (.t 5))⟩, ⟨(some 17), (some (14, false)), (.bslice 30 8 2 [(.bool false), (.string ⟨⟨[]⟩⟩), (.bool false), (.string ⟨⟨[]⟩⟩), (.bool false), (.string ⟨⟨[]⟩⟩), (.bool false), (.string ⟨⟨[]⟩⟩), (.bool false), (.string ⟨⟨[]⟩⟩), (.bool false), (.string ⟨⟨[]⟩⟩), (.bool false), (.string ⟨⟨[]⟩⟩), (.bool false), (.string ⟨⟨[]⟩⟩)] [(0, 8, (.t 15)), (8, 8, (.t 16))])⟩, ⟨(some 18), (some (14, false)), (.call 13 [(.t 17)])⟩, ⟨(some 19), (some (14, false)), (.bin .gtr (.t 18) (.c (.int .i64 0)))⟩, ⟨(some 20), none, (.pick (.t 14) (.c (.bool true)) (.t 19))⟩])
  (.cond (.t 20)
  (.seq (.reg [⟨(some 21), none, (.call 9 [])⟩, ⟨(some 6), none, (.mv (.t 21))⟩])
  .ret)
  .skip))
  (.seq (.dreg [⟨(some 22), none, [], (.load true 8 (.t 3))⟩, ⟨(some 23), none, [], (.call 10 [(.t 22)])⟩, ⟨(some 24), none, [1], (.load true 8 (.t 4))⟩, ⟨(some 25), none, [], (.call 14 [(.t 24)])⟩, ⟨(some 26), none, [1, 3], (.load true 8 (.t 5))⟩, ⟨(some 27), none, [], (.call 14 [(.t 26)])⟩, ⟨none, none, [], (.store 8 (.t 3) (.t 23))⟩, ⟨none, none, [], (.store 8 (.t 4) (.t 25))⟩, ⟨none, none, [], (.store 8 (.t 5) (.t 27))⟩])
  (.seq (.reg [⟨(some 29), none, (.load true 8 (.t 3))⟩, ⟨(some 30), none, (.load true 8 (.t 4))⟩, ⟨(some 31), none, (.load true 8 (.t 5))⟩, ⟨(some 32), none, (.call 15 [(.t 29), (.t 30), (.t 31)])⟩, ⟨(some 28), none, (.mv (.t 32))⟩, ⟨(some 33), none, (.ext (.t 28) 0)⟩, ⟨(some 34), none, (.ext (.t 28) 1)⟩, ⟨(some 7), none, (.alloc 30 8 [(.bool false), (.string ⟨⟨[]⟩⟩), (.bool false), (.string ⟨⟨[]⟩⟩), (.bool false), (.string ⟨⟨[]⟩⟩), (.bool false), (.string ⟨⟨[]⟩⟩)])⟩, ⟨none, none, (.store 8 (.t 7) (.t 33))⟩, ⟨(some 8), none, (.mv (.t 34))⟩])
  (.seq (.reg [⟨(some 36), none, (.load true 8 (.t 3))⟩, ⟨(some 37), none, (.load true 8 (.t 4))⟩, ⟨(some 38), none, (.load true 8 (.t 5))⟩, ⟨(some 39), none, (.call 16 [(.t 36), (.t 37), (.t 38)])⟩, ⟨(some 35), none, (.mv (.t 39))⟩, ⟨(some 40), none, (.ext (.t 35) 0)⟩, ⟨(some 41), none, (.ext (.t 35) 1)⟩, ⟨(some 9), none, (.alloc 30 8 [(.bool false), (.string ⟨⟨[]⟩⟩), (.bool false), (.string ⟨⟨[]⟩⟩), (.bool false), (.string ⟨⟨[]⟩⟩), (.bool false), (.string ⟨⟨[]⟩⟩)])⟩, ⟨none, none, (.store 8 (.t 9) (.t 40))⟩, ⟨(some 10), none, (.mv (.t 41))⟩])
  (.seq (.reg [⟨(some 42), none, (.call 9 [])⟩, ⟨(some 43), none, (.mv (.t 42))⟩, ⟨(some 44), (some (43, true)), (.load true 8 (.t 7))⟩, ⟨(some 45), (some (43, true)), (.load true 8 (.t 9))⟩, ⟨(some 46), (some (43, true)), (.eqa false [.b, .s, .b, .s, .b, .s, .b, .s] (.t 44) (.t 45))⟩, ⟨(some 47), none, (.pick (.t 43) (.t 46) (.c (.bool false)))⟩, ⟨(some 48), none, (.mv (.t 47))⟩, ⟨(some 49), (some (48, true)), (.mv (.t 8))⟩, ⟨(some 50), (some (48, true)), (.mv (.t 10))⟩, ⟨(some 51), (some (48, true)), (.eqb false (.t 49) (.t 50))⟩, ⟨(some 52), none, (.pick (.t 48) (.t 51) (.c (.bool false)))⟩, ⟨(some 6), none, (.mv (.t 52))⟩])
  .ret))))))
theorem tr4 : trFun Tryz.prog 4 = some ⟨53, [.t 6], c4⟩ := by kernel_rfl
theorem lq_len' {s : Bool} {l : List UInt8} {g : Int} {k : Nat} (h : l.length ≤ k) : (bl (sv s l / g).natAbs).length ≤ k :=
  Nat.le_trans (bl_length_mono (Int.natAbs_ediv_le_natAbs _ _)) (len_sv h)
theorem pW_pos {w : Int} (h : 0 < w) : pW w = w := pW_of (by omega)
set_option maxHeartbeats 8000000 in
theorem ok_lLine : SpecOK Tryz.prog 4 (flat spLLine) := by
  refine flat_run (env_cons ok_lWide (env_cons ok_lGreat (env_cons ok_lFixed (env_cons ok_lForm (env_cons ok_r4Norm (env_cons ok_xLine (env_cons ok_r6Cross (env_nil _)))))))) mixed tr4 ?_
  intro args v h N hG
  unfold spLLine at hG
  split at hG
  case h_2 => cases hG
  rename_i s1 l1 s2 l2 s3 l3 s4 l4 t1 m1 t2 m2 t3 m3 t4 m4 u1 o1 u2 o2 u3 o3 u4 o4
  cases hG
  refine ⟨rfl, by simp, ?_⟩
  simp only [c4, initT, List.zipIdx_cons, List.zipIdx_nil, List.map_cons, List.map_nil, Nat.reduceAdd]
  obtain ⟨Gp, eGp⟩ : ∃ g : Prop, g = ((l1.length ≤ 6 ∧ l2.length ≤ 6 ∧ l3.length ≤ 6 ∧ l4.length ≤ 6) ∧ ¬ (sv s1 l1 = 0 ∧ sv s2 l2 = 0 ∧ sv s3 l3 = 0)) := ⟨_, rfl⟩
  by_cases gp : Gp
  case neg =>
    have Wp : spLWide [.agg ⟨[.bool s1, .string ⟨⟨l1⟩⟩, .bool s2, .string ⟨⟨l2⟩⟩, .bool s3, .string ⟨⟨l3⟩⟩, .bool s4, .string ⟨⟨l4⟩⟩]⟩] = some (.int .i64 1) := by unfold spLWide; simp only; rw [if_neg (eGp ▸ gp)]
    simp only [↓R0, R1, rdL, rdH, isCall, istep, ibin, vcells, fillI, setR, flat, okCell, isBase, List.set, List.drop, List.take, List.append, bnds, bhi, blo, srcOf, ↓reduceIte, Nat.reduceEqDiff, Nat.reduceAdd, Nat.reduceLeDiff, reduceCtorEq, Nat.reduceSub, Int.reduceEq, Int.reduceLT, Int.reduceLE, Int.reduceGT, Int.reduceGE, Int.reduceSub, Int.reduceAdd, Int.reduceMul, Int.reduceNe, Int.reduceNeg, Int.reduceToNat, Nat.reduceMul, Wp, spLFixed, Fin, isEnd, resL, res1, iE, rE]
    exact ⟨_, rfl, rfl, fun k hk => by simp only [ne_nb hk, if_false]⟩
  have Wp : spLWide [.agg ⟨[.bool s1, .string ⟨⟨l1⟩⟩, .bool s2, .string ⟨⟨l2⟩⟩, .bool s3, .string ⟨⟨l3⟩⟩, .bool s4, .string ⟨⟨l4⟩⟩]⟩] = some (.int .i64 0) := by unfold spLWide; simp only; rw [if_pos (eGp ▸ gp)]
  obtain ⟨Gq, eGq⟩ : ∃ g : Prop, g = ((List.all [(t1, m1), (t2, m2), (t3, m3), (t4, m4), (u1, o1), (u2, o2), (u3, o3), (u4, o4)] fun z => decide (z.2.length ≤ 6)) = true) := ⟨_, rfl⟩
  by_cases gq : Gq
  case neg =>
    have gq' : ¬ ((List.all [(t1, m1), (t2, m2), (t3, m3), (t4, m4), (u1, o1), (u2, o2), (u3, o3), (u4, o4)] fun z => decide (z.2.length ≤ 6)) = true) := eGq ▸ gq
    have gl : ∀ h' b N', b = [.bool t1, .string ⟨⟨m1⟩⟩, .bool t2, .string ⟨⟨m2⟩⟩, .bool t3, .string ⟨⟨m3⟩⟩, .bool t4, .string ⟨⟨m4⟩⟩, .bool u1, .string ⟨⟨o1⟩⟩, .bool u2, .string ⟨⟨o2⟩⟩, .bool u3, .string ⟨⟨o3⟩⟩, .bool u4, .string ⟨⟨o4⟩⟩] → spLGreat [.slice (some ⟨N', 0, none⟩) 2 2] ((N', some ⟨30, 8, true, b⟩) :: h') = some (.int .i64 1) := by
      intro h' b N' e
      subst e
      unfold spLGreat
      simp only [hget, if_true, ints, Option.map_some, Nat.reduceMul, List.length_cons, List.length_nil, List.take_succ_cons, List.take_zero]
      rw [if_pos (by decide)]
      simp only [gq', Bool.false_eq_true, if_false]
    have gl' := fun h' N' => gl h' _ N' rfl
    simp only [↓R0, R1, rdL, rdH, isCall, istep, ibin, vcells, fillI, setR, flat, okCell, isBase, List.set, List.drop, List.take, List.append, bnds, bhi, blo, srcOf, ↓reduceIte, Nat.reduceEqDiff, Nat.reduceAdd, Nat.reduceLeDiff, reduceCtorEq, Nat.reduceSub, Int.reduceEq, Int.reduceLT, Int.reduceLE, Int.reduceGT, Int.reduceGE, Int.reduceSub, Int.reduceAdd, Int.reduceMul, Int.reduceNe, Int.reduceNeg, Int.reduceToNat, Nat.reduceMul, Wp, rdS, gl', spLFixed, Fin, isEnd, resL, res1, iE, rE]
    exact ⟨_, rfl, rfl, fun k hk => by simp only [ne_nb hk, if_false]⟩
  have gq' : (List.all [(t1, m1), (t2, m2), (t3, m3), (t4, m4), (u1, o1), (u2, o2), (u3, o3), (u4, o4)] fun z => decide (z.2.length ≤ 6)) = true := eGq ▸ gq
  have gl : ∀ h' b N', b = [.bool t1, .string ⟨⟨m1⟩⟩, .bool t2, .string ⟨⟨m2⟩⟩, .bool t3, .string ⟨⟨m3⟩⟩, .bool t4, .string ⟨⟨m4⟩⟩, .bool u1, .string ⟨⟨o1⟩⟩, .bool u2, .string ⟨⟨o2⟩⟩, .bool u3, .string ⟨⟨o3⟩⟩, .bool u4, .string ⟨⟨o4⟩⟩] → spLGreat [.slice (some ⟨N', 0, none⟩) 2 2] ((N', some ⟨30, 8, true, b⟩) :: h') = some (.int .i64 0) := by
    intro h' b N' e
    subst e
    unfold spLGreat
    simp only [hget, if_true, ints, Option.map_some, Nat.reduceMul, List.length_cons, List.length_nil, List.take_succ_cons, List.take_zero]
    rw [if_pos (by decide)]
    simp only [gq', if_true]
  have gl' := fun h' N' => gl h' _ N' rfl
  clear gl
  rw [eGp] at gp
  obtain ⟨⟨c1, c2, c3, c4⟩, zp⟩ := gp
  simp only [List.all_cons, List.all_nil, Bool.and_true, Bool.and_eq_true, decide_eq_true_eq] at gq'
  obtain ⟨ca1, ca2, ca3, ca4, cb1, cb2, cb3, cb4⟩ := gq'
  obtain ⟨gg, egg⟩ : ∃ g : Int, (lG (sv s1 l1) (sv s2 l2) (sv s3 l3) (sv s4 l4) : Int) = g := ⟨_, rfl⟩
  have n1 := lq_len' (s := s1) (g := gg) c1
  obtain ⟨A1, eA1⟩ : ∃ z, sv s1 l1 / gg = z := ⟨_, rfl⟩
  rw [eA1] at n1
  have r1 := lle (k := 2147483648) n1 (by omega)
  have q1 := lle (k := 16777216) n1 (by omega)
  have n2 := lq_len' (s := s2) (g := gg) c2
  obtain ⟨A2, eA2⟩ : ∃ z, sv s2 l2 / gg = z := ⟨_, rfl⟩
  rw [eA2] at n2
  have r2 := lle (k := 2147483648) n2 (by omega)
  have q2 := lle (k := 16777216) n2 (by omega)
  have n3 := lq_len' (s := s3) (g := gg) c3
  obtain ⟨A3, eA3⟩ : ∃ z, sv s3 l3 / gg = z := ⟨_, rfl⟩
  rw [eA3] at n3
  have r3 := lle (k := 2147483648) n3 (by omega)
  have q3 := lle (k := 16777216) n3 (by omega)
  have n4 := lq_len' (s := s4) (g := gg) c4
  obtain ⟨A4, eA4⟩ : ∃ z, sv s4 l4 / gg = z := ⟨_, rfl⟩
  rw [eA4] at n4
  have r4 := lle (k := 2147483648) n4 (by omega)
  have q4 := lle (k := 16777216) n4 (by omega)
  have ka1 : m1.length ≤ 34359738368 := by omega
  have ea1 := len_sv (s := t1) ca1
  have ka2 : m2.length ≤ 34359738368 := by omega
  have ea2 := len_sv (s := t2) ca2
  have ka3 : m3.length ≤ 34359738368 := by omega
  have ea3 := len_sv (s := t3) ca3
  have ka4 : m4.length ≤ 34359738368 := by omega
  have ea4 := len_sv (s := t4) ca4
  have ewa := pW_len ea4 (by omega)
  have wa1 := pQ_len (x := sv t1 m1) (y := sv t2 m2) (z := sv t3 m3) (w := sv t4 m4) ea1
  obtain ⟨a1, fa1⟩ : ∃ z, pQ (sv t1 m1) (sv t2 m2) (sv t3 m3) (sv t4 m4) (sv t1 m1) = z := ⟨_, rfl⟩
  rw [fa1] at wa1
  have xa1 := lle (k := 2147483648) wa1 (by omega)
  have ya1 := lle (k := 16777216) wa1 (by omega)
  have wa2 := pQ_len (x := sv t1 m1) (y := sv t2 m2) (z := sv t3 m3) (w := sv t4 m4) ea2
  obtain ⟨a2, fa2⟩ : ∃ z, pQ (sv t1 m1) (sv t2 m2) (sv t3 m3) (sv t4 m4) (sv t2 m2) = z := ⟨_, rfl⟩
  rw [fa2] at wa2
  have xa2 := lle (k := 2147483648) wa2 (by omega)
  have ya2 := lle (k := 16777216) wa2 (by omega)
  have wa3 := pQ_len (x := sv t1 m1) (y := sv t2 m2) (z := sv t3 m3) (w := sv t4 m4) ea3
  obtain ⟨a3, fa3⟩ : ∃ z, pQ (sv t1 m1) (sv t2 m2) (sv t3 m3) (sv t4 m4) (sv t3 m3) = z := ⟨_, rfl⟩
  rw [fa3] at wa3
  have xa3 := lle (k := 2147483648) wa3 (by omega)
  have ya3 := lle (k := 16777216) wa3 (by omega)
  have posa := pQ_pos (sv t1 m1) (sv t2 m2) (sv t3 m3) (sv t4 m4)
  have wa4 := pQ_len (x := sv t1 m1) (y := sv t2 m2) (z := sv t3 m3) (w := sv t4 m4) ewa
  obtain ⟨a4, fa4⟩ : ∃ z, pQ (sv t1 m1) (sv t2 m2) (sv t3 m3) (sv t4 m4) (pW (sv t4 m4)) = z := ⟨_, rfl⟩
  rw [fa4] at wa4
  rw [fa4] at posa
  have xa4 := lle (k := 2147483648) wa4 (by omega)
  have ya4 := lle (k := 16777216) wa4 (by omega)
  have pwa := pW_pos posa
  have kb1 : o1.length ≤ 34359738368 := by omega
  have eb1 := len_sv (s := u1) cb1
  have kb2 : o2.length ≤ 34359738368 := by omega
  have eb2 := len_sv (s := u2) cb2
  have kb3 : o3.length ≤ 34359738368 := by omega
  have eb3 := len_sv (s := u3) cb3
  have kb4 : o4.length ≤ 34359738368 := by omega
  have eb4 := len_sv (s := u4) cb4
  have ewb := pW_len eb4 (by omega)
  have wb1 := pQ_len (x := sv u1 o1) (y := sv u2 o2) (z := sv u3 o3) (w := sv u4 o4) eb1
  obtain ⟨b1, fb1⟩ : ∃ z, pQ (sv u1 o1) (sv u2 o2) (sv u3 o3) (sv u4 o4) (sv u1 o1) = z := ⟨_, rfl⟩
  rw [fb1] at wb1
  have xb1 := lle (k := 2147483648) wb1 (by omega)
  have yb1 := lle (k := 16777216) wb1 (by omega)
  have wb2 := pQ_len (x := sv u1 o1) (y := sv u2 o2) (z := sv u3 o3) (w := sv u4 o4) eb2
  obtain ⟨b2, fb2⟩ : ∃ z, pQ (sv u1 o1) (sv u2 o2) (sv u3 o3) (sv u4 o4) (sv u2 o2) = z := ⟨_, rfl⟩
  rw [fb2] at wb2
  have xb2 := lle (k := 2147483648) wb2 (by omega)
  have yb2 := lle (k := 16777216) wb2 (by omega)
  have wb3 := pQ_len (x := sv u1 o1) (y := sv u2 o2) (z := sv u3 o3) (w := sv u4 o4) eb3
  obtain ⟨b3, fb3⟩ : ∃ z, pQ (sv u1 o1) (sv u2 o2) (sv u3 o3) (sv u4 o4) (sv u3 o3) = z := ⟨_, rfl⟩
  rw [fb3] at wb3
  have xb3 := lle (k := 2147483648) wb3 (by omega)
  have yb3 := lle (k := 16777216) wb3 (by omega)
  have posb := pQ_pos (sv u1 o1) (sv u2 o2) (sv u3 o3) (sv u4 o4)
  have wb4 := pQ_len (x := sv u1 o1) (y := sv u2 o2) (z := sv u3 o3) (w := sv u4 o4) ewb
  obtain ⟨b4, fb4⟩ : ∃ z, pQ (sv u1 o1) (sv u2 o2) (sv u3 o3) (sv u4 o4) (pW (sv u4 o4)) = z := ⟨_, rfl⟩
  rw [fb4] at wb4
  rw [fb4] at posb
  have xb4 := lle (k := 2147483648) wb4 (by omega)
  have yb4 := lle (k := 16777216) wb4 (by omega)
  have pwb := pW_pos posb
  obtain ⟨S, eS⟩ : ∃ z, A1 * a1 + A2 * a2 + A3 * a3 - A4 * a4 = z := ⟨_, rfl⟩
  obtain ⟨T, eT⟩ : ∃ z, A1 * b1 + A2 * b2 + A3 * b3 - A4 * b4 = z := ⟨_, rfl⟩
  obtain ⟨n, en⟩ : ∃ z, a4 * T - b4 * S = z := ⟨_, rfl⟩
  have same : ((decide (a1 < 0) = decide (b1 < 0)) ∧ (bl a1.natAbs = bl b1.natAbs) ∧ (decide (a2 < 0) = decide (b2 < 0)) ∧ (bl a2.natAbs = bl b2.natAbs) ∧ (decide (a3 < 0) = decide (b3 < 0)) ∧ (bl a3.natAbs = bl b3.natAbs) ∧ (decide (a4 < 0) = decide (b4 < 0)) ∧ (bl a4.natAbs = bl b4.natAbs)) → n = 0 := by
    intro ⟨d1, e1, d2, e2, d3, e3, d4, e4⟩
    have h1 : a1 = b1 := by rw [← sv_can a1, ← sv_can b1, d1, e1]
    have h2 : a2 = b2 := by rw [← sv_can a2, ← sv_can b2, d2, e2]
    have h3 : a3 = b3 := by rw [← sv_can a3, ← sv_can b3, d3, e3]
    have h4 : a4 = b4 := by rw [← sv_can a4, ← sv_can b4, d4, e4]
    rw [← en, ← eS, ← eT, h1, h2, h3, h4]; omega
  obtain ⟨EQ, eEQ⟩ : ∃ p : Prop, ((decide (a1 < 0) = decide (b1 < 0)) ∧ (bl a1.natAbs = bl b1.natAbs) ∧ (decide (a2 < 0) = decide (b2 < 0)) ∧ (bl a2.natAbs = bl b2.natAbs) ∧ (decide (a3 < 0) = decide (b3 < 0)) ∧ (bl a3.natAbs = bl b3.natAbs) ∧ (decide (a4 < 0) = decide (b4 < 0)) ∧ (bl a4.natAbs = bl b4.natAbs)) = p := ⟨_, rfl⟩
  rw [eEQ] at same
  have hif : ∀ (v w : Option Value) [Decidable ((decide (a1 < 0) = decide (b1 < 0)) ∧ (bl a1.natAbs = bl b1.natAbs) ∧ (decide (a2 < 0) = decide (b2 < 0)) ∧ (bl a2.natAbs = bl b2.natAbs) ∧ (decide (a3 < 0) = decide (b3 < 0)) ∧ (bl a3.natAbs = bl b3.natAbs) ∧ (decide (a4 < 0) = decide (b4 < 0)) ∧ (bl a4.natAbs = bl b4.natAbs))], (EQ → v = w) → (if ((decide (a1 < 0) = decide (b1 < 0)) ∧ (bl a1.natAbs = bl b1.natAbs) ∧ (decide (a2 < 0) = decide (b2 < 0)) ∧ (bl a2.natAbs = bl b2.natAbs) ∧ (decide (a3 < 0) = decide (b3 < 0)) ∧ (bl a3.natAbs = bl b3.natAbs) ∧ (decide (a4 < 0) = decide (b4 < 0)) ∧ (bl a4.natAbs = bl b4.natAbs)) then v else w) = w := by
    intro v w _ h
    by_cases c : ((decide (a1 < 0) = decide (b1 < 0)) ∧ (bl a1.natAbs = bl b1.natAbs) ∧ (decide (a2 < 0) = decide (b2 < 0)) ∧ (bl a2.natAbs = bl b2.natAbs) ∧ (decide (a3 < 0) = decide (b3 < 0)) ∧ (bl a3.natAbs = bl b3.natAbs) ∧ (decide (a4 < 0) = decide (b4 < 0)) ∧ (bl a4.natAbs = bl b4.natAbs))
    · rw [if_pos c]; exact h (eEQ ▸ c)
    · rw [if_neg c]
  simp only [↓R0, R1, rdL, rdH, isCall, istep, ibin, vcells, fillI, setR, flat, okCell, isBase, List.set, List.drop, List.take, List.append, bnds, bhi, blo, srcOf, ↓reduceIte, Nat.reduceEqDiff, Nat.reduceAdd, Nat.reduceLeDiff, reduceCtorEq, Nat.reduceSub, Int.reduceEq, Int.reduceLT, Int.reduceLE, Int.reduceGT, Int.reduceGE, Int.reduceSub, Int.reduceAdd, Int.reduceMul, Int.reduceNe, Int.reduceNeg, Int.reduceToNat, Nat.reduceMul, Wp, gl', c1, c2, c3, c4, zp, egg, eA1, r1, q1, eA2, r2, q2, eA3, r3, q3, eA4, r4, q4, ka1, ka2, ka3, ka4, fa1, xa1, ya1, fa2, xa2, ya2, fa3, xa3, ya3, fa4, xa4, ya4, pwa, kb1, kb2, kb3, kb4, fb1, xb1, yb1, fb2, xb2, yb2, fb3, xb3, yb3, fb4, xb4, yb4, pwb, eS, eT, en, rdS, spLForm, spR4Norm, lE, pE, not_false_eq_true, iE]
  by_cases hw : n = 0
  · have hl : spXLine [.agg ⟨iE A1 ++ iE A2 ++ iE A3 ++ iE A4⟩, .agg ⟨iE a1 ++ iE a2 ++ iE a3 ++ iE a4⟩, .agg ⟨iE b1 ++ iE b2 ++ iE b3 ++ iE b4⟩] = some (.tuple ⟨[.agg ⟨pZ⟩, .bool false]⟩) := by
      unfold spXLine iE
      simp only [List.cons_append, List.nil_append, sv_can]
      rw [if_pos ⟨r1, r2, r3, r4, xa1, xa2, xa3, xa4, xb1, xb2, xb3, xb4⟩, hif _ _ (fun _ => by rw [eS, eT, en, if_pos hw]), eS, eT, en, if_pos hw]
    simp only [iE, List.cons_append, List.nil_append] at hl
    simp only [↓R0, R1, rdL, rdH, isCall, istep, ibin, vcells, fillI, setR, flat, okCell, isBase, List.set, List.drop, List.take, List.append, bnds, bhi, blo, srcOf, ↓reduceIte, Nat.reduceEqDiff, Nat.reduceAdd, Nat.reduceLeDiff, reduceCtorEq, Nat.reduceSub, Int.reduceEq, Int.reduceLT, Int.reduceLE, Int.reduceGT, Int.reduceGE, Int.reduceSub, Int.reduceAdd, Int.reduceMul, Int.reduceNe, Int.reduceNeg, Int.reduceToNat, Nat.reduceMul, Wp, gl', c1, c2, c3, c4, zp, egg, eA1, r1, q1, eA2, r2, q2, eA3, r3, q3, eA4, r4, q4, ka1, ka2, ka3, ka4, fa1, xa1, ya1, fa2, xa2, ya2, fa3, xa3, ya3, fa4, xa4, ya4, pwa, kb1, kb2, kb3, kb4, fb1, xb1, yb1, fb2, xb2, yb2, fb3, xb3, yb3, fb4, xb4, yb4, pwb, eS, eT, en, hl, spR6Cross, hw, pZ, spLFixed, ceq, Fin, isEnd, resL, res1, iE, rE]
    exact ⟨_, rfl, rfl, fun k hk => by simp only [ne_nb hk, if_false]⟩
  · have hl : spXLine [.agg ⟨iE A1 ++ iE A2 ++ iE A3 ++ iE A4⟩, .agg ⟨iE a1 ++ iE a2 ++ iE a3 ++ iE a4⟩, .agg ⟨iE b1 ++ iE b2 ++ iE b3 ++ iE b4⟩] = some (.tuple ⟨[.agg ⟨pE (a1 * T - b1 * S) (a2 * T - b2 * S) (a3 * T - b3 * S) n⟩, .bool true]⟩) := by
      unfold spXLine iE
      simp only [List.cons_append, List.nil_append, sv_can]
      rw [if_pos ⟨r1, r2, r3, r4, xa1, xa2, xa3, xa4, xb1, xb2, xb3, xb4⟩, hif _ _ (fun h => absurd (same h) hw), eS, eT, en, if_neg hw]
    simp only [iE, pE, List.cons_append, List.nil_append] at hl
    simp only [↓R0, R1, rdL, rdH, isCall, istep, ibin, vcells, fillI, setR, flat, okCell, isBase, List.set, List.drop, List.take, List.append, bnds, bhi, blo, srcOf, ↓reduceIte, Nat.reduceEqDiff, Nat.reduceAdd, Nat.reduceLeDiff, reduceCtorEq, Nat.reduceSub, Int.reduceEq, Int.reduceLT, Int.reduceLE, Int.reduceGT, Int.reduceGE, Int.reduceSub, Int.reduceAdd, Int.reduceMul, Int.reduceNe, Int.reduceNeg, Int.reduceToNat, Nat.reduceMul, Wp, gl', c1, c2, c3, c4, zp, egg, eA1, r1, q1, eA2, r2, q2, eA3, r3, q3, eA4, r4, q4, ka1, ka2, ka3, ka4, fa1, xa1, ya1, fa2, xa2, ya2, fa3, xa3, ya3, fa4, xa4, ya4, pwa, kb1, kb2, kb3, kb4, fb1, xb1, yb1, fb2, xb2, yb2, fb3, xb3, yb3, fb4, xb4, yb4, pwb, eS, eT, en, hl, spR6Cross, hw, pE, spLFixed, ceq, Fin, isEnd, resL, res1, iE, rE]
    exact ⟨_, rfl, rfl, fun k hk => by simp only [ne_nb hk, if_false]⟩
end Go.Eng
end
section
set_option linter.unusedVariables false
set_option linter.unusedSimpArgs false
set_option linter.unusedSectionVars false
namespace Go.Eng
def kmatch : List Kd → List Value → Prop
  | [], [] => True
  | .b :: ks, .bool _ :: r => kmatch ks r
  | .i :: ks, .int _ _ :: r => kmatch ks r
  | .s :: ks, .string _ :: r => kmatch ks r
  | _, _ => False
theorem kmatch_append : ∀ {ks ks' : List Kd} {cs cs' : List Value}, kmatch ks cs → kmatch ks' cs' → kmatch (ks ++ ks') (cs ++ cs')
  | [], _, [], _, _, h => h
  | [], _, _ :: _, _, h, _ => h.elim
  | .b :: ks, ks', cs, cs', h, h' => by
    match cs, h with
    | .bool _ :: r, h => exact kmatch_append (ks := ks) h h'
  | .i :: ks, ks', cs, cs', h, h' => by
    match cs, h with
    | .int _ _ :: r, h => exact kmatch_append (ks := ks) h h'
  | .s :: ks, ks', cs, cs', h, h' => by
    match cs, h with
    | .string _ :: r, h => exact kmatch_append (ks := ks) h h'
section
variable {H : Type} {enc : TypeId × Value → H} {P : Program}
theorem cellsOf_sz {t : TypeId} {n : Nat} (h : szOf P t = some n) : P.cellsOf t = n := by
  unfold Program.cellsOf; unfold szOf at h; rw [h]; rfl
def Plain (P : Program) (enc : TypeId × Value → H) (fuel : Nat) (t : TypeId) (ks : List Kd) : Prop :=
  ∀ (w : World) (base : Nat) (spare : Nat → Bool) (held : Bool) (cs : List Value) (x : DataW H × List MemPlace), DataW.trod enc P w base spare held fuel t cs = some x →
    kmatch ks cs ∧ x.2 = [] ∧ ∀ w' base' spare' held', DataW.trod enc P w' base' spare' held' fuel t cs = some x
theorem plain_fields {fuel : Nat} {ty : TypeId → Option (List Kd)} (hty : ∀ t ks n, ty t = some ks → szOf P t = some n → ks.length = n → Plain P enc fuel t ks) :
    ∀ (fs : List Field) (off : Nat) (ks : List Kd), flatFs ty P fs off = some ks → ∀ (w : World) (base : Nat) (spare : Nat → Bool) (held : Bool) (cs : List Value) (xs : List (DataW H × List MemPlace)),
      (fs.mapM fun f => DataW.trod enc P w base spare held fuel f.type ((cs.drop f.offset).take (P.cellsOf f.type))) = some xs → cs.length = off + ks.length →
      kmatch ks (cs.drop off) ∧ xs.flatMap (·.2) = [] ∧ ∀ w' base' spare' held', (fs.mapM fun f => DataW.trod enc P w' base' spare' held' fuel f.type ((cs.drop f.offset).take (P.cellsOf f.type))) = some xs
  | [], off, ks, h, w, base, spare, held, cs, xs, hm, hl => by
    simp only [flatFs, Option.some.injEq] at h
    subst h
    simp only [List.mapM_nil, Option.pure_def, Option.some.injEq] at hm
    subst hm
    simp only [List.length_nil, Nat.add_zero] at hl
    rw [List.drop_eq_nil_of_le (by omega)]
    exact ⟨trivial, rfl, fun _ _ _ _ => rfl⟩
  | f :: r, off, ks, h, w, base, spare, held, cs, xs, hm, hl => by
    simp only [flatFs] at h
    split at h
    case isFalse => cases h
    rename_i hc
    obtain ⟨_, hoff⟩ := hc
    split at h
    case h_2 => cases h
    rename_i ks0 n hk hn
    split at h
    case isFalse => cases h
    rename_i hlen
    rw [Option.map_eq_some_iff] at h
    obtain ⟨ks1, h1, rfl⟩ := h
    have hsz := cellsOf_sz hn
    simp only [List.mapM_cons, Option.bind_eq_bind, Option.bind_eq_some_iff, Option.pure_def, Option.some.injEq] at hm
    obtain ⟨y, hy, ys, hys, rfl⟩ := hm
    have hp := hty f.type ks0 n hk hn hlen w base spare held _ y hy
    obtain ⟨p1, p2, p3⟩ := hp
    simp only [List.length_append] at hl
    obtain ⟨q1, q2, q3⟩ := plain_fields hty r (off + n) ks1 h1 w base spare held cs ys hys (by omega)
    rw [hoff, hsz] at p1
    refine ⟨?_, ?_, ?_⟩
    · have e : cs.drop off = (cs.drop off).take n ++ cs.drop (off + n) := by
        rw [← List.drop_drop, List.take_append_drop]
      rw [e]
      exact kmatch_append p1 q1
    · simp only [List.flatMap_cons, p2, q2, List.nil_append]
    · intro w' base' spare' held'
      simp only [List.mapM_cons, Option.bind_eq_bind, Option.bind_eq_some_iff, Option.pure_def, Option.some.injEq]
      exact ⟨y, p3 w' base' spare' held', ys, q3 w' base' spare' held', rfl⟩
theorem plain_elems {fuel : Nat} {e : TypeId} {ks : List Kd} {n : Nat} (hn : szOf P e = some n) (hl : ks.length = n) (he : Plain P enc fuel e ks) :
    ∀ (m i0 : Nat) (w : World) (base : Nat) (spare : Nat → Bool) (held : Bool) (cs : List Value) (xs : List (DataW H × List MemPlace)),
      ((List.range' i0 m).mapM fun i => DataW.trod enc P w base spare held fuel e ((cs.drop (i * P.cellsOf e)).take (P.cellsOf e))) = some xs → cs.length = (i0 + m) * n →
      kmatch (List.replicate m ks).flatten (cs.drop (i0 * n)) ∧ xs.flatMap (·.2) = [] ∧ ∀ w' base' spare' held', ((List.range' i0 m).mapM fun i => DataW.trod enc P w' base' spare' held' fuel e ((cs.drop (i * P.cellsOf e)).take (P.cellsOf e))) = some xs
  | 0, i0, w, base, spare, held, cs, xs, hm, hlen => by
    simp only [List.range'_zero, List.mapM_nil, Option.pure_def, Option.some.injEq] at hm
    subst hm
    simp only [Nat.add_zero] at hlen
    rw [List.drop_eq_nil_of_le (by omega)]
    exact ⟨trivial, rfl, fun _ _ _ _ => by simp⟩
  | m + 1, i0, w, base, spare, held, cs, xs, hm, hlen => by
    have hsz := cellsOf_sz hn
    simp only [List.range'_succ, List.mapM_cons, Option.bind_eq_bind, Option.bind_eq_some_iff, Option.pure_def, Option.some.injEq] at hm
    obtain ⟨y, hy, ys, hys, rfl⟩ := hm
    obtain ⟨p1, p2, p3⟩ := he w base spare held _ y hy
    obtain ⟨q1, q2, q3⟩ := plain_elems hn hl he m (i0 + 1) w base spare held cs ys hys (by rw [hlen]; congr 1; omega)
    rw [hsz] at p1
    refine ⟨?_, ?_, ?_⟩
    · rw [List.replicate_succ, List.flatten_cons]
      have e : cs.drop (i0 * n) = (cs.drop (i0 * n)).take n ++ cs.drop ((i0 + 1) * n) := by
        rw [Nat.succ_mul, ← List.drop_drop, List.take_append_drop]
      rw [e]
      exact kmatch_append p1 q1
    · simp only [List.flatMap_cons, p2, q2, List.nil_append]
    · intro w' base' spare' held'
      simp only [List.range'_succ, List.mapM_cons, Option.bind_eq_bind, Option.bind_eq_some_iff, Option.pure_def, Option.some.injEq]
      exact ⟨y, p3 w' base' spare' held', ys, q3 w' base' spare' held', rfl⟩
theorem plain_ty : ∀ (fuel d : Nat) (t : TypeId) (ks : List Kd) (n : Nat), flatTy P d t = some ks → szOf P t = some n → ks.length = n → Plain P enc fuel t ks
  | 0, d, t, ks, n, h, hn, hl => by intro w base spare held cs x hx; simp [DataW.trod] at hx
  | fuel + 1, 0, t, ks, n, h, hn, hl => by simp [flatTy] at h
  | fuel + 1, d + 1, t, ks, n, h, hn, hl => by
    intro w base spare held cs x hx
    unfold flatTy at h
    unfold DataW.trod at hx ⊢
    split at h
    · rename_i hu
      cases h
      rw [hu] at hx ⊢
      match cs, hx with
      | [.bool b], hx => simp only [Option.some.injEq] at hx; subst hx; exact ⟨trivial, rfl, fun _ _ _ _ => rfl⟩
    · rename_i k hu
      cases h
      rw [hu] at hx ⊢
      match cs, hx with
      | [.int k' m], hx =>
        simp only at hx
        split at hx
        · rename_i hc
          simp only [Option.some.injEq] at hx; subst hx
          exact ⟨trivial, rfl, fun _ _ _ _ => by simp only; rw [if_pos hc]⟩
        · cases hx
    · rename_i hu
      cases h
      rw [hu] at hx ⊢
      match cs, hx with
      | [.string s], hx =>
        simp only at hx
        split at hx
        · rename_i hc
          simp only [Option.some.injEq] at hx; subst hx
          exact ⟨trivial, rfl, fun _ _ _ _ => by simp only; rw [if_pos hc]⟩
        · cases hx
    · rename_i fs hu
      split at h
      · cases h
      rw [hu] at hx ⊢
      simp only at hx ⊢
      split at hx
      case isFalse => cases hx
      rename_i hlen
      rw [Option.map_eq_some_iff] at hx
      obtain ⟨xs, hxs, rfl⟩ := hx
      rw [cellsOf_sz hn, ← hl] at hlen
      obtain ⟨p1, p2, p3⟩ := plain_fields (fuel := fuel) (fun t ks n h1 h2 h3 => plain_ty fuel d t ks n h1 h2 h3) fs.toList 0 ks h w base spare held cs xs hxs (by omega)
      refine ⟨by simpa using p1, p2, fun w' base' spare' held' => ?_⟩
      rw [if_pos (by rw [cellsOf_sz hn, ← hl, hlen]), p3]; rfl
    · rename_i len e hu
      split at h
      case h_2 => cases h
      rename_i ks0 m hk hm
      split at h
      case isFalse => cases h
      rename_i hlm
      simp only [Option.some.injEq] at h
      subst h
      rw [hu] at hx ⊢
      simp only at hx ⊢
      split at hx
      case isFalse => cases hx
      rename_i hlen
      rw [Option.map_eq_some_iff] at hx
      obtain ⟨xs, hxs, rfl⟩ := hx
      rw [cellsOf_sz hn, ← hl] at hlen
      rw [List.range_eq_range'] at hxs
      have hfl : ((List.replicate len ks0).flatten).length = len * m := by rw [List.length_flatten]; simp [hlm]
      obtain ⟨p1, p2, p3⟩ := plain_elems hm hlm (plain_ty fuel d e ks0 m hk hm hlm) len 0 w base spare held cs xs hxs (by rw [hlen, hfl, Nat.zero_add])
      refine ⟨by simpa using p1, p2, fun w' base' spare' held' => ?_⟩
      rw [if_pos (by rw [cellsOf_sz hn, ← hl, hlen]), List.range_eq_range', p3]; rfl
    · cases h
theorem trod_plain {w : World} {t : TypeId} {v : Value} {d : DataW H} {ps : List MemPlace} {ks : List Kd} {n : Nat} {base : Nat} {spare : Nat → Bool} {held : Bool}
    (hf : flatTy P 20 t = some ks) (hs : szOf P t = some n) (hl : ks.length = n) (h : DataW.Trod enc P w base spare held t v d ps) :
    kmatch ks v.cells.toList ∧ ps = [] ∧ ∀ w' base' spare' held', DataW.Trod enc P w' base' spare' held' t v d ps := by
  obtain ⟨fuel, h⟩ := h
  obtain ⟨p1, p2, p3⟩ := plain_ty fuel 20 t ks n hf hs hl w base spare held _ _ h
  exact ⟨p1, p2, fun w' base' spare' held' => ⟨fuel, p3 w' base' spare' held'⟩⟩
end
theorem agg_of {v : Value} {cs : List Value} (h : v.cells.toList = cs) (h2 : 2 ≤ cs.length) : v = .agg ⟨cs⟩ := by
  rw [vcells_eq] at h
  cases v <;> simp [vcells] at h <;> subst h <;> first | rfl | simp at h2
theorem flat_calls {P : Program} {f : Nat} {G : List Value → Option Value} (hS : SpecOK P f (flat G)) {args : List Value} {v : Value} (hG : G args = some v) (ha : ∀ β, VRs β args args) (hv : isBase v = true) (w : World) :
    Calls P f ⟨args⟩ w fun e w' => e = .returned v ∧ w.keptBut w' (fun _ => False) := by
  have h := hS.ok args [] 0 (v, [], 0) (by simp [flat, hG]) (fun _ => none) w args (ha _)
    ⟨fun k b e => by simp [hget] at e, fun k k' L L' e => by simp [hget] at e, fun k L e => by cases e⟩ (fun _ _ _ => rfl) ⟨0, fun k e => absurd rfl e⟩
  refine h.mono ?_
  rintro e w' ⟨β', v', he, hvr, hrel, hfr, _⟩
  refine ⟨?_, hfr.os, hfr.out, fun i hi => ?_⟩
  · rw [he, hvr.base_left hv]
  · rw [hfr.keep i hi (fun k L hk => by simp [hget] at hk)]
    cases w.heap[i]? with
    | none => rfl
    | some o =>
      cases o with
      | cells c t fr => exact ⟨rfl, rfl, rfl, fun _ _ => rfl⟩
      | map es cl => exact .inr ⟨rfl, rfl⟩
      | _ => rfl
end Go.Eng
end
