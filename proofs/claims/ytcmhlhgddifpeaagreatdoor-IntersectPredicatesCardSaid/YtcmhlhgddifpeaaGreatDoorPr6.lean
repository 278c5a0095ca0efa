/-
  A part of the proof: the machine, the contracts of the functions and the plain laws, merged from smaller texts.
-/
import Derived.Test.YtcmhlhgddifpeaaGreatDoorPr5
import Derived.RowKit3
import Derived.ChangeSame
section
set_option linter.unusedVariables false
set_option linter.unusedSimpArgs false
set_option linter.unusedSectionVars false
set_option maxRecDepth 20000
namespace Go.Eng
open Go Go.Proofs Go.IntWalk
def spLFlat : List Value → Option Value
  | [.int .i64 a, .int .i64 b, .int .i64 c, .int .i64 d] => if (-9223372036854775808 ≤ a ∧ a ≤ 9223372036854775807) ∧ (-9223372036854775808 ≤ b ∧ b ≤ 9223372036854775807) ∧ (-9223372036854775808 ≤ c ∧ c ≤ 9223372036854775807) ∧ (-9223372036854775808 ≤ d ∧ d ≤ 9223372036854775807) then
      some (.agg ⟨iE a ++ iE b ++ iE c ++ iE d⟩) else none
  | _ => none
def c30 : ICode :=
  (.seq (.reg [⟨(some 8), none, (.alloc 25 8 [(.bool false), (.string ⟨⟨[]⟩⟩), (.bool false), (.string ⟨⟨[]⟩⟩), (.bool false), (.string ⟨⟨[]⟩⟩), (.bool false), (.string ⟨⟨[]⟩⟩)])⟩])
  (.seq (.reg [⟨(some 9), none, (.mv (.t 0))⟩, ⟨(some 10), none, (.call 26 [(.t 9)])⟩, ⟨(some 11), none, (.mv (.t 1))⟩, ⟨(some 12), none, (.call 26 [(.t 11)])⟩, ⟨(some 13), none, (.mv (.t 2))⟩, ⟨(some 14), none, (.call 26 [(.t 13)])⟩, ⟨(some 15), none, (.mv (.t 3))⟩, ⟨(some 16), none, (.call 26 [(.t 15)])⟩, ⟨(some 17), none, (.build [(.bool false), (.string ⟨⟨[]⟩⟩), (.bool false), (.string ⟨⟨[]⟩⟩), (.bool false), (.string ⟨⟨[]⟩⟩), (.bool false), (.string ⟨⟨[]⟩⟩)] [(0, 2, (.t 10)), (2, 2, (.t 12)), (4, 2, (.t 14)), (6, 2, (.t 16))])⟩, ⟨none, none, (.store 8 (.t 8) (.t 17))⟩])
  .ret))
theorem tr30 : trFun Tryz.prog 30 = some ⟨18, [.cell 8 true 8], c30⟩ := by kernel_rfl
theorem ok_lFlat : SpecOK Tryz.prog 30 (flat spLFlat) := by
  refine flat_run (env_cons ok_iFrom (env_nil _)) mixed tr30 ?_
  intro args v h N hG
  unfold spLFlat at hG
  split at hG
  case h_2 => cases hG
  rename_i a b c d
  split at hG
  case isFalse => cases hG
  rename_i hl
  obtain ⟨⟨h1, h2⟩, ⟨h3, h4⟩, ⟨h5, h6⟩, ⟨h7, h8⟩⟩ := hl
  cases hG
  refine ⟨rfl, by simp, ?_⟩
  simp only [c30, initT, List.zipIdx_cons, List.zipIdx_nil, List.map_cons, List.map_nil, Nat.reduceAdd]
  simp only [↓R0, R1, rdL, rdH, isCall, istep, ibin, vcells, fillI, setR, flat, okCell, isBase, List.set, List.drop, List.take, List.append, bnds, bhi, blo, srcOf, simprocAttr, -Int.reduceAbs, spIFrom, h1, h2, h3, h4, h5, h6, h7, h8, Fin, isEnd, resL, res1, iE, rE]
  exact ⟨_, rfl, rfl, fun k hk => by simp only [ne_nb hk, if_false]⟩
def spLAt : List Value → Option Value
  | [.int .i64 a, .int .i64 b, .int .i64 c] => if (-9223372036854775808 ≤ a ∧ a ≤ 9223372036854775807) ∧ (-9223372036854775808 ≤ b ∧ b ≤ 9223372036854775807) ∧ (-9223372036854775808 ≤ c ∧ c ≤ 9223372036854775807) then
      some (.agg ⟨iE a ++ iE b ++ iE c ++ iE 1⟩) else none
  | _ => none
def c31 : ICode :=
  (.seq (.reg [⟨(some 6), none, (.alloc 30 8 [(.bool false), (.string ⟨⟨[]⟩⟩), (.bool false), (.string ⟨⟨[]⟩⟩), (.bool false), (.string ⟨⟨[]⟩⟩), (.bool false), (.string ⟨⟨[]⟩⟩)])⟩])
  (.seq (.reg [⟨(some 7), none, (.mv (.t 0))⟩, ⟨(some 8), none, (.call 26 [(.t 7)])⟩, ⟨(some 9), none, (.mv (.t 1))⟩, ⟨(some 10), none, (.call 26 [(.t 9)])⟩, ⟨(some 11), none, (.mv (.t 2))⟩, ⟨(some 12), none, (.call 26 [(.t 11)])⟩, ⟨(some 13), none, (.call 26 [(.c (.int .i64 1))])⟩, ⟨(some 14), none, (.build [(.bool false), (.string ⟨⟨[]⟩⟩), (.bool false), (.string ⟨⟨[]⟩⟩), (.bool false), (.string ⟨⟨[]⟩⟩), (.bool false), (.string ⟨⟨[]⟩⟩)] [(0, 2, (.t 8)), (2, 2, (.t 10)), (4, 2, (.t 12)), (6, 2, (.t 13))])⟩, ⟨none, none, (.store 8 (.t 6) (.t 14))⟩])
  .ret))
theorem tr31 : trFun Tryz.prog 31 = some ⟨15, [.cell 6 true 8], c31⟩ := by kernel_rfl
theorem ok_lAt : SpecOK Tryz.prog 31 (flat spLAt) := by
  refine flat_run (env_cons ok_iFrom (env_nil _)) mixed tr31 ?_
  intro args v h N hG
  unfold spLAt at hG
  split at hG
  case h_2 => cases hG
  rename_i a b c
  split at hG
  case isFalse => cases hG
  rename_i hl
  obtain ⟨⟨h1, h2⟩, ⟨h3, h4⟩, ⟨h5, h6⟩⟩ := hl
  cases hG
  refine ⟨rfl, by simp, ?_⟩
  simp only [c31, initT, List.zipIdx_cons, List.zipIdx_nil, List.map_cons, List.map_nil, Nat.reduceAdd]
  simp only [↓R0, R1, rdL, rdH, isCall, istep, ibin, vcells, fillI, setR, flat, okCell, isBase, List.set, List.drop, List.take, List.append, bnds, bhi, blo, srcOf, simprocAttr, -Int.reduceAbs, spIFrom, h1, h2, h3, h4, h5, h6, Fin, isEnd, resL, res1, iE, rE]
  exact ⟨_, rfl, rfl, fun k hk => by simp only [ne_nb hk, if_false]⟩
theorem bl_small {n : Nat} (h0 : n ≠ 0) (h : n < 256) : bl n = [UInt8.ofNat n] := by
  rw [bl_pos h0, Nat.div_eq_of_lt h, bl_zero, Nat.mod_eq_of_lt h]
theorem iE_0 : iE 0 = [.bool false, .string ⟨⟨[]⟩⟩] := by unfold iE; rw [show Int.natAbs 0 = 0 from rfl, bl_zero]; rfl
theorem iE_1 : iE 1 = [.bool false, .string ⟨⟨[1]⟩⟩] := by unfold iE; rw [show Int.natAbs 1 = 1 from rfl, bl_small (by decide) (by decide)]; rfl
theorem iE_2 : iE 2 = [.bool false, .string ⟨⟨[2]⟩⟩] := by unfold iE; rw [show Int.natAbs 2 = 2 from rfl, bl_small (by decide) (by decide)]; rfl
theorem iE_3 : iE 3 = [.bool false, .string ⟨⟨[3]⟩⟩] := by unfold iE; rw [show Int.natAbs 3 = 3 from rfl, bl_small (by decide) (by decide)]; rfl
theorem iE_4 : iE 4 = [.bool false, .string ⟨⟨[4]⟩⟩] := by unfold iE; rw [show Int.natAbs 4 = 4 from rfl, bl_small (by decide) (by decide)]; rfl
def cE4 (a b c d : List UInt8) : List Value := [.bool false, .string ⟨⟨a⟩⟩, .bool false, .string ⟨⟨b⟩⟩, .bool false, .string ⟨⟨c⟩⟩, .bool false, .string ⟨⟨d⟩⟩]
theorem fx1 : spLFlat [.int .i64 1, .int .i64 0, .int .i64 0, .int .i64 2] = some (.agg ⟨cE4 [1] [] [] [2]⟩) := by
  unfold spLFlat; simp only; rw [if_pos (by decide), iE_1, iE_0, iE_2]; rfl
theorem fx2 : spLFlat [.int .i64 0, .int .i64 1, .int .i64 0, .int .i64 3] = some (.agg ⟨cE4 [] [1] [] [3]⟩) := by
  unfold spLFlat; simp only; rw [if_pos (by decide), iE_1, iE_0, iE_3]; rfl
theorem fx3 : spLFlat [.int .i64 0, .int .i64 0, .int .i64 1, .int .i64 4] = some (.agg ⟨cE4 [] [] [1] [4]⟩) := by
  unfold spLFlat; simp only; rw [if_pos (by decide), iE_1, iE_0, iE_4]; rfl
theorem fx4 : spLFlat [.int .i64 0, .int .i64 0, .int .i64 1, .int .i64 1] = some (.agg ⟨cE4 [] [] [1] [1]⟩) := by
  unfold spLFlat; simp only; rw [if_pos (by decide), iE_1, iE_0]; rfl
theorem fx5 : spLAt [.int .i64 0, .int .i64 0, .int .i64 0] = some (.agg ⟨cE4 [] [] [] [1]⟩) := by
  unfold spLAt; simp only; rw [if_pos (by decide), iE_1, iE_0]; rfl
theorem fx6 : spLAt [.int .i64 1, .int .i64 1, .int .i64 2] = some (.agg ⟨cE4 [1] [1] [2] [1]⟩) := by
  unfold spLAt; simp only; rw [if_pos (by decide), iE_1, iE_2]; rfl
theorem fx7 : spLAt [.int .i64 2, .int .i64 3, .int .i64 4] = some (.agg ⟨cE4 [2] [3] [4] [1]⟩) := by
  unfold spLAt; simp only; rw [if_pos (by decide), iE_1, iE_2, iE_3, iE_4]; rfl
theorem fx8 : spIFrom [.int .i64 1] = some (.agg ⟨[.bool false, .string ⟨⟨[1]⟩⟩]⟩) := by
  unfold spIFrom; simp only; rw [if_pos (by decide), iE_1]
theorem fx9 : spIFrom [.int .i64 2] = some (.agg ⟨[.bool false, .string ⟨⟨[2]⟩⟩]⟩) := by
  unfold spIFrom; simp only; rw [if_pos (by decide), iE_2]
theorem pE_2341 : pE 2 3 4 1 = cE4 [2] [3] [4] [1] := by
  unfold pE
  rw [show pQ 2 3 4 1 2 = 2 by decide, show pQ 2 3 4 1 3 = 3 by decide, show pQ 2 3 4 1 4 = 4 by decide, show pQ 2 3 4 1 (pW 1) = 1 by decide, iE_1, iE_2, iE_3, iE_4]; rfl
theorem pE_1122 : pE 1 1 2 2 = cE4 [1] [1] [2] [2] := by
  unfold pE
  rw [show pQ 1 1 2 2 1 = 1 by decide, show pQ 1 1 2 2 2 = 2 by decide, show pQ 1 1 2 2 (pW 2) = 2 by decide, iE_1, iE_2]; rfl
theorem fxA : spXThree [.agg ⟨cE4 [1] [] [] [2]⟩, .agg ⟨cE4 [] [1] [] [3]⟩, .agg ⟨cE4 [] [] [1] [4]⟩] = some (.tuple ⟨[.agg ⟨cE4 [2] [3] [4] [1]⟩, .bool true]⟩) := by
  unfold spXThree cE4
  simp only
  rw [if_pos (by decide), if_neg (by decide)]
  have h : ∀ X Y Z W : Int, X = 2 → Y = 3 → Z = 4 → W = 1 → some (Value.tuple ⟨[.agg ⟨pE X Y Z W⟩, .bool true]⟩) = some (.tuple ⟨[.agg ⟨cE4 [2] [3] [4] [1]⟩, .bool true]⟩) := by
    intro X Y Z W h1 h2 h3 h4
    rw [h1, h2, h3, h4, pE_2341]
  exact h _ _ _ _ (by decide) (by decide) (by decide) (by decide)
theorem fxB : spXLine [.agg ⟨cE4 [] [] [1] [1]⟩, .agg ⟨cE4 [] [] [] [1]⟩, .agg ⟨cE4 [1] [1] [2] [1]⟩] = some (.tuple ⟨[.agg ⟨cE4 [1] [1] [2] [2]⟩, .bool true]⟩) := by
  unfold spXLine cE4
  simp only
  rw [if_pos (by decide), if_neg (by decide), if_neg (by decide)]
  have h : ∀ X Y Z W : Int, X = 1 → Y = 1 → Z = 2 → W = 2 → some (Value.tuple ⟨[.agg ⟨pE X Y Z W⟩, .bool true]⟩) = some (.tuple ⟨[.agg ⟨cE4 [1] [1] [2] [2]⟩, .bool true]⟩) := by
    intro X Y Z W h1 h2 h3 h4
    rw [h1, h2, h3, h4, pE_1122]
  exact h _ _ _ _ (by decide) (by decide) (by decide) (by decide)
def spLFixed : List Value → Option Value
  | [] => some (.bool true)
  | _ => none
def c9 : ICode :=
  (.seq (.reg [⟨(some 0), none, (.mv (.c (.bool false)))⟩])
  (.seq (.reg [⟨(some 6), none, (.call 30 [(.c (.int .i64 1)), (.c (.int .i64 0)), (.c (.int .i64 0)), (.c (.int .i64 2))])⟩, ⟨(some 7), none, (.call 30 [(.c (.int .i64 0)), (.c (.int .i64 1)), (.c (.int .i64 0)), (.c (.int .i64 3))])⟩, ⟨(some 8), none, (.call 30 [(.c (.int .i64 0)), (.c (.int .i64 0)), (.c (.int .i64 1)), (.c (.int .i64 4))])⟩, ⟨(some 9), none, (.call 11 [(.t 6), (.t 7), (.t 8)])⟩, ⟨(some 5), none, (.mv (.t 9))⟩, ⟨(some 10), none, (.ext (.t 5) 0)⟩, ⟨(some 11), none, (.ext (.t 5) 1)⟩, ⟨(some 1), none, (.alloc 30 8 [(.bool false), (.string ⟨⟨[]⟩⟩), (.bool false), (.string ⟨⟨[]⟩⟩), (.bool false), (.string ⟨⟨[]⟩⟩), (.bool false), (.string ⟨⟨[]⟩⟩)])⟩, ⟨none, none, (.store 8 (.t 1) (.t 10))⟩, ⟨(some 2), none, (.mv (.t 11))⟩])
  (.seq (.reg [⟨(some 13), none, (.call 30 [(.c (.int .i64 0)), (.c (.int .i64 0)), (.c (.int .i64 1)), (.c (.int .i64 1))])⟩, ⟨(some 14), none, (.call 31 [(.c (.int .i64 0)), (.c (.int .i64 0)), (.c (.int .i64 0))])⟩, ⟨(some 15), none, (.call 31 [(.c (.int .i64 1)), (.c (.int .i64 1)), (.c (.int .i64 2))])⟩, ⟨(some 16), none, (.call 15 [(.t 13), (.t 14), (.t 15)])⟩, ⟨(some 12), none, (.mv (.t 16))⟩, ⟨(some 17), none, (.ext (.t 12) 0)⟩, ⟨(some 18), none, (.ext (.t 12) 1)⟩, ⟨(some 3), none, (.alloc 30 8 [(.bool false), (.string ⟨⟨[]⟩⟩), (.bool false), (.string ⟨⟨[]⟩⟩), (.bool false), (.string ⟨⟨[]⟩⟩), (.bool false), (.string ⟨⟨[]⟩⟩)])⟩, ⟨none, none, (.store 8 (.t 3) (.t 17))⟩, ⟨(some 4), none, (.mv (.t 18))⟩])
  (.seq (.dreg [⟨(some 19), none, [], (.mv (.t 2))⟩, ⟨(some 20), none, [], (.mv (.t 19))⟩, ⟨(some 21), (some (20, true)), [], (.mv (.t 4))⟩, ⟨(some 22), none, [], (.pick (.t 20) (.t 21) (.c (.bool false)))⟩, ⟨(some 23), none, [], (.mv (.t 22))⟩, ⟨(some 24), (some (23, true)), [], (.load true 8 (.t 1))⟩, ⟨(some 25), (some (23, true)), [], (.call 31 [(.c (.int .i64 2)), (.c (.int .i64 3)), (.c (.int .i64 4))])⟩, ⟨(some 26), (some (23, true)), [], (.eqa false [.b, .s, .b, .s, .b, .s, .b, .s] (.t 24) (.t 25))⟩, ⟨(some 27), none, [], (.pick (.t 23) (.t 26) (.c (.bool false)))⟩, ⟨(some 28), none, [], (.mv (.t 27))⟩, ⟨(some 29), (some (28, true)), [], (.load true 8 (.t 3))⟩, ⟨(some 30), (some (28, true)), [], (.call 26 [(.c (.int .i64 1))])⟩, ⟨(some 31), (some (28, true)), [], (.call 26 [(.c (.int .i64 1))])⟩, ⟨(some 32), (some (28, true)), [], (.call 26 [(.c (.int .i64 2))])⟩, ⟨(some 33), (some (28, true)), [], (.call 26 [(.c (.int .i64 2))])⟩, ⟨(some 34), (some (28, true)), [], (.build [(.bool false), (.string ⟨⟨[]⟩⟩), (.bool false), (.string ⟨⟨[]⟩⟩), (.bool false), (.string ⟨⟨[]⟩⟩), (.bool false), (.string ⟨⟨[]⟩⟩)] [(0, 2, (.t 30)), (2, 2, (.t 31)), (4, 2, (.t 32)), (6, 2, (.t 33))])⟩, ⟨(some 35), (some (28, true)), [], (.eqa false [.b, .s, .b, .s, .b, .s, .b, .s] (.t 29) (.t 34))⟩, ⟨(some 36), none, [], (.pick (.t 28) (.t 35) (.c (.bool false)))⟩, ⟨(some 0), none, [], (.mv (.t 36))⟩])
  .ret))))
theorem tr9 : trFun Tryz.prog 9 = some ⟨37, [.t 0], c9⟩ := by kernel_rfl
set_option maxHeartbeats 4000000 in
theorem ok_lFixed : SpecOK Tryz.prog 9 (flat spLFixed) := by
  refine flat_run (env_cons ok_lFlat (env_cons ok_lAt (env_cons ok_iFrom (env_cons ok_xThree (env_cons ok_xLine (env_nil _)))))) mixed tr9 ?_
  intro args v h N hG
  unfold spLFixed at hG
  split at hG
  case h_2 => cases hG
  cases hG
  refine ⟨rfl, by simp, ?_⟩
  have fA := fxA
  have fB := fxB
  have g1 := fx1
  have g2 := fx2
  have g3 := fx3
  have g4 := fx4
  have g5 := fx5
  have g6 := fx6
  have g7 := fx7
  unfold cE4 at fA fB g1 g2 g3 g4 g5 g6 g7
  simp only [c9, initT, List.zipIdx_cons, List.zipIdx_nil, List.map_cons, List.map_nil, Nat.reduceAdd]
  simp only [↓R0, R1, rdL, rdH, isCall, istep, ibin, vcells, fillI, setR, flat, okCell, isBase, List.set, List.drop, List.take, List.append, bnds, bhi, blo, srcOf, simprocAttr, -Int.reduceAbs, g1, g2, g3, g4, g5, g6, g7, fx8, fx9, fA, fB, ceq, Fin, isEnd, resL, res1, iE, rE]
  exact ⟨_, rfl, rfl, fun k hk => by simp only [ne_nb hk, if_false]⟩
def spLWide : List Value → Option Value
  | [.agg ⟨[.bool s1, .string ⟨⟨l1⟩⟩, .bool s2, .string ⟨⟨l2⟩⟩, .bool s3, .string ⟨⟨l3⟩⟩, .bool s4, .string ⟨⟨l4⟩⟩]⟩] =>
    some (.int .i64 (if (l1.length ≤ 6 ∧ l2.length ≤ 6 ∧ l3.length ≤ 6 ∧ l4.length ≤ 6) ∧ ¬ (sv s1 l1 = 0 ∧ sv s2 l2 = 0 ∧ sv s3 l3 = 0) then 0 else 1))
  | _ => none
def spLForm : List Value → Option Value
  | [.agg ⟨[.bool s1, .string ⟨⟨l1⟩⟩, .bool s2, .string ⟨⟨l2⟩⟩, .bool s3, .string ⟨⟨l3⟩⟩, .bool s4, .string ⟨⟨l4⟩⟩]⟩] =>
    if l1.length ≤ 6 ∧ l2.length ≤ 6 ∧ l3.length ≤ 6 ∧ l4.length ≤ 6 ∧ ¬ (sv s1 l1 = 0 ∧ sv s2 l2 = 0 ∧ sv s3 l3 = 0) then some (.agg ⟨lE (sv s1 l1) (sv s2 l2) (sv s3 l3) (sv s4 l4)⟩) else none
  | _ => none
end Go.Eng
end
section
set_option linter.unusedVariables false
set_option linter.unusedSimpArgs false
set_option linter.unusedSectionVars false
set_option maxRecDepth 20000
namespace Go.Eng
open Go Go.Proofs Go.IntWalk
theorem ints_cons {cells : List Value} {z : Bool × List UInt8} {zs : List (Bool × List UInt8)} (h : ints cells = some (z :: zs)) : ∃ r, cells = .bool z.1 :: .string ⟨⟨z.2⟩⟩ :: r ∧ ints r = some zs := by
  unfold ints at h
  split at h
  · cases h
  · rename_i s l r
    rw [Option.map_eq_some_iff] at h
    obtain ⟨ys, h1, h2⟩ := h
    cases h2
    exact ⟨r, rfl, h1⟩
  · cases h
theorem ints_drop : ∀ (j : Nat) {cells : List Value} {zs : List (Bool × List UInt8)}, ints cells = some zs → j ≤ zs.length → ints (cells.drop (2 * j)) = some (zs.drop j)
  | 0, cells, zs, h, _ => h
  | j + 1, cells, zs, h, hj => by
    match zs, hj with
    | z :: zs, hj =>
      obtain ⟨r, rfl, hr⟩ := ints_cons h
      have := ints_drop j hr (by simpa using hj)
      rw [show 2 * (j + 1) = 2 * j + 2 by omega]
      simpa using this
theorem ints_four {cells : List Value} {zs : List (Bool × List UInt8)} (h : ints cells = some zs) {i : Nat} (hi : 4 * i + 4 ≤ zs.length) :
    ∃ s1 l1 s2 l2 s3 l3 s4 l4, zs.drop (4 * i) = (s1, l1) :: (s2, l2) :: (s3, l3) :: (s4, l4) :: zs.drop (4 * i + 4) ∧ i * 8 + 8 ≤ cells.length ∧
      (cells.drop (i * 8)).take 8 = [.bool s1, .string ⟨⟨l1⟩⟩, .bool s2, .string ⟨⟨l2⟩⟩, .bool s3, .string ⟨⟨l3⟩⟩, .bool s4, .string ⟨⟨l4⟩⟩] := by
  have hd := ints_drop (4 * i) h (by omega)
  have e : 2 * (4 * i) = i * 8 := by omega
  rw [e] at hd
  obtain ⟨⟨s1, l1⟩, h1⟩ : ∃ z, zs[4 * i]? = some z := ⟨_, List.getElem?_eq_getElem (by omega)⟩
  obtain ⟨⟨s2, l2⟩, h2⟩ : ∃ z, zs[4 * i + 1]? = some z := ⟨_, List.getElem?_eq_getElem (by omega)⟩
  obtain ⟨⟨s3, l3⟩, h3⟩ : ∃ z, zs[4 * i + 2]? = some z := ⟨_, List.getElem?_eq_getElem (by omega)⟩
  obtain ⟨⟨s4, l4⟩, h4⟩ : ∃ z, zs[4 * i + 3]? = some z := ⟨_, List.getElem?_eq_getElem (by omega)⟩
  have dr : ∀ (k : Nat) z, zs[k]? = some z → zs.drop k = z :: zs.drop (k + 1) := fun k z hk => by
    have := List.getElem?_eq_some_iff.1 hk
    obtain ⟨h5, h6⟩ := this
    rw [List.drop_eq_getElem_cons h5, h6]
  have hz : zs.drop (4 * i) = (s1, l1) :: (s2, l2) :: (s3, l3) :: (s4, l4) :: zs.drop (4 * i + 4) := by
    rw [dr _ _ h1, dr _ _ h2, dr _ _ h3, dr _ _ h4]
  rw [hz] at hd
  obtain ⟨r1, c1, d1⟩ := ints_cons hd
  obtain ⟨r2, c2, d2⟩ := ints_cons d1
  obtain ⟨r3, c3, d3⟩ := ints_cons d2
  obtain ⟨r4, c4, d4⟩ := ints_cons d3
  subst c2 c3 c4
  refine ⟨s1, l1, s2, l2, s3, l3, s4, l4, hz, ?_, by rw [c1]; rfl⟩
  have := congrArg List.length c1
  simp at this
  omega
def spLGreat : List Value → Heap → Option Value
  | [.slice (some ⟨k, 0, none⟩) len _], h => match hget h k with
    | some blk => match ints blk.cells with
      | some zs => if 4 * len ≤ zs.length ∧ len ≤ 1000 then some (.int .i64 (if (zs.take (4 * len)).all (fun z => decide (z.2.length ≤ 6)) = true then 0 else 1)) else none
      | none => none
    | none => none
  | _, _ => none
def c13 : ICode :=
  (.seq (.reg [⟨(some 2), none, (.mv (.c (.int .i64 0)))⟩])
  (.seq (.seq (.reg [⟨(some 5), none, (.mv (.t 0))⟩, ⟨(some 6), none, (.lensl (.t 5))⟩, ⟨(some 7), none, (.mv (.c (.int .i64 0)))⟩])
  (.block 0 (.loop (.seq (.reg [⟨(some 8), none, (.bin .lss (.t 7) (.t 6))⟩])
  (.seq (.cond (.t 8)
  .skip
  (.exit 0))
  (.seq (.block 1 (.seq (.reg [⟨(some 9), none, (.ixsl 8 (.t 5) (.t 7))⟩, ⟨(some 10), none, (.load true 8 (.t 9))⟩, ⟨(some 4), none, (.alloc 30 8 [(.bool false), (.string ⟨⟨[]⟩⟩), (.bool false), (.string ⟨⟨[]⟩⟩), (.bool false), (.string ⟨⟨[]⟩⟩), (.bool false), (.string ⟨⟨[]⟩⟩)])⟩, ⟨none, none, (.store 8 (.t 4) (.t 10))⟩])
  (.seq (.reg [⟨(some 11), none, (.faddr 0 (.t 4))⟩, ⟨(some 12), none, (.faddr 1 (.t 11))⟩, ⟨(some 13), none, (.load false 1 (.t 12))⟩, ⟨(some 14), none, (.lens (.t 13))⟩, ⟨(some 15), none, (.bin .gtr (.t 14) (.c (.int .i64 6)))⟩, ⟨(some 16), none, (.mv (.t 15))⟩, ⟨(some 17), (some (16, false)), (.faddr 2 (.t 4))⟩, ⟨(some 18), (some (16, false)), (.faddr 1 (.t 17))⟩, ⟨(some 19), (some (16, false)), (.load false 1 (.t 18))⟩, ⟨(some 20), (some (16, false)), (.lens (.t 19))⟩, ⟨(some 21), (some (16, false)), (.bin .gtr (.t 20) (.c (.int .i64 6)))⟩, ⟨(some 22), none, (.pick (.t 16) (.c (.bool true)) (.t 21))⟩, ⟨(some 23), none, (.mv (.t 22))⟩, ⟨(some 24), (some (23, false)), (.faddr 4 (.t 4))⟩, ⟨(some 25), (some (23, false)), (.faddr 1 (.t 24))⟩, ⟨(some 26), (some (23, false)), (.load false 1 (.t 25))⟩, ⟨(some 27), (some (23, false)), (.lens (.t 26))⟩, ⟨(some 28), (some (23, false)), (.bin .gtr (.t 27) (.c (.int .i64 6)))⟩, ⟨(some 29), none, (.pick (.t 23) (.c (.bool true)) (.t 28))⟩, ⟨(some 30), none, (.mv (.t 29))⟩, ⟨(some 31), (some (30, false)), (.faddr 6 (.t 4))⟩, ⟨(some 32), (some (30, false)), (.faddr 1 (.t 31))⟩, ⟨(some 33), (some (30, false)), (.load false 1 (.t 32))⟩, ⟨(some 34), (some (30, false)), (.lens (.t 33))⟩, ⟨(some 35), (some (30, false)), (.bin .gtr (.t 34) (.c (.int .i64 6)))⟩, ⟨(some 36), none, (.pick (.t 30) (.c (.bool true)) (.t 35))⟩])
  (.cond (.t 36)
  (.seq (.reg [⟨(some 2), none, (.mv (.c (.int .i64 1)))⟩])
  .ret)
  .skip))))
  (.reg [⟨(some 37), none, (.bin .add (.t 7) (.c (.int .i64 1)))⟩, ⟨(some 7), none, (.mv (.t 37))⟩])))))))
  (.seq (.reg [⟨(some 2), none, (.mv (.c (.int .i64 0)))⟩])
  .ret)))
theorem tr13 : trFun Tryz.prog 13 = some ⟨38, [.t 2], c13⟩ := by kernel_rfl
set_option maxHeartbeats 1000000 in
theorem ok_lGreat : SpecOK Tryz.prog 13 (rdS spLGreat) := by
  refine rd_run (env_nil _) mixed tr13 ?_ ?_
  · intro args h h' v hle e
    unfold spLGreat at e ⊢
    split at e
    · rename_i k len c
      split at e
      · rename_i blk hb
        simp only [hle _ _ hb]; exact e
      · cases e
    · cases e
  intro args v h N hG hN
  unfold spLGreat at hG
  split at hG
  case h_2 => cases hG
  rename_i k len c
  split at hG
  case h_2 => cases hG
  rename_i blk hb
  split at hG
  case h_2 => cases hG
  rename_i zs hz
  split at hG
  case isFalse => cases hG
  rename_i hl
  obtain ⟨hl1, hl2⟩ := hl
  cases hG
  have hk := hN _ _ hb
  refine ⟨by rfl, by simp, ?_⟩
  have tr : ∀ l : List UInt8, ¬ l.length ≤ 6 → ((l.length : Int) > 6) = True := fun l h => eq_true (by omega)
  have fl : ∀ l : List UInt8, l.length ≤ 6 → ((l.length : Int) > 6) = False := fun l h => eq_false (by omega)
  simp only [c13, initT, List.zipIdx_cons, List.zipIdx_nil, List.map_cons, List.map_nil, Nat.reduceAdd]
  simp only [↓R0, R1, rdL, rdH, isCall, istep, ibin, vcells, fillI, setR, flat, okCell, isBase, List.set, List.drop, List.take, List.append, bnds, bhi, blo, srcOf, simprocAttr, -Int.reduceAbs]
  refine lp_parts (fun n tm hp nx => ∃ (i : Nat), n + i = len ∧ tmget tm 5 = .slice (some ⟨k, 0, none⟩) len c ∧ tmget tm 6 = .int .i64 len ∧ tmget tm 7 = .int .i64 i ∧
      (zs.take (4 * i)).all (fun z => decide (z.2.length ≤ 6)) = true ∧ (∀ q, q < N → hget hp q = hget h q) ∧ nx = N + i) ?_ len
    ⟨0, by omega, ?_, ?_, ?_, rfl, fun q _ => rfl, rfl⟩
  · intro n tm hp nx ⟨i, hn, t5, t6, t7, hall, hh, hnx⟩
    rw [hnx]
    clear hnx nx
    by_cases c1 : i < len
    · obtain ⟨s1, l1, s2, l2, s3, l3, s4, l4, e1, e2, e3⟩ := ints_four hz (i := i) (by omega)
      have hbb : hget hp k = some blk := by rw [hh k hk]; exact hb
      have ei : IntKind.i64.wrap ((i : Int) + 1) = ((i + 1 : Nat) : Int) := by rw [i64_in _ (by omega)]; omega
      have hne : ¬ (N + i = k) := by omega
      have hlen : ∀ m, i < m → 4 * m ≤ zs.length → zs.take (4 * m) = zs.take (4 * i) ++ ((s1, l1) :: (s2, l2) :: (s3, l3) :: (s4, l4) :: (zs.drop (4 * i + 4)).take (4 * m - (4 * i + 4))) := by
        intro m hm hm2
        have : zs.take (4 * m) = zs.take (4 * i) ++ (zs.drop (4 * i)).take (4 * m - 4 * i) := by
          rw [← List.take_add, show 4 * i + (4 * m - 4 * i) = 4 * m by omega]
        rw [this, e1]
        obtain ⟨d, hd⟩ : ∃ d, 4 * m - 4 * i = d + 4 := ⟨4 * m - 4 * i - 4, by omega⟩
        rw [hd, show 4 * m - (4 * i + 4) = d by omega]
        rfl
      have htot := hlen len c1 hl1
      by_cases c2 : l1.length ≤ 6 ∧ l2.length ≤ 6 ∧ l3.length ≤ 6 ∧ l4.length ≤ 6
      · obtain ⟨q1, q2, q3, q4⟩ := c2
        have d1 := fl l1 q1
        have d2 := fl l2 q2
        have d3 := fl l3 q3
        have d4 := fl l4 q4
        simp only [↓R0, R1, rdL, rdH, isCall, istep, ibin, vcells, fillI, setR, flat, okCell, isBase, List.set, List.drop, List.take, List.append, bnds, bhi, blo, srcOf, simprocAttr, -Int.reduceAbs, t5, t6, t7, c1, hne, hbb, e2, e3, d1, d2, d3, d4, ei]
        refine ⟨n - 1, by omega, i + 1, by omega, rfl, ?_, ?_, rfl⟩
        · have := hlen (i + 1) (by omega) (by omega)
          rw [this]
          simp [hall, q1, q2, q3, q4, show 4 * (i + 1) - (4 * i + 4) = 0 by omega]
        · intro q hq
          simp only [if_neg (show ¬ N + i = q by omega)]
          exact hh q hq
      · have hbad : ¬ ((zs.take (4 * len)).all (fun z => decide (z.2.length ≤ 6)) = true) := by
          intro e
          rw [htot] at e
          simp only [List.all_append, List.all_cons, Bool.and_eq_true, decide_eq_true_eq] at e
          exact c2 ⟨e.2.1, e.2.2.1, e.2.2.2.1, e.2.2.2.2.1⟩
        rw [if_neg hbad]
        by_cases q1 : l1.length ≤ 6
        · have d1 := fl l1 q1
          by_cases q2 : l2.length ≤ 6
          · have d2 := fl l2 q2
            by_cases q3 : l3.length ≤ 6
            · have d3 := fl l3 q3
              have d4 := tr l4 (fun q4 => c2 ⟨q1, q2, q3, q4⟩)
              simp only [↓R0, R1, rdL, rdH, isCall, istep, ibin, vcells, fillI, setR, flat, okCell, isBase, List.set, List.drop, List.take, List.append, bnds, bhi, blo, srcOf, simprocAttr, -Int.reduceAbs, t5, t6, t7, c1, hne, hbb, e2, e3, d1, d2, d3, d4, Fin, isEnd, resL, res1, iE, rE]
              first | exact ⟨_, rfl, rfl, hh⟩ | exact ⟨_, rfl, rfl, fun k hk => by simp only [ne_nb hk, if_false]; exact hh k hk⟩
            · have d3 := tr l3 q3
              simp only [↓R0, R1, rdL, rdH, isCall, istep, ibin, vcells, fillI, setR, flat, okCell, isBase, List.set, List.drop, List.take, List.append, bnds, bhi, blo, srcOf, simprocAttr, -Int.reduceAbs, t5, t6, t7, c1, hne, hbb, e2, e3, d1, d2, d3, Fin, isEnd, resL, res1, iE, rE]
              first | exact ⟨_, rfl, rfl, hh⟩ | exact ⟨_, rfl, rfl, fun k hk => by simp only [ne_nb hk, if_false]; exact hh k hk⟩
          · have d2 := tr l2 q2
            simp only [↓R0, R1, rdL, rdH, isCall, istep, ibin, vcells, fillI, setR, flat, okCell, isBase, List.set, List.drop, List.take, List.append, bnds, bhi, blo, srcOf, simprocAttr, -Int.reduceAbs, t5, t6, t7, c1, hne, hbb, e2, e3, d1, d2, Fin, isEnd, resL, res1, iE, rE]
            first | exact ⟨_, rfl, rfl, hh⟩ | exact ⟨_, rfl, rfl, fun k hk => by simp only [ne_nb hk, if_false]; exact hh k hk⟩
        · have d1 := tr l1 q1
          simp only [↓R0, R1, rdL, rdH, isCall, istep, ibin, vcells, fillI, setR, flat, okCell, isBase, List.set, List.drop, List.take, List.append, bnds, bhi, blo, srcOf, simprocAttr, -Int.reduceAbs, t5, t6, t7, c1, hne, hbb, e2, e3, d1, Fin, isEnd, resL, res1, iE, rE]
          first | exact ⟨_, rfl, rfl, hh⟩ | exact ⟨_, rfl, rfl, fun k hk => by simp only [ne_nb hk, if_false]; exact hh k hk⟩
    · have ei : i = len := by omega
      subst ei
      rw [if_pos hall]
      simp only [↓R0, R1, rdL, rdH, isCall, istep, ibin, vcells, fillI, setR, flat, okCell, isBase, List.set, List.drop, List.take, List.append, bnds, bhi, blo, srcOf, simprocAttr, -Int.reduceAbs, t5, t6, t7, c1, Fin, isEnd, resL, res1, iE, rE]
      first | exact ⟨_, rfl, rfl, hh⟩ | exact ⟨_, rfl, rfl, fun k hk => by simp only [ne_nb hk, if_false]; exact hh k hk⟩
  · (first | (simp only [↓R0, R1, rdL, rdH, isCall, istep, ibin, vcells, fillI, setR, flat, okCell, isBase, List.set, List.drop, List.take, List.append, bnds, bhi, blo, srcOf, simprocAttr, -Int.reduceAbs]; done) | (simp only [↓R0, R1, rdL, rdH, isCall, istep, ibin, vcells, fillI, setR, flat, okCell, isBase, List.set, List.drop, List.take, List.append, bnds, bhi, blo, srcOf, simprocAttr, -Int.reduceAbs]; rfl) | rfl)
  · (first | (simp only [↓R0, R1, rdL, rdH, isCall, istep, ibin, vcells, fillI, setR, flat, okCell, isBase, List.set, List.drop, List.take, List.append, bnds, bhi, blo, srcOf, simprocAttr, -Int.reduceAbs]; done) | (simp only [↓R0, R1, rdL, rdH, isCall, istep, ibin, vcells, fillI, setR, flat, okCell, isBase, List.set, List.drop, List.take, List.append, bnds, bhi, blo, srcOf, simprocAttr, -Int.reduceAbs]; rfl) | rfl)
  · (first | (simp only [↓R0, R1, rdL, rdH, isCall, istep, ibin, vcells, fillI, setR, flat, okCell, isBase, List.set, List.drop, List.take, List.append, bnds, bhi, blo, srcOf, simprocAttr, -Int.reduceAbs]; done) | (simp only [↓R0, R1, rdL, rdH, isCall, istep, ibin, vcells, fillI, setR, flat, okCell, isBase, List.set, List.drop, List.take, List.append, bnds, bhi, blo, srcOf, simprocAttr, -Int.reduceAbs]; rfl) | rfl)
end Go.Eng
end
section
set_option linter.unusedVariables false
set_option linter.unusedSimpArgs false
set_option linter.unusedSectionVars false
set_option maxRecDepth 20000
namespace Go.Eng
open Go Go.Proofs Go.IntWalk
def cP (a b c d : Int) : List Value := [.bool (decide (a < 0)), .string ⟨⟨bl a.natAbs⟩⟩, .bool (decide (b < 0)), .string ⟨⟨bl b.natAbs⟩⟩, .bool (decide (c < 0)), .string ⟨⟨bl c.natAbs⟩⟩, .bool (decide (d < 0)), .string ⟨⟨bl d.natAbs⟩⟩]
structure PtOK (a b c d : Int) (k : Nat) : Prop where
  l1 : (bl a.natAbs).length ≤ k
  l2 : (bl b.natAbs).length ≤ k
  l3 : (bl c.natAbs).length ≤ k
  l4 : (bl d.natAbs).length ≤ k
  pos : 0 < d
theorem pE_can {x y z w : Int} {k : Nat} (h1 : (bl x.natAbs).length ≤ k) (h2 : (bl y.natAbs).length ≤ k) (h3 : (bl z.natAbs).length ≤ k) (h4 : (bl w.natAbs).length ≤ k) (hk : 1 ≤ k) :
    ∃ a b c d, pE x y z w = cP a b c d ∧ PtOK a b c d k :=
  ⟨_, _, _, _, rfl, pQ_len h1, pQ_len h2, pQ_len h3, pQ_len (pW_len h4 hk), pQ_pos ..⟩
theorem r4Norm_can {s1 l1 s2 l2 s3 l3 s4 l4} (h1 : List.length l1 ≤ 6) (h2 : List.length l2 ≤ 6) (h3 : List.length l3 ≤ 6) (h4 : List.length l4 ≤ 6) :
    ∃ a b c d, spR4Norm [.agg ⟨[.bool s1, .string ⟨⟨l1⟩⟩, .bool s2, .string ⟨⟨l2⟩⟩, .bool s3, .string ⟨⟨l3⟩⟩, .bool s4, .string ⟨⟨l4⟩⟩]⟩] = some (.agg ⟨cP a b c d⟩) ∧ PtOK a b c d 6 := by
  obtain ⟨a, b, c, d, e, h⟩ := pE_can (len_sv (s := s1) h1) (len_sv (s := s2) h2) (len_sv (s := s3) h3) (len_sv (s := s4) h4) (by omega)
  refine ⟨a, b, c, d, ?_, h⟩
  unfold spR4Norm
  simp only
  rw [if_pos ⟨by omega, by omega, by omega, by omega⟩, e]
theorem orient_at {a1 a2 a3 a4 b1 b2 b3 b4 c1 c2 c3 c4 d1 d2 d3 d4 : Int} {k : Nat} (ha : PtOK a1 a2 a3 a4 k) (hb : PtOK b1 b2 b3 b4 k) (hc : PtOK c1 c2 c3 c4 k) (hd : PtOK d1 d2 d3 d4 k) (hk : k ≤ 67108864) :
    spXOrient [.agg ⟨cP a1 a2 a3 a4⟩, .agg ⟨cP b1 b2 b3 b4⟩, .agg ⟨cP c1 c2 c3 c4⟩, .agg ⟨cP d1 d2 d3 d4⟩] = some (.int .i64 (dt4 a1 a2 a3 a4 b1 b2 b3 b4 c1 c2 c3 c4 d1 d2 d3 d4).sign) := by
  unfold spXOrient cP
  simp only [sv_can]
  have hn : a4 ≠ 0 := by have := ha.pos; omega
  have t := fun {n : Nat} (h : n ≤ k) => Nat.le_trans h hk
  rw [if_pos ⟨⟨t ha.l1, t ha.l2, t ha.l3, t ha.l4, t hb.l1, t hb.l2, t hb.l3, t hb.l4, t hc.l1, t hc.l2, t hc.l3, t hc.l4, t hd.l1, t hd.l2, t hd.l3, t hd.l4⟩, hn⟩]
theorem collin_at {a1 a2 a3 a4 b1 b2 b3 b4 c1 c2 c3 c4 : Int} {k : Nat} (ha : PtOK a1 a2 a3 a4 k) (hb : PtOK b1 b2 b3 b4 k) (hc : PtOK c1 c2 c3 c4 k) (hk : k ≤ 67108864) :
    spXCollin [.agg ⟨cP a1 a2 a3 a4⟩, .agg ⟨cP b1 b2 b3 b4⟩, .agg ⟨cP c1 c2 c3 c4⟩] = some (.bool (decide (flt a1 a2 a3 a4 b1 b2 b3 b4 c1 c2 c3 c4))) := by
  unfold spXCollin cP
  simp only [sv_can]
  have hn : a4 ≠ 0 := by have := ha.pos; omega
  have t := fun {n : Nat} (h : n ≤ k) => Nat.le_trans h hk
  rw [if_pos ⟨⟨t ha.l1, t ha.l2, t ha.l3, t ha.l4, t hb.l1, t hb.l2, t hb.l3, t hb.l4, t hc.l1, t hc.l2, t hc.l3, t hc.l4⟩, hn⟩]
theorem sign_lo (z : Int) : ¬ (z.sign < -1) ∧ ¬ (1 < z.sign) ∧ -1 ≤ z.sign ∧ z.sign ≤ 1 := by
  rcases Int.lt_trichotomy z 0 with h | h | h
  · rw [Int.sign_eq_neg_one_of_neg h]; decide
  · rw [h]; decide
  · rw [Int.sign_eq_one_of_pos h]; decide
end Go.Eng
end
section
set_option linter.unusedVariables false
set_option linter.unusedSimpArgs false
set_option linter.unusedSectionVars false
set_option maxRecDepth 20000
namespace Go.Eng
open Go Go.Proofs Go.IntWalk
theorem r6Orient_at {a1 a2 a3 a4 b1 b2 b3 b4 c1 c2 c3 c4 d1 d2 d3 d4 : Int} (ha : PtOK a1 a2 a3 a4 6) (hb : PtOK b1 b2 b3 b4 6) (hc : PtOK c1 c2 c3 c4 6) (hd : PtOK d1 d2 d3 d4 6) :
    spR6Orient [.agg ⟨cP a1 a2 a3 a4⟩, .agg ⟨cP b1 b2 b3 b4⟩, .agg ⟨cP c1 c2 c3 c4⟩, .agg ⟨cP d1 d2 d3 d4⟩] = some (.int .i64 (dt4 a1 a2 a3 a4 b1 b2 b3 b4 c1 c2 c3 c4 d1 d2 d3 d4).sign) := by
  unfold spR6Orient cP
  simp only [sv_can]
  have t := fun {n : Nat} (h : n ≤ 6) => (Nat.le_trans h (by omega) : n ≤ 65536)
  rw [if_pos ⟨⟨t ha.l1, t ha.l2, t ha.l3, t ha.l4, t hb.l1, t hb.l2, t hb.l3, t hb.l4, t hc.l1, t hc.l2, t hc.l3, t hc.l4, t hd.l1, t hd.l2, t hd.l3, t hd.l4⟩, ha.pos, hb.pos, hc.pos⟩]
theorem r6Straight_at {a1 a2 a3 a4 b1 b2 b3 b4 c1 c2 c3 c4 : Int} (ha : PtOK a1 a2 a3 a4 6) (hb : PtOK b1 b2 b3 b4 6) (hc : PtOK c1 c2 c3 c4 6) :
    spR6Straight [.agg ⟨cP a1 a2 a3 a4⟩, .agg ⟨cP b1 b2 b3 b4⟩, .agg ⟨cP c1 c2 c3 c4⟩] = some (.bool (decide (flt a1 a2 a3 a4 b1 b2 b3 b4 c1 c2 c3 c4))) := by
  unfold spR6Straight cP
  simp only [sv_can]
  have t := fun {n : Nat} (h : n ≤ 6) => (Nat.le_trans h (by omega) : n ≤ 65536)
  rw [if_pos ⟨⟨t ha.l1, t ha.l2, t ha.l3, t ha.l4, t hb.l1, t hb.l2, t hb.l3, t hb.l4, t hc.l1, t hc.l2, t hc.l3, t hc.l4⟩, ha.pos, hb.pos, hc.pos⟩]
theorem xBtw_at {a1 a2 a3 a4 b1 b2 b3 b4 c1 c2 c3 c4 : Int} (ha : PtOK a1 a2 a3 a4 6) (hb : PtOK b1 b2 b3 b4 6) (hc : PtOK c1 c2 c3 c4 6) :
    spXBtw [.agg ⟨cP a1 a2 a3 a4⟩, .agg ⟨cP b1 b2 b3 b4⟩, .agg ⟨cP c1 c2 c3 c4⟩] = some (.bool (decide (btw a1 a2 a3 a4 b1 b2 b3 b4 c1 c2 c3 c4))) := by
  unfold spXBtw cP
  simp only [sv_can]
  have t := fun {n : Nat} (h : n ≤ 6) => (Nat.le_trans h (by omega) : n ≤ 65536)
  rw [if_pos ⟨⟨t ha.l1, t ha.l2, t ha.l3, t ha.l4, t hb.l1, t hb.l2, t hb.l3, t hb.l4, t hc.l1, t hc.l2, t hc.l3, t hc.l4⟩, ha.pos, hb.pos, hc.pos⟩]
theorem r6Btw_at {a1 a2 a3 a4 b1 b2 b3 b4 c1 c2 c3 c4 : Int} (ha : PtOK a1 a2 a3 a4 6) (hb : PtOK b1 b2 b3 b4 6) (hc : PtOK c1 c2 c3 c4 6) :
    spR6Btw [.agg ⟨cP a1 a2 a3 a4⟩, .agg ⟨cP b1 b2 b3 b4⟩, .agg ⟨cP c1 c2 c3 c4⟩] = some (.bool (decide (btw a1 a2 a3 a4 b1 b2 b3 b4 c1 c2 c3 c4))) := by
  unfold spR6Btw cP
  simp only [sv_can]
  have t := fun {n : Nat} (h : n ≤ 6) => (Nat.le_trans h (by omega) : n ≤ 65536)
  rw [if_pos ⟨⟨t ha.l1, t ha.l2, t ha.l3, t ha.l4, t hb.l1, t hb.l2, t hb.l3, t hb.l4, t hc.l1, t hc.l2, t hc.l3, t hc.l4⟩, ha.pos, hb.pos, hc.pos⟩]
def spLPred : List Value → Option Value
  | [.agg ⟨[.bool s1, .string ⟨⟨l1⟩⟩, .bool s2, .string ⟨⟨l2⟩⟩, .bool s3, .string ⟨⟨l3⟩⟩, .bool s4, .string ⟨⟨l4⟩⟩, .bool t1, .string ⟨⟨m1⟩⟩, .bool t2, .string ⟨⟨m2⟩⟩, .bool t3, .string ⟨⟨m3⟩⟩, .bool t4, .string ⟨⟨m4⟩⟩, .bool u1, .string ⟨⟨o1⟩⟩, .bool u2, .string ⟨⟨o2⟩⟩, .bool u3, .string ⟨⟨o3⟩⟩, .bool u4, .string ⟨⟨o4⟩⟩, .bool y1, .string ⟨⟨z1⟩⟩, .bool y2, .string ⟨⟨z2⟩⟩, .bool y3, .string ⟨⟨z3⟩⟩, .bool y4, .string ⟨⟨z4⟩⟩]⟩] => some (.bool true)
  | _ => none
def c5 : ICode :=
  (.seq (.reg [⟨(some 1), none, (.box 38 32 (.t 0))⟩, ⟨(some 2), none, (.mv (.c (.bool false)))⟩])
  (.seq (.seq (.reg [⟨(some 7), none, (.slarr 4 8 (.t 1) none none)⟩, ⟨(some 8), none, (.call 13 [(.t 7)])⟩, ⟨(some 9), none, (.bin .gtr (.t 8) (.c (.int .i64 0)))⟩])
  (.cond (.t 9)
  (.seq (.reg [⟨(some 10), none, (.call 9 [])⟩, ⟨(some 2), none, (.mv (.t 10))⟩])
  .ret)
  .skip))
  (.seq (.dreg [⟨(some 11), none, [], (.ixarr 4 8 (.t 1) (.c (.int .i64 0)))⟩, ⟨(some 12), none, [], (.load true 8 (.t 11))⟩, ⟨(some 13), none, [], (.call 14 [(.t 12)])⟩, ⟨(some 14), none, [], (.ixarr 4 8 (.t 1) (.c (.int .i64 1)))⟩, ⟨(some 15), none, [2], (.load true 8 (.t 14))⟩, ⟨(some 16), none, [], (.call 14 [(.t 15)])⟩, ⟨(some 17), none, [], (.ixarr 4 8 (.t 1) (.c (.int .i64 2)))⟩, ⟨(some 18), none, [2, 5], (.load true 8 (.t 17))⟩, ⟨(some 19), none, [], (.call 14 [(.t 18)])⟩, ⟨(some 20), none, [], (.ixarr 4 8 (.t 1) (.c (.int .i64 3)))⟩, ⟨(some 21), none, [2, 5, 8], (.load true 8 (.t 20))⟩, ⟨(some 22), none, [], (.call 14 [(.t 21)])⟩, ⟨(some 3), none, [], (.alloc 30 8 [(.bool false), (.string ⟨⟨[]⟩⟩), (.bool false), (.string ⟨⟨[]⟩⟩), (.bool false), (.string ⟨⟨[]⟩⟩), (.bool false), (.string ⟨⟨[]⟩⟩)])⟩, ⟨(some 4), none, [], (.alloc 30 8 [(.bool false), (.string ⟨⟨[]⟩⟩), (.bool false), (.string ⟨⟨[]⟩⟩), (.bool false), (.string ⟨⟨[]⟩⟩), (.bool false), (.string ⟨⟨[]⟩⟩)])⟩, ⟨(some 5), none, [], (.alloc 30 8 [(.bool false), (.string ⟨⟨[]⟩⟩), (.bool false), (.string ⟨⟨[]⟩⟩), (.bool false), (.string ⟨⟨[]⟩⟩), (.bool false), (.string ⟨⟨[]⟩⟩)])⟩, ⟨(some 6), none, [], (.alloc 30 8 [(.bool false), (.string ⟨⟨[]⟩⟩), (.bool false), (.string ⟨⟨[]⟩⟩), (.bool false), (.string ⟨⟨[]⟩⟩), (.bool false), (.string ⟨⟨[]⟩⟩)])⟩, ⟨none, none, [], (.store 8 (.t 3) (.t 13))⟩, ⟨none, none, [], (.store 8 (.t 4) (.t 16))⟩, ⟨none, none, [], (.store 8 (.t 5) (.t 19))⟩, ⟨none, none, [], (.store 8 (.t 6) (.t 22))⟩])
  (.seq (.dreg [⟨(some 23), none, [], (.call 9 [])⟩, ⟨(some 24), none, [], (.mv (.t 23))⟩, ⟨(some 25), (some (24, true)), [], (.load true 8 (.t 3))⟩, ⟨(some 26), (some (24, true)), [], (.load true 8 (.t 4))⟩, ⟨(some 27), (some (24, true)), [], (.load true 8 (.t 5))⟩, ⟨(some 28), (some (24, true)), [], (.load true 8 (.t 6))⟩, ⟨(some 29), (some (24, true)), [], (.call 17 [(.t 25), (.t 26), (.t 27), (.t 28)])⟩, ⟨(some 30), (some (24, true)), [6], (.load true 8 (.t 3))⟩, ⟨(some 31), (some (24, true)), [6], (.load true 8 (.t 4))⟩, ⟨(some 32), (some (24, true)), [6], (.load true 8 (.t 5))⟩, ⟨(some 33), (some (24, true)), [6], (.load true 8 (.t 6))⟩, ⟨(some 34), (some (24, true)), [], (.call 18 [(.t 30), (.t 31), (.t 32), (.t 33)])⟩, ⟨(some 35), (some (24, true)), [], (.bin .eql (.t 29) (.t 34))⟩, ⟨(some 36), none, [], (.pick (.t 24) (.t 35) (.c (.bool false)))⟩, ⟨(some 37), none, [], (.mv (.t 36))⟩, ⟨(some 38), (some (37, true)), [], (.load true 8 (.t 3))⟩, ⟨(some 39), (some (37, true)), [], (.load true 8 (.t 4))⟩, ⟨(some 40), (some (37, true)), [], (.load true 8 (.t 5))⟩, ⟨(some 41), (some (37, true)), [], (.call 19 [(.t 38), (.t 39), (.t 40)])⟩, ⟨(some 42), (some (37, true)), [18], (.load true 8 (.t 3))⟩, ⟨(some 43), (some (37, true)), [18], (.load true 8 (.t 4))⟩, ⟨(some 44), (some (37, true)), [18], (.load true 8 (.t 5))⟩, ⟨(some 45), (some (37, true)), [], (.call 20 [(.t 42), (.t 43), (.t 44)])⟩, ⟨(some 46), (some (37, true)), [], (.eqb false (.t 41) (.t 45))⟩, ⟨(some 47), none, [], (.pick (.t 37) (.t 46) (.c (.bool false)))⟩, ⟨(some 48), none, [], (.mv (.t 47))⟩, ⟨(some 49), (some (48, true)), [], (.load true 8 (.t 3))⟩, ⟨(some 50), (some (48, true)), [], (.load true 8 (.t 4))⟩, ⟨(some 51), (some (48, true)), [], (.load true 8 (.t 5))⟩, ⟨(some 52), (some (48, true)), [], (.call 21 [(.t 49), (.t 50), (.t 51)])⟩, ⟨(some 53), (some (48, true)), [29], (.load true 8 (.t 3))⟩, ⟨(some 54), (some (48, true)), [29], (.load true 8 (.t 4))⟩, ⟨(some 55), (some (48, true)), [29], (.load true 8 (.t 5))⟩, ⟨(some 56), (some (48, true)), [], (.call 22 [(.t 53), (.t 54), (.t 55)])⟩, ⟨(some 57), (some (48, true)), [], (.eqb false (.t 52) (.t 56))⟩, ⟨(some 58), none, [], (.pick (.t 48) (.t 57) (.c (.bool false)))⟩, ⟨(some 2), none, [], (.mv (.t 58))⟩])
  .ret))))
theorem tr5 : trFun Tryz.prog 5 = some ⟨59, [.t 2], c5⟩ := by kernel_rfl
set_option maxHeartbeats 8000000 in
theorem ok_lPred : SpecOK Tryz.prog 5 (flat spLPred) := by
  refine flat_run (env_cons ok_lGreat (env_cons ok_lFixed (env_cons ok_r4Norm (env_cons ok_xOrient (env_cons ok_r6Orient (env_cons ok_xCollin (env_cons ok_r6Straight (env_cons ok_xBtw (env_cons ok_r6Btw (env_nil _)))))))))) mixed tr5 ?_
  intro args v h N hG
  unfold spLPred at hG
  split at hG
  case h_2 => cases hG
  rename_i s1 l1 s2 l2 s3 l3 s4 l4 t1 m1 t2 m2 t3 m3 t4 m4 u1 o1 u2 o2 u3 o3 u4 o4 y1 z1 y2 z2 y3 z3 y4 z4
  cases hG
  refine ⟨rfl, by simp, ?_⟩
  simp only [c5, initT, List.zipIdx_cons, List.zipIdx_nil, List.map_cons, List.map_nil, Nat.reduceAdd]
  obtain ⟨Gq, eGq⟩ : ∃ g : Prop, g = ((List.all [(s1, l1), (s2, l2), (s3, l3), (s4, l4), (t1, m1), (t2, m2), (t3, m3), (t4, m4), (u1, o1), (u2, o2), (u3, o3), (u4, o4), (y1, z1), (y2, z2), (y3, z3), (y4, z4)] fun z => decide (z.2.length ≤ 6)) = true) := ⟨_, rfl⟩
  by_cases gq : Gq
  case neg =>
    have gq' : ¬ ((List.all [(s1, l1), (s2, l2), (s3, l3), (s4, l4), (t1, m1), (t2, m2), (t3, m3), (t4, m4), (u1, o1), (u2, o2), (u3, o3), (u4, o4), (y1, z1), (y2, z2), (y3, z3), (y4, z4)] fun z => decide (z.2.length ≤ 6)) = true) := eGq ▸ gq
    have gl : ∀ e h' b N', b = [.bool s1, .string ⟨⟨l1⟩⟩, .bool s2, .string ⟨⟨l2⟩⟩, .bool s3, .string ⟨⟨l3⟩⟩, .bool s4, .string ⟨⟨l4⟩⟩, .bool t1, .string ⟨⟨m1⟩⟩, .bool t2, .string ⟨⟨m2⟩⟩, .bool t3, .string ⟨⟨m3⟩⟩, .bool t4, .string ⟨⟨m4⟩⟩, .bool u1, .string ⟨⟨o1⟩⟩, .bool u2, .string ⟨⟨o2⟩⟩, .bool u3, .string ⟨⟨o3⟩⟩, .bool u4, .string ⟨⟨o4⟩⟩, .bool y1, .string ⟨⟨z1⟩⟩, .bool y2, .string ⟨⟨z2⟩⟩, .bool y3, .string ⟨⟨z3⟩⟩, .bool y4, .string ⟨⟨z4⟩⟩] → spLGreat [mkSl N' 0 8 4 0 4] ((N', some ⟨e, 32, true, b⟩) :: h') = some (.int .i64 1) := by
      intro e h' b N' eb
      subst eb
      have em : mkSl N' 0 8 4 0 4 = .slice (some ⟨N', 0, none⟩) 4 4 := by unfold mkSl; rw [if_neg (by decide)]
      rw [em]
      unfold spLGreat
      simp only [hget, if_true, ints, Option.map_some, Nat.reduceMul, List.length_cons, List.length_nil, List.take_succ_cons, List.take_zero]
      rw [if_pos (by decide)]
      simp only [gq', Bool.false_eq_true, if_false, if_true]
    have gl' := fun e h' N' => gl e h' _ N' rfl
    simp only [↓R0, R1, rdL, rdH, isCall, istep, ibin, vcells, fillI, setR, flat, okCell, isBase, List.set, List.drop, List.take, List.append, bnds, bhi, blo, srcOf, simprocAttr, -Int.reduceAbs, rdS, gl', spLFixed, Fin, isEnd, resL, res1, iE, rE]
    exact ⟨_, rfl, rfl, fun k hk => by simp only [ne_nb hk, if_false]⟩
  have gq' : (List.all [(s1, l1), (s2, l2), (s3, l3), (s4, l4), (t1, m1), (t2, m2), (t3, m3), (t4, m4), (u1, o1), (u2, o2), (u3, o3), (u4, o4), (y1, z1), (y2, z2), (y3, z3), (y4, z4)] fun z => decide (z.2.length ≤ 6)) = true := eGq ▸ gq
  have gl' : ∀ e h' N', spLGreat [mkSl N' 0 8 4 0 4] ((N', some ⟨e, 32, true, [.bool s1, .string ⟨⟨l1⟩⟩, .bool s2, .string ⟨⟨l2⟩⟩, .bool s3, .string ⟨⟨l3⟩⟩, .bool s4, .string ⟨⟨l4⟩⟩, .bool t1, .string ⟨⟨m1⟩⟩, .bool t2, .string ⟨⟨m2⟩⟩, .bool t3, .string ⟨⟨m3⟩⟩, .bool t4, .string ⟨⟨m4⟩⟩, .bool u1, .string ⟨⟨o1⟩⟩, .bool u2, .string ⟨⟨o2⟩⟩, .bool u3, .string ⟨⟨o3⟩⟩, .bool u4, .string ⟨⟨o4⟩⟩, .bool y1, .string ⟨⟨z1⟩⟩, .bool y2, .string ⟨⟨z2⟩⟩, .bool y3, .string ⟨⟨z3⟩⟩, .bool y4, .string ⟨⟨z4⟩⟩]⟩) :: h') = some (.int .i64 0) := by
    have gl : ∀ e h' b N', b = [.bool s1, .string ⟨⟨l1⟩⟩, .bool s2, .string ⟨⟨l2⟩⟩, .bool s3, .string ⟨⟨l3⟩⟩, .bool s4, .string ⟨⟨l4⟩⟩, .bool t1, .string ⟨⟨m1⟩⟩, .bool t2, .string ⟨⟨m2⟩⟩, .bool t3, .string ⟨⟨m3⟩⟩, .bool t4, .string ⟨⟨m4⟩⟩, .bool u1, .string ⟨⟨o1⟩⟩, .bool u2, .string ⟨⟨o2⟩⟩, .bool u3, .string ⟨⟨o3⟩⟩, .bool u4, .string ⟨⟨o4⟩⟩, .bool y1, .string ⟨⟨z1⟩⟩, .bool y2, .string ⟨⟨z2⟩⟩, .bool y3, .string ⟨⟨z3⟩⟩, .bool y4, .string ⟨⟨z4⟩⟩] → spLGreat [mkSl N' 0 8 4 0 4] ((N', some ⟨e, 32, true, b⟩) :: h') = some (.int .i64 0) := by
      intro e h' b N' eb
      subst eb
      have em : mkSl N' 0 8 4 0 4 = .slice (some ⟨N', 0, none⟩) 4 4 := by unfold mkSl; rw [if_neg (by decide)]
      rw [em]
      unfold spLGreat
      simp only [hget, if_true, ints, Option.map_some, Nat.reduceMul, List.length_cons, List.length_nil, List.take_succ_cons, List.take_zero]
      rw [if_pos (by decide)]
      simp only [gq', Bool.false_eq_true, if_false, if_true]
    have gl' := fun e h' N' => gl e h' _ N' rfl
    exact gl'
  simp only [List.all_cons, List.all_nil, Bool.and_true, Bool.and_eq_true, decide_eq_true_eq] at gq'
  obtain ⟨ha1, ha2, ha3, ha4, hb1, hb2, hb3, hb4, hc1, hc2, hc3, hc4, hd1, hd2, hd3, hd4⟩ := gq'
  obtain ⟨a1, a2, a3, a4, na, ka⟩ := r4Norm_can (s1 := s1) (s2 := s2) (s3 := s3) (s4 := s4) ha1 ha2 ha3 ha4
  obtain ⟨b1, b2, b3, b4, nb, kb⟩ := r4Norm_can (s1 := t1) (s2 := t2) (s3 := t3) (s4 := t4) hb1 hb2 hb3 hb4
  obtain ⟨c1, c2, c3, c4, nc, kc⟩ := r4Norm_can (s1 := u1) (s2 := u2) (s3 := u3) (s4 := u4) hc1 hc2 hc3 hc4
  obtain ⟨d1, d2, d3, d4, nd, kd⟩ := r4Norm_can (s1 := y1) (s2 := y2) (s3 := y3) (s4 := y4) hd1 hd2 hd3 hd4
  have fa := orient_at ka kb kc kd (by omega)
  have fb := r6Orient_at ka kb kc kd
  have fc := collin_at ka kb kc (by omega)
  have fd := r6Straight_at ka kb kc
  have fe := xBtw_at ka kb kc
  have ff := r6Btw_at ka kb kc
  generalize (dt4 a1 a2 a3 a4 b1 b2 b3 b4 c1 c2 c3 c4 d1 d2 d3 d4).sign = S at *
  generalize decide (flt a1 a2 a3 a4 b1 b2 b3 b4 c1 c2 c3 c4) = T at *
  generalize decide (btw a1 a2 a3 a4 b1 b2 b3 b4 c1 c2 c3 c4) = U at *
  unfold cP at *
  simp only [↓R0, R1, rdL, rdH, isCall, istep, ibin, vcells, fillI, setR, flat, okCell, isBase, List.set, List.drop, List.take, List.append, bnds, bhi, blo, srcOf, simprocAttr, -Int.reduceAbs, rdS, gl', na, nb, nc, nd, fa, fb, fc, fd, fe, ff, spLFixed, ceq, Fin, isEnd, resL, res1, iE, rE]
  exact ⟨_, rfl, rfl, fun k hk => by simp only [ne_nb hk, if_false]⟩
end Go.Eng
end
section
set_option linter.unusedVariables false
set_option linter.unusedSimpArgs false
set_option linter.unusedSectionVars false
namespace Go.Eng
def kmatch : List Kd → List Value → Prop
  | [], [] => True
  | .b :: ks, .bool _ :: r => kmatch ks r
  | .i :: ks, .int _ _ :: r => kmatch ks r
  | .s :: ks, .string _ :: r => kmatch ks r
  | _, _ => False
theorem kmatch_append : ∀ {ks ks' : List Kd} {cs cs' : List Value}, kmatch ks cs → kmatch ks' cs' → kmatch (ks ++ ks') (cs ++ cs')
  | [], _, [], _, _, h => h
  | [], _, _ :: _, _, h, _ => h.elim
  | .b :: ks, ks', cs, cs', h, h' => by
    match cs, h with
    | .bool _ :: r, h => exact kmatch_append (ks := ks) h h'
  | .i :: ks, ks', cs, cs', h, h' => by
    match cs, h with
    | .int _ _ :: r, h => exact kmatch_append (ks := ks) h h'
  | .s :: ks, ks', cs, cs', h, h' => by
    match cs, h with
    | .string _ :: r, h => exact kmatch_append (ks := ks) h h'
section
variable {H : Type} {enc : TypeId × Value → H} {P : Program}
theorem cellsOf_sz {t : TypeId} {n : Nat} (h : szOf P t = some n) : P.cellsOf t = n := by
  unfold Program.cellsOf; unfold szOf at h; rw [h]; rfl
def Plain (P : Program) (enc : TypeId × Value → H) (fuel : Nat) (t : TypeId) (ks : List Kd) : Prop :=
  ∀ (w : World) (base : Nat) (spare : Nat → Bool) (held : Bool) (cs : List Value) (x : DataW H × List MemPlace), DataW.trod enc P w base spare held fuel t cs = some x →
    kmatch ks cs ∧ x.2 = [] ∧ ∀ w' base' spare' held', DataW.trod enc P w' base' spare' held' fuel t cs = some x
theorem plain_fields {fuel : Nat} {ty : TypeId → Option (List Kd)} (hty : ∀ t ks n, ty t = some ks → szOf P t = some n → ks.length = n → Plain P enc fuel t ks) :
    ∀ (fs : List Field) (off : Nat) (ks : List Kd), flatFs ty P fs off = some ks → ∀ (w : World) (base : Nat) (spare : Nat → Bool) (held : Bool) (cs : List Value) (xs : List (DataW H × List MemPlace)),
      (fs.mapM fun f => DataW.trod enc P w base spare held fuel f.type ((cs.drop f.offset).take (P.cellsOf f.type))) = some xs → cs.length = off + ks.length →
      kmatch ks (cs.drop off) ∧ xs.flatMap (·.2) = [] ∧ ∀ w' base' spare' held', (fs.mapM fun f => DataW.trod enc P w' base' spare' held' fuel f.type ((cs.drop f.offset).take (P.cellsOf f.type))) = some xs
  | [], off, ks, h, w, base, spare, held, cs, xs, hm, hl => by
    simp only [flatFs, Option.some.injEq] at h
    subst h
    simp only [List.mapM_nil, Option.pure_def, Option.some.injEq] at hm
    subst hm
    simp only [List.length_nil, Nat.add_zero] at hl
    rw [List.drop_eq_nil_of_le (by omega)]
    exact ⟨trivial, rfl, fun _ _ _ _ => rfl⟩
  | f :: r, off, ks, h, w, base, spare, held, cs, xs, hm, hl => by
    simp only [flatFs] at h
    split at h
    case isFalse => cases h
    rename_i hc
    obtain ⟨_, hoff⟩ := hc
    split at h
    case h_2 => cases h
    rename_i ks0 n hk hn
    split at h
    case isFalse => cases h
    rename_i hlen
    rw [Option.map_eq_some_iff] at h
    obtain ⟨ks1, h1, rfl⟩ := h
    have hsz := cellsOf_sz hn
    simp only [List.mapM_cons, Option.bind_eq_bind, Option.bind_eq_some_iff, Option.pure_def, Option.some.injEq] at hm
    obtain ⟨y, hy, ys, hys, rfl⟩ := hm
    have hp := hty f.type ks0 n hk hn hlen w base spare held _ y hy
    obtain ⟨p1, p2, p3⟩ := hp
    simp only [List.length_append] at hl
    obtain ⟨q1, q2, q3⟩ := plain_fields hty r (off + n) ks1 h1 w base spare held cs ys hys (by omega)
    rw [hoff, hsz] at p1
    refine ⟨?_, ?_, ?_⟩
    · have e : cs.drop off = (cs.drop off).take n ++ cs.drop (off + n) := by
        rw [← List.drop_drop, List.take_append_drop]
      rw [e]
      exact kmatch_append p1 q1
    · simp only [List.flatMap_cons, p2, q2, List.nil_append]
    · intro w' base' spare' held'
      simp only [List.mapM_cons, Option.bind_eq_bind, Option.bind_eq_some_iff, Option.pure_def, Option.some.injEq]
      exact ⟨y, p3 w' base' spare' held', ys, q3 w' base' spare' held', rfl⟩
theorem plain_elems {fuel : Nat} {e : TypeId} {ks : List Kd} {n : Nat} (hn : szOf P e = some n) (hl : ks.length = n) (he : Plain P enc fuel e ks) :
    ∀ (m i0 : Nat) (w : World) (base : Nat) (spare : Nat → Bool) (held : Bool) (cs : List Value) (xs : List (DataW H × List MemPlace)),
      ((List.range' i0 m).mapM fun i => DataW.trod enc P w base spare held fuel e ((cs.drop (i * P.cellsOf e)).take (P.cellsOf e))) = some xs → cs.length = (i0 + m) * n →
      kmatch (List.replicate m ks).flatten (cs.drop (i0 * n)) ∧ xs.flatMap (·.2) = [] ∧ ∀ w' base' spare' held', ((List.range' i0 m).mapM fun i => DataW.trod enc P w' base' spare' held' fuel e ((cs.drop (i * P.cellsOf e)).take (P.cellsOf e))) = some xs
  | 0, i0, w, base, spare, held, cs, xs, hm, hlen => by
    simp only [List.range'_zero, List.mapM_nil, Option.pure_def, Option.some.injEq] at hm
    subst hm
    simp only [Nat.add_zero] at hlen
    rw [List.drop_eq_nil_of_le (by omega)]
    exact ⟨trivial, rfl, fun _ _ _ _ => by simp⟩
  | m + 1, i0, w, base, spare, held, cs, xs, hm, hlen => by
    have hsz := cellsOf_sz hn
    simp only [List.range'_succ, List.mapM_cons, Option.bind_eq_bind, Option.bind_eq_some_iff, Option.pure_def, Option.some.injEq] at hm
    obtain ⟨y, hy, ys, hys, rfl⟩ := hm
    obtain ⟨p1, p2, p3⟩ := he w base spare held _ y hy
    obtain ⟨q1, q2, q3⟩ := plain_elems hn hl he m (i0 + 1) w base spare held cs ys hys (by rw [hlen]; congr 1; omega)
    rw [hsz] at p1
    refine ⟨?_, ?_, ?_⟩
    · rw [List.replicate_succ, List.flatten_cons]
      have e : cs.drop (i0 * n) = (cs.drop (i0 * n)).take n ++ cs.drop ((i0 + 1) * n) := by
        rw [Nat.succ_mul, ← List.drop_drop, List.take_append_drop]
      rw [e]
      exact kmatch_append p1 q1
    · simp only [List.flatMap_cons, p2, q2, List.nil_append]
    · intro w' base' spare' held'
      simp only [List.range'_succ, List.mapM_cons, Option.bind_eq_bind, Option.bind_eq_some_iff, Option.pure_def, Option.some.injEq]
      exact ⟨y, p3 w' base' spare' held', ys, q3 w' base' spare' held', rfl⟩
theorem plain_ty : ∀ (fuel d : Nat) (t : TypeId) (ks : List Kd) (n : Nat), flatTy P d t = some ks → szOf P t = some n → ks.length = n → Plain P enc fuel t ks
  | 0, d, t, ks, n, h, hn, hl => by intro w base spare held cs x hx; simp [DataW.trod] at hx
  | fuel + 1, 0, t, ks, n, h, hn, hl => by simp [flatTy] at h
  | fuel + 1, d + 1, t, ks, n, h, hn, hl => by
    intro w base spare held cs x hx
    unfold flatTy at h
    unfold DataW.trod at hx ⊢
    split at h
    · rename_i hu
      cases h
      rw [hu] at hx ⊢
      match cs, hx with
      | [.bool b], hx => simp only [Option.some.injEq] at hx; subst hx; exact ⟨trivial, rfl, fun _ _ _ _ => rfl⟩
    · rename_i k hu
      cases h
      rw [hu] at hx ⊢
      match cs, hx with
      | [.int k' m], hx =>
        simp only at hx
        split at hx
        · rename_i hc
          simp only [Option.some.injEq] at hx; subst hx
          exact ⟨trivial, rfl, fun _ _ _ _ => by simp only; rw [if_pos hc]⟩
        · cases hx
    · rename_i hu
      cases h
      rw [hu] at hx ⊢
      match cs, hx with
      | [.string s], hx =>
        simp only at hx
        split at hx
        · rename_i hc
          simp only [Option.some.injEq] at hx; subst hx
          exact ⟨trivial, rfl, fun _ _ _ _ => by simp only; rw [if_pos hc]⟩
        · cases hx
    · rename_i fs hu
      split at h
      · cases h
      rw [hu] at hx ⊢
      simp only at hx ⊢
      split at hx
      case isFalse => cases hx
      rename_i hlen
      rw [Option.map_eq_some_iff] at hx
      obtain ⟨xs, hxs, rfl⟩ := hx
      rw [cellsOf_sz hn, ← hl] at hlen
      obtain ⟨p1, p2, p3⟩ := plain_fields (fuel := fuel) (fun t ks n h1 h2 h3 => plain_ty fuel d t ks n h1 h2 h3) fs.toList 0 ks h w base spare held cs xs hxs (by omega)
      refine ⟨by simpa using p1, p2, fun w' base' spare' held' => ?_⟩
      rw [if_pos (by rw [cellsOf_sz hn, ← hl, hlen]), p3]; rfl
    · rename_i len e hu
      split at h
      case h_2 => cases h
      rename_i ks0 m hk hm
      split at h
      case isFalse => cases h
      rename_i hlm
      simp only [Option.some.injEq] at h
      subst h
      rw [hu] at hx ⊢
      simp only at hx ⊢
      split at hx
      case isFalse => cases hx
      rename_i hlen
      rw [Option.map_eq_some_iff] at hx
      obtain ⟨xs, hxs, rfl⟩ := hx
      rw [cellsOf_sz hn, ← hl] at hlen
      rw [List.range_eq_range'] at hxs
      have hfl : ((List.replicate len ks0).flatten).length = len * m := by rw [List.length_flatten]; simp [hlm]
      obtain ⟨p1, p2, p3⟩ := plain_elems hm hlm (plain_ty fuel d e ks0 m hk hm hlm) len 0 w base spare held cs xs hxs (by rw [hlen, hfl, Nat.zero_add])
      refine ⟨by simpa using p1, p2, fun w' base' spare' held' => ?_⟩
      rw [if_pos (by rw [cellsOf_sz hn, ← hl, hlen]), List.range_eq_range', p3]; rfl
    · cases h
theorem trod_plain {w : World} {t : TypeId} {v : Value} {d : DataW H} {ps : List MemPlace} {ks : List Kd} {n : Nat} {base : Nat} {spare : Nat → Bool} {held : Bool}
    (hf : flatTy P 20 t = some ks) (hs : szOf P t = some n) (hl : ks.length = n) (h : DataW.Trod enc P w base spare held t v d ps) :
    kmatch ks v.cells.toList ∧ ps = [] ∧ ∀ w' base' spare' held', DataW.Trod enc P w' base' spare' held' t v d ps := by
  obtain ⟨fuel, h⟩ := h
  obtain ⟨p1, p2, p3⟩ := plain_ty fuel 20 t ks n hf hs hl w base spare held _ _ h
  exact ⟨p1, p2, fun w' base' spare' held' => ⟨fuel, p3 w' base' spare' held'⟩⟩
end
theorem agg_of {v : Value} {cs : List Value} (h : v.cells.toList = cs) (h2 : 2 ≤ cs.length) : v = .agg ⟨cs⟩ := by
  rw [vcells_eq] at h
  cases v <;> simp [vcells] at h <;> subst h <;> first | rfl | simp at h2
theorem flat_calls {P : Program} {f : Nat} {G : List Value → Option Value} (hS : SpecOK P f (flat G)) {args : List Value} {v : Value} (hG : G args = some v) (ha : ∀ β, VRs β args args) (hv : isBase v = true) (w : World) :
    Calls P f ⟨args⟩ w fun e w' => e = .returned v ∧ w.keptBut w' (fun _ => False) := by
  have h := hS.ok args [] 0 (v, [], 0) (by simp [flat, hG]) (fun _ => none) w args (ha _)
    ⟨fun k b e => by simp [hget] at e, fun k k' L L' e => by simp [hget] at e, fun k L e => by cases e⟩ (fun _ _ _ => rfl) ⟨0, fun k e => absurd rfl e⟩
  refine h.mono ?_
  rintro e w' ⟨β', v', he, hvr, hrel, hfr, _⟩
  refine ⟨?_, hfr.os, hfr.out, fun i hi => ?_⟩
  · rw [he, hvr.base_left hv]
  · rw [hfr.keep i hi (fun k L hk => by simp [hget] at hk)]
    cases w.heap[i]? with
    | none => rfl
    | some o =>
      cases o with
      | cells c t fr => exact ⟨rfl, rfl, rfl, fun _ _ => rfl⟩
      | map es cl => exact .inr ⟨rfl, rfl⟩
      | _ => rfl
end Go.Eng
end
