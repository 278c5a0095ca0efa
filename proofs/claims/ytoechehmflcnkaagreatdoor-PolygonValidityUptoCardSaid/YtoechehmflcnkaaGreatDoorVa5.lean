/-
  A part of the proof: the machine, the contracts of the functions and the plain laws, merged from smaller texts.
-/
import Derived.Test.YtoechehmflcnkaaGreatDoorVa4
import Derived.RowKit3
import Derived.ChangeSame
import Derived.ReadAgain
import Derived.Deep.Slices
section
set_option linter.unusedVariables false
set_option linter.unusedSimpArgs false
set_option linter.unusedSectionVars false
set_option maxRecDepth 8000
namespace Go.Eng
open Go Go.Proofs Go.IntWalk
theorem sv_zero' : sv false (bl 0) = 0 := by rw [sv_false, nl_bl]; rfl
theorem sv_one' : sv false (bl (Int.natAbs 1)) = 1 := by rw [sv_false, nl_bl]; rfl
def spQNeg : List Value → Option Value
  | [.agg ⟨[.bool s, .string ⟨⟨n⟩⟩, .string ⟨⟨d⟩⟩]⟩] => if n.length ≤ 17179869184 ∧ d.length ≤ 17179869184 then some (.agg ⟨rE (- rv s n d)⟩) else none
  | _ => none
def c101 : ICode :=
  (.seq (.reg [qq 1 (.box 49 3 (.t 0)), qq 2 (.alloc 49 3 [(.bool false), e0, e0])]) (.seq (.reg [qq 6 (.load true 3 (.t 1)), qq 7 (.call 99 [(.t 6)]), qq 5 (.mv (.t 7)), qq 8 (.ext (.t 5) 0), qq 9 (.ext (.t 5) 1), qq 3 (.alloc 23 2 [(.bool false), e0]), qq 4 (.alloc 23 2 [(.bool false), e0]), qn (.store 2 (.t 3) (.t 8)), qn (.store 2 (.t 4) (.t 9))]) (.seq (.dreg [qu 10 (.load true 2 (.t 3)), qu 11 (.call 47 [(.t 10)]), qv 12 [1] (.load true 2 (.t 4)), qu 13 (.call 100 [(.t 11), (.t 12)]), qm (.store 3 (.t 2) (.t 13))]) .ret)))
theorem tr101 : trFun Tryz.prog 101 = some ⟨14, [.cell 2 true 3], c101⟩ := by kernel_rfl
theorem ok_qNeg : SpecOK Tryz.prog 101 (flat spQNeg) := by
  refine flat_run (env_cons ok_qParts (env_cons ok_iNeg (env_cons ok_qMade (env_nil _)))) mixed tr101 ?_
  intro args v h N hG
  unfold spQNeg at hG
  split at hG
  case h_2 => cases hG
  rename_i s n d
  split at hG
  case isFalse => cases hG
  rename_i hl
  obtain ⟨h1, h2⟩ := hl
  cases hG
  refine ⟨rfl, by simp, ?_⟩
  have n2 : n.length ≤ 1099511627776 := by omega
  have d2 : d.length ≤ 1099511627776 := by omega
  have n3 : (bl (sv s n).natAbs).length ≤ 1099511627776 := by rw [sv_natAbs]; exact Nat.le_trans (bl_length_nl n) (by omega)
  have n4 : (bl (-sv s n).natAbs).length ≤ 34359738368 := by rw [Int.natAbs_neg, sv_natAbs]; exact Nat.le_trans (bl_length_nl n) (by omega)
  have d3 : (bl (dv d).natAbs).length ≤ 34359738368 := Nat.le_trans (bl_dv d) (by omega)
  have d4 := dv_nl d
  unfold rv
  rw [Rat.neg_divInt]
  simp only [c101, G0, Nat.reduceAdd]
  simp only [↓R0, R1, simprocAttr, -Int.reduceAbs, spQParts, spINeg, spQMade, n2, d2, n3, n4, d3, d4, iE, nl_bl, Fin, isEnd, resL, res1, iE, rE]
  exact ⟨_, rfl, rfl, fun k hk => by simp only [ne_nb hk, if_false]⟩
def spQAdd : List Value → Option Value
  | [.agg ⟨[.bool s, .string ⟨⟨n⟩⟩, .string ⟨⟨d⟩⟩]⟩, .agg ⟨[.bool t, .string ⟨⟨m⟩⟩, .string ⟨⟨e⟩⟩]⟩] => if n.length ≤ 8589934592 ∧ d.length ≤ 8589934592 ∧ m.length ≤ 8589934592 ∧ e.length ≤ 8589934592 then some (.agg ⟨rE (rv s n d + rv t m e)⟩) else none
  | _ => none
def c56 : ICode :=
  (.seq (.reg [qq 2 (.box 49 3 (.t 0)), qq 3 (.box 49 3 (.t 1)), qq 4 (.alloc 49 3 [(.bool false), e0, e0])]) (.seq (.reg [qq 10 (.load true 3 (.t 2)), qq 11 (.call 99 [(.t 10)]), qq 9 (.mv (.t 11)), qq 12 (.ext (.t 9) 0), qq 13 (.ext (.t 9) 1), qq 5 (.alloc 23 2 [(.bool false), e0]), qq 6 (.alloc 23 2 [(.bool false), e0]), qn (.store 2 (.t 5) (.t 12)), qn (.store 2 (.t 6) (.t 13))]) (.seq (.reg [qq 15 (.load true 3 (.t 3)), qq 16 (.call 99 [(.t 15)]), qq 14 (.mv (.t 16)), qq 17 (.ext (.t 14) 0), qq 18 (.ext (.t 14) 1), qq 7 (.alloc 23 2 [(.bool false), e0]), qq 8 (.alloc 23 2 [(.bool false), e0]), qn (.store 2 (.t 7) (.t 17)), qn (.store 2 (.t 8) (.t 18))]) (.seq (.dreg [qu 19 (.load true 2 (.t 5)), qu 20 (.load true 2 (.t 8)), qu 21 (.call 50 [(.t 19), (.t 20)]), qv 22 [2] (.load true 2 (.t 7)), qv 23 [2] (.load true 2 (.t 6)), qu 24 (.call 50 [(.t 22), (.t 23)]), qu 25 (.call 49 [(.t 21), (.t 24)]), qv 26 [2, 5, 6] (.load true 2 (.t 6)), qv 27 [2, 5, 6] (.load true 2 (.t 8)), qu 28 (.call 50 [(.t 26), (.t 27)]), qu 29 (.call 100 [(.t 25), (.t 28)]), qm (.store 3 (.t 4) (.t 29))]) .ret))))
theorem tr56 : trFun Tryz.prog 56 = some ⟨30, [.cell 4 true 3], c56⟩ := by kernel_rfl
theorem ok_qAdd : SpecOK Tryz.prog 56 (flat spQAdd) := by
  refine flat_run (env_cons ok_qParts (env_cons ok_iMul (env_cons ok_iAdd (env_cons ok_qMade (env_nil _))))) mixed tr56 ?_
  intro args v h N hG
  unfold spQAdd at hG
  split at hG
  case h_2 => cases hG
  rename_i s n d t m e
  split at hG
  case isFalse => cases hG
  rename_i hl
  obtain ⟨h1, h2, h3, h4⟩ := hl
  have n2 : n.length ≤ 1099511627776 := by omega
  have d2 : d.length ≤ 1099511627776 := by omega
  have m2 : m.length ≤ 1099511627776 := by omega
  have e2 : e.length ≤ 1099511627776 := by omega
  have n3 := len_sv (s := s) h1
  have m3 := len_sv (s := t) h3
  have d3 : (bl (dv d).natAbs).length ≤ 8589934593 := len_dv (by omega)
  have e3 : (bl (dv e).natAbs).length ≤ 8589934593 := len_dv (by omega)
  have n4 := Nat.le_trans n3 (by omega : 8589934592 ≤ 34359738368)
  have m4 := Nat.le_trans m3 (by omega : 8589934592 ≤ 34359738368)
  have d4 := Nat.le_trans d3 (by omega : 8589934593 ≤ 34359738368)
  have e4 := Nat.le_trans e3 (by omega : 8589934593 ≤ 34359738368)
  have q1 := len_mul n3 e3
  have q2 := len_mul m3 d3
  have q3 : (bl (dv d * dv e).natAbs).length ≤ 34359738368 := Nat.le_trans (len_mul d3 e3) (by omega)
  have q4 : ¬ (dv d * dv e).natAbs = 0 := by have := Int.mul_pos (dv_pos d) (dv_pos e); omega
  have q5 : (bl (sv s n * dv e + sv t m * dv d).natAbs).length ≤ 34359738368 := Nat.le_trans (len_add q1 q2) (by omega)
  have q6 : (bl (sv s n * dv e).natAbs).length ≤ 68719476736 := Nat.le_trans q1 (by omega)
  have q7 : (bl (sv t m * dv d).natAbs).length ≤ 68719476736 := Nat.le_trans q2 (by omega)
  unfold rv at hG
  rw [Rat.divInt_add_divInt _ _ (by have := dv_pos d; omega) (by have := dv_pos e; omega)] at hG
  cases hG
  refine ⟨rfl, by simp, ?_⟩
  simp only [c56, G0, Nat.reduceAdd]
  simp only [↓R0, R1, simprocAttr, -Int.reduceAbs, spQParts, spIMul, spIAdd, spQMade, n2, d2, m2, e2, n4, m4, d4, e4, q3, q4, q5, q6, q7, nl_bl, Fin, isEnd, resL, res1, iE, rE]
  exact ⟨_, rfl, rfl, fun k hk => by simp only [ne_nb hk, if_false]⟩
def spQMul : List Value → Option Value
  | [.agg ⟨[.bool s, .string ⟨⟨n⟩⟩, .string ⟨⟨d⟩⟩]⟩, .agg ⟨[.bool t, .string ⟨⟨m⟩⟩, .string ⟨⟨e⟩⟩]⟩] => if n.length ≤ 8589934592 ∧ d.length ≤ 8589934592 ∧ m.length ≤ 8589934592 ∧ e.length ≤ 8589934592 then some (.agg ⟨rE (rv s n d * rv t m e)⟩) else none
  | _ => none
def c58 : ICode :=
  (.seq (.reg [qq 2 (.box 49 3 (.t 0)), qq 3 (.box 49 3 (.t 1)), qq 4 (.alloc 49 3 [(.bool false), e0, e0])]) (.seq (.reg [qq 10 (.load true 3 (.t 2)), qq 11 (.call 99 [(.t 10)]), qq 9 (.mv (.t 11)), qq 12 (.ext (.t 9) 0), qq 13 (.ext (.t 9) 1), qq 5 (.alloc 23 2 [(.bool false), e0]), qq 6 (.alloc 23 2 [(.bool false), e0]), qn (.store 2 (.t 5) (.t 12)), qn (.store 2 (.t 6) (.t 13))]) (.seq (.reg [qq 15 (.load true 3 (.t 3)), qq 16 (.call 99 [(.t 15)]), qq 14 (.mv (.t 16)), qq 17 (.ext (.t 14) 0), qq 18 (.ext (.t 14) 1), qq 7 (.alloc 23 2 [(.bool false), e0]), qq 8 (.alloc 23 2 [(.bool false), e0]), qn (.store 2 (.t 7) (.t 17)), qn (.store 2 (.t 8) (.t 18))]) (.seq (.dreg [qu 19 (.load true 2 (.t 5)), qu 20 (.load true 2 (.t 7)), qu 21 (.call 50 [(.t 19), (.t 20)]), qv 22 [2] (.load true 2 (.t 6)), qv 23 [2] (.load true 2 (.t 8)), qu 24 (.call 50 [(.t 22), (.t 23)]), qu 25 (.call 100 [(.t 21), (.t 24)]), qm (.store 3 (.t 4) (.t 25))]) .ret))))
theorem tr58 : trFun Tryz.prog 58 = some ⟨26, [.cell 4 true 3], c58⟩ := by kernel_rfl
theorem ok_qMul : SpecOK Tryz.prog 58 (flat spQMul) := by
  refine flat_run (env_cons ok_qParts (env_cons ok_iMul (env_cons ok_qMade (env_nil _)))) mixed tr58 ?_
  intro args v h N hG
  unfold spQMul at hG
  split at hG
  case h_2 => cases hG
  rename_i s n d t m e
  split at hG
  case isFalse => cases hG
  rename_i hl
  obtain ⟨h1, h2, h3, h4⟩ := hl
  have n2 : n.length ≤ 1099511627776 := by omega
  have d2 : d.length ≤ 1099511627776 := by omega
  have m2 : m.length ≤ 1099511627776 := by omega
  have e2 : e.length ≤ 1099511627776 := by omega
  have n3 := len_sv (s := s) h1
  have m3 := len_sv (s := t) h3
  have d3 : (bl (dv d).natAbs).length ≤ 8589934593 := len_dv (by omega)
  have e3 : (bl (dv e).natAbs).length ≤ 8589934593 := len_dv (by omega)
  have n4 := Nat.le_trans n3 (by omega : 8589934592 ≤ 34359738368)
  have m4 := Nat.le_trans m3 (by omega : 8589934592 ≤ 34359738368)
  have d4 := Nat.le_trans d3 (by omega : 8589934593 ≤ 34359738368)
  have e4 := Nat.le_trans e3 (by omega : 8589934593 ≤ 34359738368)
  have q1 : (bl (sv s n * sv t m).natAbs).length ≤ 34359738368 := Nat.le_trans (len_mul n3 m3) (by omega)
  have q3 : (bl (dv d * dv e).natAbs).length ≤ 34359738368 := Nat.le_trans (len_mul d3 e3) (by omega)
  have q4 : ¬ (dv d * dv e).natAbs = 0 := by have := Int.mul_pos (dv_pos d) (dv_pos e); omega
  unfold rv at hG
  rw [Rat.divInt_mul_divInt] at hG
  cases hG
  refine ⟨rfl, by simp, ?_⟩
  simp only [c58, G0, Nat.reduceAdd]
  simp only [↓R0, R1, simprocAttr, -Int.reduceAbs, spQParts, spIMul, spQMade, n2, d2, m2, e2, n4, m4, d4, e4, q1, q3, q4, nl_bl, Fin, isEnd, resL, res1, iE, rE]
  exact ⟨_, rfl, rfl, fun k hk => by simp only [ne_nb hk, if_false]⟩
def spQDiv : List Value → Option Value
  | [.agg ⟨[.bool s, .string ⟨⟨n⟩⟩, .string ⟨⟨d⟩⟩]⟩, .agg ⟨[.bool t, .string ⟨⟨m⟩⟩, .string ⟨⟨e⟩⟩]⟩] => if n.length ≤ 8589934592 ∧ d.length ≤ 8589934592 ∧ m.length ≤ 8589934592 ∧ e.length ≤ 8589934592 then
      (if nl m = 0 then some (.tuple ⟨[.agg ⟨[.bool false, .string ⟨⟨[]⟩⟩, .string ⟨⟨[]⟩⟩]⟩, .bool false]⟩) else some (.tuple ⟨[.agg ⟨rE (rv s n d / rv t m e)⟩, .bool true]⟩)) else none
  | _ => none
def c59 : ICode :=
  (.seq (.reg [qq 2 (.box 49 3 (.t 0)), qq 3 (.box 49 3 (.t 1)), qq 4 (.alloc 49 3 [(.bool false), e0, e0]), qq 5 (.mv (.c (.bool false)))]) (.seq (.reg [qq 11 (.load true 3 (.t 2)), qq 12 (.call 99 [(.t 11)]), qq 10 (.mv (.t 12)), qq 13 (.ext (.t 10) 0), qq 14 (.ext (.t 10) 1), qq 6 (.alloc 23 2 [(.bool false), e0]), qq 7 (.alloc 23 2 [(.bool false), e0]), qn (.store 2 (.t 6) (.t 13)), qn (.store 2 (.t 7) (.t 14))]) (.seq (.reg [qq 16 (.load true 3 (.t 3)), qq 17 (.call 99 [(.t 16)]), qq 15 (.mv (.t 17)), qq 18 (.ext (.t 15) 0), qq 19 (.ext (.t 15) 1), qq 8 (.alloc 23 2 [(.bool false), e0]), qq 9 (.alloc 23 2 [(.bool false), e0]), qn (.store 2 (.t 8) (.t 18)), qn (.store 2 (.t 9) (.t 19))]) (.seq (.dreg [qu 20 (.load true 2 (.t 6)), qu 21 (.load true 2 (.t 9)), qu 22 (.call 50 [(.t 20), (.t 21)]), qv 23 [2] (.load true 2 (.t 7)), qv 24 [2] (.load true 2 (.t 8)), qu 25 (.call 50 [(.t 23), (.t 24)]), qu 26 (.call 98 [(.t 22), (.t 25)]), qu 27 (.ext (.t 26) 0), qu 28 (.ext (.t 26) 1), qm (.store 3 (.t 4) (.t 27)), qu 5 (.mv (.t 28))]) .ret))))
theorem tr59 : trFun Tryz.prog 59 = some ⟨29, [.cell 4 true 3, .t 5], c59⟩ := by kernel_rfl
theorem ok_qDiv : SpecOK Tryz.prog 59 (flat spQDiv) := by
  refine flat_run (env_cons ok_qParts (env_cons ok_iMul (env_cons ok_qMake (env_nil _)))) mixed tr59 ?_
  intro args v h N hG
  unfold spQDiv at hG
  split at hG
  case h_2 => cases hG
  rename_i s n d t m e
  split at hG
  case isFalse => cases hG
  rename_i hl
  obtain ⟨h1, h2, h3, h4⟩ := hl
  have n2 : n.length ≤ 1099511627776 := by omega
  have d2 : d.length ≤ 1099511627776 := by omega
  have m2 : m.length ≤ 1099511627776 := by omega
  have e2 : e.length ≤ 1099511627776 := by omega
  have n3 := len_sv (s := s) h1
  have m3 := len_sv (s := t) h3
  have d3 : (bl (dv d).natAbs).length ≤ 8589934593 := len_dv (by omega)
  have e3 : (bl (dv e).natAbs).length ≤ 8589934593 := len_dv (by omega)
  have n4 := Nat.le_trans n3 (by omega : 8589934592 ≤ 34359738368)
  have m4 := Nat.le_trans m3 (by omega : 8589934592 ≤ 34359738368)
  have d4 := Nat.le_trans d3 (by omega : 8589934593 ≤ 34359738368)
  have e4 := Nat.le_trans e3 (by omega : 8589934593 ≤ 34359738368)
  have q1 : (bl (sv s n * dv e).natAbs).length ≤ 34359738368 := Nat.le_trans (len_mul n3 e3) (by omega)
  have q3 : (bl (dv d * sv t m).natAbs).length ≤ 34359738368 := Nat.le_trans (len_mul d3 m3) (by omega)
  split at hG
  · rename_i h0
    have z0 : sv t m = 0 := (sv_eq_zero t m).2 h0
    have q4 : (Int.natAbs 0) = 0 := rfl
    have z1 : (bl 0).length ≤ 34359738368 := by rw [bl_zero]; exact Nat.zero_le _
    rw [z0] at q3 m4
    simp only [Int.mul_zero] at q3
    cases hG
    refine ⟨rfl, by simp, ?_⟩
    simp only [c59, G0, Nat.reduceAdd]
    simp only [↓R0, R1, simprocAttr, -Int.reduceAbs, spQParts, spIMul, spQMake, n2, d2, m2, e2, n4, m4, d4, e4, z0, z1, sv_zero', Int.mul_zero, q1, q3, q4, nl_bl, Fin, isEnd, resL, res1, iE, rE]
    exact ⟨_, rfl, rfl, fun k hk => by simp only [ne_nb hk, if_false]⟩
  rename_i h0
  have z0 : sv t m ≠ 0 := fun e => h0 ((sv_eq_zero t m).1 e)
  have q4 : ((dv d * sv t m).natAbs = 0) = False := eq_false (by have := Int.mul_ne_zero (by have := dv_pos d; omega : dv d ≠ 0) z0; omega)
  rw [Rat.div_def] at hG
  unfold rv at hG
  rw [Rat.inv_divInt, Rat.divInt_mul_divInt] at hG
  cases hG
  refine ⟨rfl, by simp, ?_⟩
  simp only [c59, G0, Nat.reduceAdd]
  simp only [↓R0, R1, simprocAttr, -Int.reduceAbs, spQParts, spIMul, spQMake, n2, d2, m2, e2, n4, m4, d4, e4, q1, q3, q4, nl_bl, Fin, isEnd, resL, res1, iE, rE]
  exact ⟨_, rfl, rfl, fun k hk => by simp only [ne_nb hk, if_false]⟩
def spQSub : List Value → Option Value
  | [.agg ⟨[.bool s, .string ⟨⟨n⟩⟩, .string ⟨⟨d⟩⟩]⟩, .agg ⟨[.bool t, .string ⟨⟨m⟩⟩, .string ⟨⟨e⟩⟩]⟩] => if n.length ≤ 8589934592 ∧ d.length ≤ 8589934592 ∧ m.length ≤ 8589934592 ∧ e.length + 1 ≤ 8589934592 then some (.agg ⟨rE (rv s n d - rv t m e)⟩) else none
  | _ => none
def c57 : ICode :=
  (.seq (.reg [qq 2 (.box 49 3 (.t 0)), qq 3 (.box 49 3 (.t 1)), qq 4 (.alloc 49 3 [(.bool false), e0, e0])]) (.seq (.dreg [qu 5 (.load true 3 (.t 2)), qu 6 (.load true 3 (.t 3)), qu 7 (.call 101 [(.t 6)]), qu 8 (.call 56 [(.t 5), (.t 7)]), qm (.store 3 (.t 4) (.t 8))]) .ret))
theorem tr57 : trFun Tryz.prog 57 = some ⟨9, [.cell 4 true 3], c57⟩ := by kernel_rfl
theorem ok_qSub : SpecOK Tryz.prog 57 (flat spQSub) := by
  refine flat_run (env_cons ok_qNeg (env_cons ok_qAdd (env_nil _))) mixed tr57 ?_
  intro args v h N hG
  unfold spQSub at hG
  split at hG
  case h_2 => cases hG
  rename_i s n d t m e
  split at hG
  case isFalse => cases hG
  rename_i hl
  obtain ⟨h1, h2, h3, h4⟩ := hl
  cases hG
  refine ⟨rfl, by simp, ?_⟩
  have m2 : m.length ≤ 17179869184 := by omega
  have e2 : e.length ≤ 17179869184 := by omega
  obtain ⟨g1, g2⟩ := divInt_le (N := sv t m) (dv_pos e)
  have m3 : (bl (-rv t m e).num.natAbs).length ≤ 8589934592 := by
    rw [(len_rneg _).1]; exact Nat.le_trans (bl_length_mono g1) (len_sv h3)
  have e3 : (if (-rv t m e).den = 1 then ([] : List UInt8) else bl (-rv t m e).den).length ≤ 8589934592 := by
    refine len_den _ ?_
    rw [(len_rneg _).2]; exact Nat.le_trans (bl_length_mono g2) (Nat.le_trans (bl_dv e) h4)
  rw [Rat.sub_eq_add_neg]
  simp only [c57, G0, Nat.reduceAdd]
  simp only [↓R0, R1, simprocAttr, -Int.reduceAbs, spQNeg, spQAdd, h1, h2, m2, e2, m3, e3, rE, rv_can, Fin, isEnd, resL, res1, iE, rE]
  exact ⟨_, rfl, rfl, fun k hk => by simp only [ne_nb hk, if_false]⟩
def spQFrom : List Value → Option Value
  | [.int .i64 n] => if -9223372036854775808 ≤ n ∧ n ≤ 9223372036854775807 then some (.agg ⟨rE (n : Rat)⟩) else none
  | _ => none
def c60 : ICode :=
  (.seq (.reg [qq 2 (.alloc 49 3 [(.bool false), e0, e0])]) (.seq (.reg [qq 3 (.mv (.t 0)), qq 4 (.call 76 [(.t 3)]), qq 5 (.call 76 [(ci 1)]), qq 6 (.call 100 [(.t 4), (.t 5)]), qn (.store 3 (.t 2) (.t 6))]) .ret))
theorem tr60 : trFun Tryz.prog 60 = some ⟨7, [.cell 2 true 3], c60⟩ := by kernel_rfl
theorem len8 {n : Int} (h1 : -9223372036854775808 ≤ n) (h2 : n ≤ 9223372036854775807) : (bl n.natAbs).length ≤ 8 :=
  bl_length_le.2 (Nat.lt_of_le_of_lt (by omega : n.natAbs ≤ 9223372036854775808) (by decide))
theorem ok_qFrom : SpecOK Tryz.prog 60 (flat spQFrom) := by
  refine flat_run (env_cons ok_iFrom (env_cons ok_qMade (env_nil _))) mixed tr60 ?_
  intro args v h N hG
  unfold spQFrom at hG
  split at hG
  case h_2 => cases hG
  rename_i n
  split at hG
  case isFalse => cases hG
  rename_i hl
  obtain ⟨h1, h2⟩ := hl
  have n1 := Nat.le_trans (len8 h1 h2) (by omega : 8 ≤ 34359738368)
  have o1 : (bl (Int.natAbs 1)).length ≤ 34359738368 := Nat.le_trans (bl_length_le (k := 1).2 (by decide)) (by omega)
  have o2 : (Int.natAbs 1 = 0) = False := eq_false (by decide)
  rw [← divInt_one] at hG
  cases hG
  refine ⟨rfl, by simp, ?_⟩
  simp only [c60, G0, Nat.reduceAdd]
  simp only [↓R0, R1, simprocAttr, -Int.reduceAbs, spIFrom, h1, h2, spQMade, n1, o1, o2, sv_one', nl_bl, Fin, isEnd, resL, res1, iE, rE]
  exact ⟨_, rfl, rfl, fun k hk => by simp only [ne_nb hk, if_false]⟩
end Go.Eng
end
section
set_option linter.unusedVariables false
set_option linter.unusedSimpArgs false
set_option linter.unusedSectionVars false
set_option maxRecDepth 20000
namespace Go.Eng
open Go Go.Proofs Go.IntWalk
def spPCoords : List Value → Option Value
  | [.agg ⟨[.bool s1, .string ⟨⟨l1⟩⟩, .bool s2, .string ⟨⟨l2⟩⟩, .bool s3, .string ⟨⟨l3⟩⟩, .bool s4, .string ⟨⟨l4⟩⟩]⟩] =>
    if l1.length ≤ 34359738368 ∧ l2.length ≤ 34359738368 ∧ l3.length ≤ 34359738368 ∧ l4.length ≤ 34359738368 then some (.agg ⟨r3E (Rat.divInt (sv s1 l1) (pW (sv s4 l4))) (Rat.divInt (sv s2 l2) (pW (sv s4 l4))) (Rat.divInt (sv s3 l3) (pW (sv s4 l4)))⟩) else none
  | _ => none
def c54 : ICode :=
  (.seq (.reg [qq 1 (.box 41 8 (.t 0)), qq 2 (.alloc 51 9 [(.bool false), e0, e0, (.bool false), e0, e0, (.bool false), e0, e0])]) (.seq (.reg [qq 6 (.load true 8 (.t 1)), qq 7 (.call 36 [(.t 6)]), qn (.store 8 (.t 1) (.t 7))]) (.seq (.reg [qq 3 (.alloc 51 9 [(.bool false), e0, e0, (.bool false), e0, e0, (.bool false), e0, e0])]) (.seq (.seq (.reg [qq 8 (.faddr 0 (.t 1)), qq 9 (.load true 2 (.t 8)), qq 10 (.faddr 2 (.t 1)), qq 11 (.load true 2 (.t 10)), qq 12 (.faddr 4 (.t 1)), qq 13 (.load true 2 (.t 12)), qq 14 (.build [(.bool false), e0, (.bool false), e0, (.bool false), e0] [(0, 2, (.t 9)), (2, 2, (.t 11)), (4, 2, (.t 13))]), qq 15 (.mv (ci 0))]) (.block 0 (.loop (.seq (.reg [qq 16 (.bin .lss (.t 15) (ci 3))]) (.seq (.cond (.t 16) .skip (.exit 0)) (.seq (.block 1 (.seq (.reg [qq 17 (.mv (.t 15)), qq 18 (.idarr 3 true 2 (.t 14) (.t 15)), qq 5 (.alloc 23 2 [(.bool false), e0]), qq 4 (.mv (.t 17)), qn (.store 2 (.t 5) (.t 18))]) (.reg [qq 20 (.mv (.t 4)), qq 21 (.load true 2 (.t 5)), qq 22 (.faddr 6 (.t 1)), qq 23 (.load true 2 (.t 22)), qq 24 (.call 98 [(.t 21), (.t 23)]), qq 19 (.mv (.t 24)), qq 25 (.ext (.t 19) 0), qq 26 (.ext (.t 19) 1), qq 27 (.ixarr 3 3 (.t 3) (.t 20)), qn (.store 3 (.t 27) (.t 25))]))) (.reg [qq 28 (.bin .add (.t 15) (ci 1)), qq 15 (.mv (.t 28))]))))))) (.seq (.reg [qq 29 (.load true 9 (.t 3)), qn (.store 9 (.t 2) (.t 29))]) .ret)))))
theorem tr54 : trFun Tryz.prog 54 = some ⟨30, [.cell 2 true 9], c54⟩ := by kernel_rfl
set_option maxHeartbeats 4000000 in
theorem ok_pCoords : SpecOK Tryz.prog 54 (flat spPCoords) := by
  refine flat_run (env_cons ok_pNorm (env_cons ok_qMake (env_nil _))) mixed tr54 ?_
  intro args v h N hG
  unfold spPCoords at hG
  split at hG
  case h_2 => cases hG
  rename_i s1 l1 s2 l2 s3 l3 s4 l4
  split at hG
  case isFalse => cases hG
  rename_i hl
  obtain ⟨h1, h2, h3, h4⟩ := hl
  cases hG
  refine ⟨rfl, by simp, ?_⟩
  have n1 := len_sv (s := s1) h1
  have n2 := len_sv (s := s2) h2
  have n3 := len_sv (s := s3) h3
  have n4 := pW_len (len_sv (s := s4) h4) (by omega)
  generalize ex : sv s1 l1 = x at *
  generalize ey : sv s2 l2 = y at *
  generalize ez : sv s3 l3 = z at *
  generalize ew : sv s4 l4 = w at *
  have q1 := pQ_len (x := x) (y := y) (z := z) (w := w) n1
  have q2 := pQ_len (x := x) (y := y) (z := z) (w := w) n2
  have q3 := pQ_len (x := x) (y := y) (z := z) (w := w) n3
  have q4 := pQ_len (x := x) (y := y) (z := z) (w := w) n4
  have d1 := pQ_div (pG_dvd_x x y z w)
  have d2 := pQ_div (pG_dvd_y x y z w)
  have d3 := pQ_div (pG_dvd_z x y z w)
  have ne : ¬ ((pQ x y z w (pW w)).natAbs = 0) := by have := pQ_pos x y z w; omega
  simp only [c54, G0, Nat.reduceAdd]
  simp only [↓R0, R1, simprocAttr, -Int.reduceAbs, spPNorm, h1, h2, h3, h4, ex, ey, ez, ew, pE, iE]
  refine lp_step ?_
  simp only [↓R0, R1, simprocAttr, -Int.reduceAbs, spQMake, q1, q2, q3, q4, nl_bl, ne, d1, rE]
  refine lp_step ?_
  simp only [↓R0, R1, simprocAttr, -Int.reduceAbs, spQMake, q1, q2, q3, q4, nl_bl, ne, d2, rE]
  refine lp_step ?_
  simp only [↓R0, R1, simprocAttr, -Int.reduceAbs, spQMake, q1, q2, q3, q4, nl_bl, ne, d3, rE]
  refine lp_step ?_
  simp only [↓R0, R1, simprocAttr, -Int.reduceAbs, r3E, Fin, isEnd, resL, res1, iE, rE]
  exact ⟨_, rfl, rfl, fun k hk => by simp only [ne_nb hk, if_false]⟩
end Go.Eng
end
section
set_option linter.unusedVariables false
set_option linter.unusedSimpArgs false
set_option linter.unusedSectionVars false
namespace Go.Eng
structure RQ where
  (s : Bool) (n d : List UInt8)
namespace RQ
def cells (q : RQ) : List Value := [.bool q.s, .string ⟨⟨q.n⟩⟩, .string ⟨⟨q.d⟩⟩]
def v (q : RQ) : Rat := rv q.s q.n q.d
def ok (k : Nat) (q : RQ) : Prop := q.n.length ≤ k ∧ q.d.length ≤ k
instance {k : Nat} {q : RQ} : Decidable (q.ok k) := by unfold ok; infer_instance
def of (x : Rat) : RQ := ⟨decide (x.num < 0), bl x.num.natAbs, if x.den = 1 then [] else bl x.den⟩
theorem of_v (x : Rat) : (of x).v = x := rv_can x
theorem of_ok {x : Rat} {k : Nat} (h : RB x k) : (of x).ok k := ⟨h.num (Nat.le_refl _), h.den (Nat.le_refl _)⟩
theorem ok.le {q : RQ} {i k : Nat} (h : q.ok i) (hk : i ≤ k) : q.ok k := ⟨Nat.le_trans h.1 hk, Nat.le_trans h.2 hk⟩
end RQ
def ratsOf : List Value → Option (List RQ)
  | [] => some []
  | .bool s :: .string ⟨⟨n⟩⟩ :: .string ⟨⟨d⟩⟩ :: r => (ratsOf r).map (⟨s, n, d⟩ :: ·)
  | _ => none
def rqs (l : List RQ) : List Value := l.flatMap RQ.cells
theorem ratsOf_rqs : ∀ l : List RQ, ratsOf (rqs l) = some l
  | [] => rfl
  | q :: l => by
    have := ratsOf_rqs l
    unfold rqs at this ⊢
    simp only [List.flatMap_cons, RQ.cells, List.cons_append, List.nil_append, ratsOf, this, Option.map_some]
theorem ratsOf_eq : ∀ {cs : List Value} {l : List RQ}, ratsOf cs = some l → cs = rqs l
  | [], l, e => by simp [ratsOf] at e; subst e; rfl
  | c :: cs, l, e => by
    unfold ratsOf at e
    split at e
    · rename_i h; cases h
    · rename_i s n d r h
      cases h
      rw [Option.map_eq_some_iff] at e
      obtain ⟨l', h1, rfl⟩ := e
      have := ratsOf_eq h1
      subst this
      simp [rqs, RQ.cells]
    · cases e
end Go.Eng
end
section
set_option linter.unusedVariables false
set_option linter.unusedSimpArgs false
set_option linter.unusedSectionVars false
namespace Go.Eng
def RQ.zero : RQ := ⟨false, [], []⟩
theorem rE_zero : rE 0 = [.bool false, .string ⟨⟨[]⟩⟩, .string ⟨⟨[]⟩⟩] := by simp [rE, bl_zero]
theorem RB.zero : RB 0 1 := by
  refine ⟨?_, bl_length_le.2 (by decide)⟩
  rw [show (0 : Rat).num.natAbs = 0 from rfl, bl_zero]; exact Nat.zero_le _
end Go.Eng
end
section
set_option linter.unusedVariables false
set_option linter.unusedSimpArgs false
set_option linter.unusedSectionVars false
namespace Go.Eng
def crx (uy uz vy vz : Rat) : Rat := uy * vz - uz * vy
def cr0 (a b c : Pt) : Rat := crx (b.cy - a.cy) (b.cz - a.cz) (c.cy - a.cy) (c.cz - a.cz)
def cr1 (a b c : Pt) : Rat := crx (b.cz - a.cz) (b.cx - a.cx) (c.cz - a.cz) (c.cx - a.cx)
def cr2 (a b c : Pt) : Rat := crx (b.cx - a.cx) (b.cy - a.cy) (c.cx - a.cx) (c.cy - a.cy)
def aS (f : Pt → Pt → Pt → Rat) (l : List Pt) : Nat → Rat
  | 0 => 0
  | i + 1 => aS f l i + f (ptAt l 0) (ptAt l i) (ptAt l ((i + 1) % l.length))
def areaV (f : Pt → Pt → Pt → Rat) (l : List Pt) : Rat := aS f l l.length / 2
theorem aS_RB {f : Pt → Pt → Pt → Rat} {l : List Pt} {T : Nat} (h : ∀ i j, RB (f (ptAt l 0) (ptAt l i) (ptAt l j)) T) : ∀ i, RB (aS f l i) (i * (T + 1) + 1)
  | 0 => RB.zero.le (by omega)
  | i + 1 => (aS_RB h i).add (h i _) (by rw [Nat.add_mul]; omega)
theorem crx_RB {a b c d : Rat} {k : Nat} (ha : RB a k) (hb : RB b k) (hc : RB c k) (hd : RB d k) : RB (crx a b c d) (4 * k + 1) :=
  (ha.mul hd (Nat.le_refl _)).sub (hb.mul hc (Nat.le_refl _)) (by omega)
theorem bnd1000 {i n : Nat} (h : i ≤ n) (hn : n ≤ 1000) : i * 8000006 + 1 ≤ 8589934592 := by omega
end Go.Eng
end
section
set_option linter.unusedVariables false
set_option linter.unusedSimpArgs false
set_option linter.unusedSectionVars false
set_option maxRecDepth 20000
namespace Go.Eng
open Go Go.Proofs Go.IntWalk
theorem qSub_rE {x y : Rat} {i j : Nat} (hx : RB x i) (hy : RB y j) (hi : i ≤ 8589934592) (hj : j + 1 ≤ 8589934592) : spQSub [.agg ⟨rE x⟩, .agg ⟨rE y⟩] = some (.agg ⟨rE (x - y)⟩) := by
  unfold spQSub rE
  simp only [rv_can]
  exact if_pos ⟨hx.num hi, hx.den hi, hy.num (by omega), hy.den' (k := 8589934592) hj⟩
theorem qAdd_rE {x y : Rat} {i j : Nat} (hx : RB x i) (hy : RB y j) (hi : i ≤ 8589934592) (hj : j ≤ 8589934592) : spQAdd [.agg ⟨rE x⟩, .agg ⟨rE y⟩] = some (.agg ⟨rE (x + y)⟩) := by
  unfold spQAdd rE
  simp only [rv_can]
  exact if_pos ⟨hx.num hi, hx.den hi, hy.num hj, hy.den hj⟩
theorem qMul_rE {x y : Rat} {i j : Nat} (hx : RB x i) (hy : RB y j) (hi : i ≤ 8589934592) (hj : j ≤ 8589934592) : spQMul [.agg ⟨rE x⟩, .agg ⟨rE y⟩] = some (.agg ⟨rE (x * y)⟩) := by
  unfold spQMul rE
  simp only [rv_can]
  exact if_pos ⟨hx.num hi, hx.den hi, hy.num hj, hy.den hj⟩
theorem qDiv2_rE {x : Rat} {i : Nat} (hx : RB x i) (hi : i ≤ 8589934592) : spQDiv [.agg ⟨rE x⟩, .agg ⟨rE 2⟩] = some (.tuple ⟨[.agg ⟨rE (x / 2)⟩, .bool true]⟩) := by
  have h2 : RB 2 1 := RB.int (z := 2) (bl_length_le.2 (by decide)) (by omega)
  unfold spQDiv rE
  simp only [rv_can]
  refine (if_pos ⟨hx.num hi, hx.den hi, h2.num (by omega), h2.den (by omega)⟩).trans ?_
  exact if_neg (by rw [nl_bl]; decide)
theorem qFrom2 : spQFrom [.int .i64 2] = some (.agg ⟨rE 2⟩) := by unfold spQFrom; exact if_pos (by decide)
def spPless : List Value → Option Value
  | [.agg ⟨cb⟩, .agg ⟨ca⟩] => match ratsOf cb, ratsOf ca with
    | some [b1, b2, b3], some [a1, a2, a3] => if (b1.ok 100000000 ∧ b2.ok 100000000 ∧ b3.ok 100000000) ∧ a1.ok 100000000 ∧ a2.ok 100000000 ∧ a3.ok 100000000 then some (.agg ⟨r3E (b1.v - a1.v) (b2.v - a2.v) (b3.v - a3.v)⟩) else none
    | _, _ => none
  | _ => none
theorem q3_len (a b c : RQ) : (rqs [a, b, c]).length = 9 := rfl
theorem q3_tk (a b c : RQ) : (rqs [a, b, c]).take 9 = rqs [a, b, c] := rfl
theorem q3_g0 (a b c : RQ) : (rqs [a, b, c]).take 3 = a.cells := rfl
theorem q3_g1 (a b c : RQ) : ((rqs [a, b, c]).drop 3).take 3 = b.cells := rfl
theorem q3_g2 (a b c : RQ) : ((rqs [a, b, c]).drop 6).take 3 = c.cells := rfl
theorem qSub_of {p q : RQ} (hp : p.ok 100000000) (hq : q.ok 100000000) : spQSub [.agg ⟨p.cells⟩, .agg ⟨q.cells⟩] = some (.agg ⟨rE (p.v - q.v)⟩) := by
  have h : ∀ {i : Nat}, i ≤ 100000000 → i + 1 ≤ 8589934592 := fun h => by omega
  have h' : ∀ {i : Nat}, i ≤ 100000000 → i ≤ 8589934592 := fun h => by omega
  exact if_pos ⟨h' hp.1, h' hp.2, h' hq.1, h hq.2⟩
def z9R : List Value := [.bool false, .string ⟨⟨[]⟩⟩, .string ⟨⟨[]⟩⟩, .bool false, .string ⟨⟨[]⟩⟩, .string ⟨⟨[]⟩⟩, .bool false, .string ⟨⟨[]⟩⟩, .string ⟨⟨[]⟩⟩]
theorem z9R_len : z9R.length = 9 := rfl
theorem z9R_ok : z9R.all okCell = true := rfl
theorem z9R_tk : z9R.take 9 = z9R := rfl
theorem z9R_st : setR z9R 0 z9R = z9R := rfl
theorem z9R_eq : r3E 0 0 0 = z9R := by unfold r3E; rw [rE_zero]; rfl
def c55 : ICode :=
  (.seq (.reg [qq 2 (.box 51 9 (.t 0)), qq 3 (.box 51 9 (.t 1)), qq 4 (.alloc 51 9 [(.bool false), e0, e0, (.bool false), e0, e0, (.bool false), e0, e0])]) (.seq (.reg [qq 5 (.alloc 51 9 [(.bool false), e0, e0, (.bool false), e0, e0, (.bool false), e0, e0])]) (.seq (.seq (.reg [qq 7 (.mv (ci 0))]) (.block 0 (.loop (.seq (.reg [qq 8 (.bin .lss (.t 7) (ci 3))]) (.seq (.cond (.t 8) .skip (.exit 0)) (.seq (.block 1 (.seq (.reg [qq 9 (.mv (.t 7)), qq 6 (.mv (.t 9))]) (.dreg [qu 10 (.mv (.t 6)), qu 11 (.mv (.t 6)), qu 12 (.ixarr 3 3 (.t 2) (.t 11)), qu 13 (.load true 3 (.t 12)), qu 14 (.mv (.t 6)), qu 15 (.ixarr 3 3 (.t 3) (.t 14)), qu 16 (.load true 3 (.t 15)), qu 17 (.call 57 [(.t 13), (.t 16)]), qu 18 (.ixarr 3 3 (.t 5) (.t 10)), qm (.store 3 (.t 18) (.t 17))]))) (.reg [qq 19 (.bin .add (.t 7) (ci 1)), qq 7 (.mv (.t 19))]))))))) (.seq (.reg [qq 20 (.load true 9 (.t 5)), qn (.store 9 (.t 4) (.t 20))]) .ret))))
theorem tr55 : trFun Tryz.prog 55 = some ⟨21, [.cell 4 true 9], c55⟩ := by kernel_rfl
set_option maxHeartbeats 2000000 in
theorem ok_Pless : SpecOK Tryz.prog 55 (flat spPless) := by
  refine flat_run (env_cons ok_qSub (env_nil _)) mixed tr55 ?_
  intro args v h N hG
  unfold spPless at hG
  split at hG
  case h_2 => cases hG
  rename_i cb ca
  split at hG
  case h_2 => cases hG
  rename_i b1 b2 b3 a1 a2 a3 hb ha
  split at hG
  case isFalse => cases hG
  rename_i hl
  obtain ⟨⟨sb1, sb2, sb3⟩, sa1, sa2, sa3⟩ := hl
  cases hG
  have e1 := ratsOf_eq ha
  have e2 := ratsOf_eq hb
  subst e1 e2
  refine ⟨rfl, by simp, ?_⟩
  have m1 := qSub_of sb1 sa1
  have m2 := qSub_of sb2 sa2
  have m3 := qSub_of sb3 sa3
  have la := q3_len a1 a2 a3; have lb := q3_len b1 b2 b3
  have ta := q3_tk a1 a2 a3; have tb := q3_tk b1 b2 b3
  have ga0 := q3_g0 a1 a2 a3; have gb0 := q3_g0 b1 b2 b3
  have ga1 := q3_g1 a1 a2 a3; have gb1 := q3_g1 b1 b2 b3
  have ga2 := q3_g2 a1 a2 a3; have gb2 := q3_g2 b1 b2 b3
  generalize b1.v - a1.v = d1 at *
  generalize b2.v - a2.v = d2 at *
  generalize b3.v - a3.v = d3 at *
  generalize rqs [a1, a2, a3] = CA at *
  generalize rqs [b1, b2, b3] = CB at *
  have k1 : b1.cells.length = 3 := rfl
  have w1 : IntKind.i64.wrap 1 = 1 := i64_in _ (by omega)
  have w2 : IntKind.i64.wrap 2 = 2 := i64_in _ (by omega)
  have w3 : IntKind.i64.wrap 3 = 3 := i64_in _ (by omega)
  have z0 := z9R_eq
  simp only [c55, G0, Nat.reduceAdd]
  simp only [↓R0, R1, simprocAttr, -Int.reduceAbs, la, lb, ta, tb, v9_len, v9_ok, v9_new]
  refine lp_step ?_
  simp only [↓R0, R1, simprocAttr, -Int.reduceAbs, la, lb, ga0, ga1, ga2, gb0, gb1, gb2, setR_length, rE_l3, rE_o3, m1, m2, m3, w1, w2, w3]
  refine lp_step ?_
  simp only [↓R0, R1, simprocAttr, -Int.reduceAbs, la, lb, ga0, ga1, ga2, gb0, gb1, gb2, setR_length, rE_l3, rE_o3, m1, m2, m3, w1, w2, w3]
  refine lp_step ?_
  simp only [↓R0, R1, simprocAttr, -Int.reduceAbs, la, lb, ga0, ga1, ga2, gb0, gb1, gb2, setR_length, v9_bld, v9_len, v9_ok, rE_l3, rE_o3, m1, m2, m3, w1, w2, w3]
  refine lp_step ?_
  simp only [↓R0, R1, simprocAttr, -Int.reduceAbs, la, lb, v9_len, v9_ok, v9_tk, v9_new, w1, w2, w3, Fin, isEnd, resL, res1]
  exact ⟨_, rfl, rfl, fun k hk => by simp only [ne_nb hk, if_false]⟩
theorem less_of {x y z u v w : Rat} {k : Nat} (hx : RB x k) (hy : RB y k) (hz : RB z k) (hu : RB u k) (hv : RB v k) (hw : RB w k) (hk : k ≤ 100000000) :
    spPless [.agg ⟨r3E x y z⟩, .agg ⟨r3E u v w⟩] = some (.agg ⟨r3E (x - u) (y - v) (z - w)⟩) := by
  have e : ∀ a b c : Rat, r3E a b c = rqs [RQ.of a, RQ.of b, RQ.of c] := fun _ _ _ => rfl
  have f : ∀ {a : Rat}, RB a k → (RQ.of a).ok 100000000 := fun h => (RQ.of_ok h).le hk
  rw [e, e]
  unfold spPless
  dsimp only
  rw [ratsOf_rqs, ratsOf_rqs]
  simp only [RQ.of_v]
  exact if_pos ⟨⟨f hx, f hy, f hz⟩, f hu, f hv, f hw⟩
theorem pcoords_of {p : Pt} (h : p.sz 1000000) : spPCoords [.agg ⟨p.cells⟩] = some (.agg ⟨r3E p.cx p.cy p.cz⟩) := by
  refine Eq.trans (if_pos ⟨?_, ?_, ?_, ?_⟩) rfl
  · exact Nat.le_trans h.1 (by omega)
  · exact Nat.le_trans h.2.1 (by omega)
  · exact Nat.le_trans h.2.2.1 (by omega)
  · exact Nat.le_trans h.2.2.2 (by omega)
theorem cr_RB {a b c : Pt} (ha : a.sz 1000000) (hb : b.sz 1000000) (hc : c.sz 1000000) : RB (cr0 a b c) 8000005 ∧ RB (cr1 a b c) 8000005 ∧ RB (cr2 a b c) 8000005 := by
  obtain ⟨a1, a2, a3⟩ := coords_rb ha
  obtain ⟨b1, b2, b3⟩ := coords_rb hb
  obtain ⟨c1, c2, c3⟩ := coords_rb hc
  have s : ∀ {x y : Rat}, RB x 1000000 → RB y 1000000 → RB (x - y) 2000001 := fun hx hy => hx.sub hy (by omega)
  exact ⟨(crx_RB (s b2 a2) (s b3 a3) (s c2 a2) (s c3 a3)).le (by omega), (crx_RB (s b3 a3) (s b1 a1) (s c3 a3) (s c1 a1)).le (by omega), (crx_RB (s b1 a1) (s b2 a2) (s c1 a1) (s c2 a2)).le (by omega)⟩
def areaE (l : List Pt) : List Value := r3E (areaV cr0 l) (areaV cr1 l) (areaV cr2 l)
theorem area_nil : areaE [] = r3E 0 0 0 := by
  show r3E (0 / 2) (0 / 2) (0 / 2) = _
  rw [show (0 : Rat) / 2 = 0 by rw [Rat.div_def, Rat.zero_mul]]
theorem v9_st (a b c x y z : Rat) : setR (r3E a b c) 0 (r3E x y z) = r3E x y z := rfl
theorem z9R_eq' : [.bool false, .string ⟨⟨[]⟩⟩, .string ⟨⟨[]⟩⟩, .bool false, .string ⟨⟨[]⟩⟩, .string ⟨⟨[]⟩⟩, .bool false, .string ⟨⟨[]⟩⟩, .string ⟨⟨[]⟩⟩] = z9R := rfl
def spParea : List Value → Heap → Option Value
  | [.agg ⟨cs⟩], h => match decPoly h cs with
    | some (P, l) => if polySz 1000000 P l then some (.agg ⟨areaE l⟩) else none
    | none => none
  | _, _ => none
theorem ptAt_sz {k : Nat} {P : Pt} {l : List Pt} (h : polySz k P l) (i : Nat) : (ptAt l i).sz k := by
  by_cases c : i < l.length
  · exact h.at c
  · have e : ptAt l i = Pt.dflt := by unfold ptAt; rw [List.getElem?_eq_none (by omega)]; rfl
    rw [e]
    exact ⟨Nat.zero_le _, Nat.zero_le _, Nat.zero_le _, Nat.zero_le _⟩
def c24 : ICode :=
  (.seq (.reg [qq 1 (.box 28 9 (.t 0)), qq 2 (.alloc 51 9 [(.bool false), e0, e0, (.bool false), e0, e0, (.bool false), e0, e0])]) (.seq (.reg [qq 3 (.alloc 51 9 [(.bool false), e0, e0, (.bool false), e0, e0, (.bool false), e0, e0])]) (.seq (.seq (.reg [qq 12 (.faddr 8 (.t 1)), qq 13 (.load false 1 (.t 12)), qq 14 (.lensl (.t 13)), qq 15 (.bin .eql (.t 14) (ci 0))]) (.cond (.t 15) (.seq (.reg [qq 16 (.load true 9 (.t 3)), qn (.store 9 (.t 2) (.t 16))]) .ret) .skip)) (.seq (.reg [qq 17 (.faddr 8 (.t 1)), qq 18 (.load false 1 (.t 17)), qq 19 (.ixsl 8 (.t 18) (ci 0)), qq 20 (.load true 8 (.t 19)), qq 21 (.call 54 [(.t 20)]), qq 4 (.alloc 51 9 [(.bool false), e0, e0, (.bool false), e0, e0, (.bool false), e0, e0]), qn (.store 9 (.t 4) (.t 21))]) (.seq (.seq (.reg [qq 22 (.faddr 8 (.t 1)), qq 23 (.load false 1 (.t 22)), qq 24 (.lensl (.t 23)), qq 25 (.mv (ci 0))]) (.block 0 (.loop (.seq (.reg [qq 26 (.bin .lss (.t 25) (.t 24))]) (.seq (.cond (.t 26) .skip (.exit 0)) (.seq (.block 1 (.seq (.reg [qq 27 (.mv (.t 25)), qq 5 (.mv (.t 27))]) (.seq (.dreg [qu 28 (.faddr 8 (.t 1)), qu 29 (.load false 1 (.t 28)), qu 30 (.mv (.t 5)), qu 31 (.ixsl 8 (.t 29) (.t 30)), qu 32 (.load true 8 (.t 31)), qu 33 (.call 54 [(.t 32)]), qv 34 [5] (.load true 9 (.t 4)), qu 35 (.call 55 [(.t 33), (.t 34)]), qu 36 (.faddr 8 (.t 1)), qv 37 [5, 7] (.load false 1 (.t 36)), qv 38 [5, 7] (.load true 9 (.t 1)), qu 39 (.mv (.t 5)), qu 40 (.call 43 [(.t 38), (.t 39)]), qu 41 (.ixsl 8 (.t 37) (.t 40)), qu 42 (.load true 8 (.t 41)), qu 43 (.call 54 [(.t 42)]), qv 44 [5, 7, 12, 15] (.load true 9 (.t 4)), qu 45 (.call 55 [(.t 43), (.t 44)]), qu 6 (.alloc 51 9 [(.bool false), e0, e0, (.bool false), e0, e0, (.bool false), e0, e0]), qu 7 (.alloc 51 9 [(.bool false), e0, e0, (.bool false), e0, e0, (.bool false), e0, e0]), qm (.store 9 (.t 6) (.t 35)), qm (.store 9 (.t 7) (.t 45))]) (.seq (.reg [qq 46 (.mv (ci 0))]) (.block 2 (.loop (.seq (.reg [qq 47 (.bin .lss (.t 46) (ci 3))]) (.seq (.cond (.t 47) .skip (.exit 2)) (.seq (.block 3 (.seq (.reg [qq 48 (.mv (.t 46)), qq 8 (.mv (.t 48))]) (.seq (.reg [qq 49 (.mv (.t 8)), qq 50 (.bin .add (.t 49) (ci 1)), qq 51 (.bin .rem (.t 50) (ci 3)), qq 52 (.mv (.t 8)), qq 53 (.bin .add (.t 52) (ci 2)), qq 54 (.bin .rem (.t 53) (ci 3)), qq 9 (.mv (.t 51)), qq 10 (.mv (.t 54))]) (.dreg [qu 55 (.mv (.t 8)), qu 56 (.mv (.t 8)), qu 57 (.ixarr 3 3 (.t 3) (.t 56)), qu 58 (.load true 3 (.t 57)), qu 59 (.mv (.t 9)), qu 60 (.ixarr 3 3 (.t 6) (.t 59)), qu 61 (.load true 3 (.t 60)), qu 62 (.mv (.t 10)), qu 63 (.ixarr 3 3 (.t 7) (.t 62)), qu 64 (.load true 3 (.t 63)), qu 65 (.call 58 [(.t 61), (.t 64)]), qu 66 (.mv (.t 10)), qu 67 (.ixarr 3 3 (.t 6) (.t 66)), qv 68 [10] (.load true 3 (.t 67)), qu 69 (.mv (.t 9)), qu 70 (.ixarr 3 3 (.t 7) (.t 69)), qv 71 [10] (.load true 3 (.t 70)), qu 72 (.call 58 [(.t 68), (.t 71)]), qu 73 (.call 57 [(.t 65), (.t 72)]), qu 74 (.call 56 [(.t 58), (.t 73)]), qu 75 (.ixarr 3 3 (.t 3) (.t 55)), qm (.store 3 (.t 75) (.t 74))])))) (.reg [qq 76 (.bin .add (.t 46) (ci 1)), qq 46 (.mv (.t 76))])))))))))) (.reg [qq 77 (.bin .add (.t 25) (ci 1)), qq 25 (.mv (.t 77))]))))))) (.seq (.seq (.reg [qq 78 (.mv (ci 0))]) (.block 4 (.loop (.seq (.reg [qq 79 (.bin .lss (.t 78) (ci 3))]) (.seq (.cond (.t 79) .skip (.exit 4)) (.seq (.block 5 (.seq (.reg [qq 80 (.mv (.t 78)), qq 11 (.mv (.t 80))]) (.dreg [qu 82 (.mv (.t 11)), qu 83 (.mv (.t 11)), qu 84 (.ixarr 3 3 (.t 3) (.t 83)), qu 85 (.load true 3 (.t 84)), qu 86 (.call 60 [(ci 2)]), qu 87 (.call 59 [(.t 85), (.t 86)]), qu 81 (.mv (.t 87)), qu 88 (.ext (.t 81) 0), qu 89 (.ext (.t 81) 1), qu 90 (.ixarr 3 3 (.t 3) (.t 82)), qm (.store 3 (.t 90) (.t 88))]))) (.reg [qq 91 (.bin .add (.t 78) (ci 1)), qq 78 (.mv (.t 91))]))))))) (.seq (.reg [qq 92 (.load true 9 (.t 3)), qn (.store 9 (.t 2) (.t 92))]) .ret)))))))
theorem tr24 : trFun Tryz.prog 24 = some ⟨93, [.cell 2 true 9], c24⟩ := by kernel_rfl
set_option maxHeartbeats 8000000 in
theorem ok_Parea : SpecOK Tryz.prog 24 (rdS spParea) := by
  refine rd_run (env_cons ok_pCoords (env_cons ok_Pless (env_cons ok_Pnext (env_cons ok_qMul (env_cons ok_qSub (env_cons ok_qAdd (env_cons ok_qFrom (env_cons ok_qDiv (env_nil _))))))))) mixed tr24 ?_ ?_
  · intro args h h' v hle e
    unfold spParea at e ⊢
    split at e
    · rename_i cs
      split at e
      · rename_i P l hb
        simp only [decPoly_mono hle hb]; exact e
      · cases e
    · cases e
  intro args v h N hG hN
  unfold spParea at hG
  split at hG
  case h_2 => cases hG
  rename_i cs
  split at hG
  case h_2 => cases hG
  rename_i P l hx
  split at hG
  case isFalse => cases hG
  rename_i hs
  cases hG
  obtain ⟨sl, rfl, hx'⟩ := decPoly_eq hx
  clear hx
  rename listAt 8 decP h sl = some l => hx
  obtain ⟨a, cc, rfl⟩ := listAt_sl hx
  have hn3 := hs.2.2
  refine ⟨by rfl, by simp, ?_⟩
  have c9 := pc9_s P (.slice a l.length cc)
  have l9 := pc9_len P (.slice a l.length cc)
  have t9 := pc9_tk P (.slice a l.length cc)
  have nx9 : ∀ i, i < l.length → spPnext [.agg ⟨pc9 P (.slice a l.length cc)⟩, .int .i64 (i : Nat)] = some (.int .i64 (((i + 1) % l.length : Nat) : Int)) := fun i hi => next_of hi (by omega)
  have zR := z9R_eq
  unfold z9R at zR
  by_cases k0 : l.length = 0
  · have el : l = [] := List.eq_nil_of_length_eq_zero k0
    subst el
    have ea : areaE [] = r3E 0 0 0 := area_nil
    rw [ea, z9R_eq]
    generalize pc9 P (.slice a ([] : List Pt).length cc) = C9 at *
    have n0 : ((([] : List Pt).length : Nat) : Int) = 0 := rfl
    simp only [c24, G0, Nat.reduceAdd]
    simp only [↓R0, R1, simprocAttr, -Int.reduceAbs, z9R_eq', z9R_st, z9R_len, z9R_tk, z9R_ok, l9, t9, c9, n0, Fin, isEnd, resL, res1]
    exact ⟨_, rfl, rfl, fun k hk => by simp only [ne_nb hk, if_false]⟩
  generalize pc9 P (.slice a l.length cc) = C9 at *
  have k0' : ((l.length : Int) = 0) = False := eq_false (by omega)
  have hp0 : 0 < l.length := by omega
  have hp0' : ((0 : Int) < (l.length : Int)) = True := eq_true (by omega)
  have RBt : ∀ i j, RB (cr0 (ptAt l 0) (ptAt l i) (ptAt l j)) 8000005 ∧ RB (cr1 (ptAt l 0) (ptAt l i) (ptAt l j)) 8000005 ∧ RB (cr2 (ptAt l 0) (ptAt l i) (ptAt l j)) 8000005 := fun i j => cr_RB (ptAt_sz hs _) (ptAt_sz hs _) (ptAt_sz hs _)
  have bnd : ∀ i, i ≤ l.length → i * 8000006 + 1 ≤ 8589934592 := fun i hi => bnd1000 hi hn3
  have S0 : ∀ i, i ≤ l.length → RB (aS cr0 l i) 8589934592 := fun i hi => (aS_RB (fun i j => (RBt i j).1) i).le (bnd i hi)
  have S1 : ∀ i, i ≤ l.length → RB (aS cr1 l i) 8589934592 := fun i hi => (aS_RB (fun i j => (RBt i j).2.1) i).le (bnd i hi)
  have S2 : ∀ i, i ≤ l.length → RB (aS cr2 l i) 8589934592 := fun i hi => (aS_RB (fun i j => (RBt i j).2.2) i).le (bnd i hi)
  obtain ⟨k, off, blk, ea, hb, q1, q2⟩ := vert_at hx hp0
  subst ea
  have hk := hN _ _ hb
  have pf := pcoords_of (ptAt_sz hs 0)
  obtain ⟨F1, F2, F3⟩ := coords_rb (ptAt_sz hs 0)
  have f8 := (ptAt l 0).len8; have fo8 := (ptAt l 0).ok8; have ft8 := (ptAt l 0).tk8
  have Nk : ∀ j, (N + j = k) = False := fun j => eq_false (by omega)
  have w1 : IntKind.i64.wrap 1 = 1 := i64_in _ (by omega)
  have w2 : IntKind.i64.wrap 2 = 2 := i64_in _ (by omega)
  have w3 : IntKind.i64.wrap 3 = 3 := i64_in _ (by omega)
  have w4 : IntKind.i64.wrap 4 = 4 := i64_in _ (by omega)
  have nn : ∀ i : Int, Int.tmod 1 3 = 1 ∧ Int.tmod 2 3 = 2 ∧ Int.tmod 3 3 = 0 ∧ Int.tmod 4 3 = 1 := fun _ => ⟨rfl, rfl, rfl, rfl⟩
  obtain ⟨md1, md2, md3, md4⟩ := nn 0
  clear nn
  simp only [c24, G0, Nat.reduceAdd]
  simp only [↓R0, R1, simprocAttr, -Int.reduceAbs, ← zR, l9, t9, c9, k0', hp0, hp0', hb, Nk, q1, q2, f8, fo8, ft8, pf, v9_len, v9_ok, v9_tk, v9_new]
  refine lp_parts (fun n tm hp nx => ∃ (i M : Nat), n + i = l.length ∧ tmget tm 23 = .slice (some ⟨k, off, none⟩) l.length cc ∧ tmget tm 24 = .int .i64 l.length ∧ tmget tm 25 = .int .i64 i ∧ tmget tm 1 = .pointer (some ⟨N + 0, 0, none⟩) ∧ tmget tm 2 = .pointer (some ⟨N + 1, 0, none⟩) ∧ tmget tm 3 = .pointer (some ⟨N + 2, 0, none⟩) ∧ tmget tm 4 = .pointer (some ⟨N + 3, 0, none⟩) ∧
      hget hp (N + 0) = some ⟨28, 9, true, C9⟩ ∧ hget hp (N + 1) = some ⟨51, 9, true, r3E 0 0 0⟩ ∧ hget hp (N + 2) = some ⟨51, 9, true, r3E (aS cr0 l i) (aS cr1 l i) (aS cr2 l i)⟩ ∧ hget hp (N + 3) = some ⟨51, 9, true, r3E (ptAt l 0).cx (ptAt l 0).cy (ptAt l 0).cz⟩ ∧
      (∀ q, q < N → hget hp q = hget h q) ∧ N + 4 ≤ M ∧ nx = M + 0) ?_ l.length
    ⟨0, N + 4, by omega, ?_, ?_, ?_, ?_, ?_, ?_, ?_, ?_, ?_, ?_, ?_, ?_, Nat.le_refl _, rfl⟩
  rotate_left
  all_goals first | (simp only [↓R0, R1, simprocAttr, -Int.reduceAbs]; done) | (simp only [↓R0, R1, simprocAttr, -Int.reduceAbs]; rfl) | skip
  · intro q hq
    have nb : ∀ j, (N + j = q) = False := fun j => eq_false (by omega)
    simp only [↓R0, R1, simprocAttr, -Int.reduceAbs, nb]
  clear pf f8 fo8 ft8 q1 q2 Nk
  rintro n tm hp nx ⟨i, M, hn, tA, tB, tC, t1, t2, t3, t4, b0, b1, b2, b3, hh, hM, hnx⟩
  rw [hnx]
  clear hnx nx
  have M0 : ∀ j, (M + j = N + 0) = False := fun j => eq_false (by omega)
  have Q0 : ∀ j, (N + 0 = M + j) = False := fun j => eq_false (by omega)
  have M1 : ∀ j, (M + j = N + 1) = False := fun j => eq_false (by omega)
  have Q1 : ∀ j, (N + 1 = M + j) = False := fun j => eq_false (by omega)
  have M2 : ∀ j, (M + j = N + 2) = False := fun j => eq_false (by omega)
  have Q2 : ∀ j, (N + 2 = M + j) = False := fun j => eq_false (by omega)
  have M3 : ∀ j, (M + j = N + 3) = False := fun j => eq_false (by omega)
  have Q3 : ∀ j, (N + 3 = M + j) = False := fun j => eq_false (by omega)
  have R0x : ∀ d, (N = M + d) = False := fun d => eq_false (by omega)
  have R9x : (N = M) = False := eq_false (by omega)
  have R1x : (N + 1 = M) = False := eq_false (by omega)
  have T1x : (M = N + 1) = False := eq_false (by omega)
  have U1x : (M + 1 = N + 1) = False := eq_false (by omega)
  have V1x : (N + 1 = M + 1) = False := eq_false (by omega)
  have R2x : (N + 2 = M) = False := eq_false (by omega)
  have T2x : (M = N + 2) = False := eq_false (by omega)
  have U2x : (M + 1 = N + 2) = False := eq_false (by omega)
  have V2x : (N + 2 = M + 1) = False := eq_false (by omega)
  have R3x : (N + 3 = M) = False := eq_false (by omega)
  have T3x : (M = N + 3) = False := eq_false (by omega)
  have U3x : (M + 1 = N + 3) = False := eq_false (by omega)
  have V3x : (N + 3 = M + 1) = False := eq_false (by omega)
  by_cases c1 : i < l.length
  · obtain ⟨k', off', blk', ea', hb', p1, p2⟩ := vert_at hx c1
    cases ea'
    rw [hb] at hb'; cases hb'
    have hj : (i + 1) % l.length < l.length := Nat.mod_lt _ hp0
    obtain ⟨k', off', blk', ea', hb', r1, r2⟩ := vert_at hx hj
    cases ea'
    rw [hb] at hb'; cases hb'
    have hbb : hget hp k = some blk := by rw [hh k hk]; exact hb
    have nk : ∀ j, (M + j = k) = False := fun j => eq_false (by omega)
    have c1' : ((i : Int) < (l.length : Int)) = True := eq_true (by omega)
    have hj' : ((((i + 1) % l.length : Nat) : Int) < (l.length : Int)) = True := eq_true (by omega)
    have w1' : IntKind.i64.wrap ((i : Int) + 1) = ((i + 1 : Nat) : Int) := by rw [i64_in _ (by omega)]; omega
    have e1 := nx9 i c1
    have E0 : aS cr0 l (i + 1) = aS cr0 l i + (((ptAt l i).cy - (ptAt l 0).cy) * ((ptAt l ((i + 1) % l.length)).cz - (ptAt l 0).cz) - ((ptAt l i).cz - (ptAt l 0).cz) * ((ptAt l ((i + 1) % l.length)).cy - (ptAt l 0).cy)) := rfl
    have E1 : aS cr1 l (i + 1) = aS cr1 l i + (((ptAt l i).cz - (ptAt l 0).cz) * ((ptAt l ((i + 1) % l.length)).cx - (ptAt l 0).cx) - ((ptAt l i).cx - (ptAt l 0).cx) * ((ptAt l ((i + 1) % l.length)).cz - (ptAt l 0).cz)) := rfl
    have E2 : aS cr2 l (i + 1) = aS cr2 l i + (((ptAt l i).cx - (ptAt l 0).cx) * ((ptAt l ((i + 1) % l.length)).cy - (ptAt l 0).cy) - ((ptAt l i).cy - (ptAt l 0).cy) * ((ptAt l ((i + 1) % l.length)).cx - (ptAt l 0).cx)) := rfl
    have z0 := S0 i (by omega)
    have z1 := S1 i (by omega)
    have z2 := S2 i (by omega)
    have pX := pcoords_of (ptAt_sz hs i)
    have pY := pcoords_of (ptAt_sz hs ((i + 1) % l.length))
    obtain ⟨X1, X2, X3⟩ := coords_rb (ptAt_sz hs i)
    obtain ⟨Y1, Y2, Y3⟩ := coords_rb (ptAt_sz hs ((i + 1) % l.length))
    have x8 := (ptAt l i).len8; have xo8 := (ptAt l i).ok8; have xt8 := (ptAt l i).tk8
    have y8 := (ptAt l ((i + 1) % l.length)).len8; have yo8 := (ptAt l ((i + 1) % l.length)).ok8; have yt8 := (ptAt l ((i + 1) % l.length)).tk8
    have lX := less_of X1 X2 X3 F1 F2 F3 (by omega)
    have lY := less_of Y1 Y2 Y3 F1 F2 F3 (by omega)
    have u0 := X1.sub F1 (k := 2000001) (by omega)
    have u1 := X2.sub F2 (k := 2000001) (by omega)
    have u2 := X3.sub F3 (k := 2000001) (by omega)
    have v0 := Y1.sub F1 (k := 2000001) (by omega)
    have v1 := Y2.sub F2 (k := 2000001) (by omega)
    have v2 := Y3.sub F3 (k := 2000001) (by omega)
    generalize (ptAt l i).cx - (ptAt l 0).cx = U0 at *
    generalize (ptAt l i).cy - (ptAt l 0).cy = U1 at *
    generalize (ptAt l i).cz - (ptAt l 0).cz = U2 at *
    generalize (ptAt l ((i + 1) % l.length)).cx - (ptAt l 0).cx = V0 at *
    generalize (ptAt l ((i + 1) % l.length)).cy - (ptAt l 0).cy = V1 at *
    generalize (ptAt l ((i + 1) % l.length)).cz - (ptAt l 0).cz = V2 at *
    have A0 := qMul_rE u1 v2 (by omega) (by omega)
    have B0 := qMul_rE u2 v1 (by omega) (by omega)
    have A1 := qMul_rE u2 v0 (by omega) (by omega)
    have B1 := qMul_rE u0 v2 (by omega) (by omega)
    have A2 := qMul_rE u0 v1 (by omega) (by omega)
    have B2 := qMul_rE u1 v0 (by omega) (by omega)
    have a0 := u1.mul v2 (k := 4000002) (by omega)
    have d0 := u2.mul v1 (k := 4000002) (by omega)
    have a1 := u2.mul v0 (k := 4000002) (by omega)
    have d1 := u0.mul v2 (k := 4000002) (by omega)
    have a2 := u0.mul v1 (k := 4000002) (by omega)
    have d2 := u1.mul v0 (k := 4000002) (by omega)
    have C0 := qSub_rE a0 d0 (by omega) (by omega)
    have C1 := qSub_rE a1 d1 (by omega) (by omega)
    have C2 := qSub_rE a2 d2 (by omega) (by omega)
    have D0 := qAdd_rE z0 (a0.sub d0 (k := 8000005) (by omega)) (by omega) (by omega)
    have D1 := qAdd_rE z1 (a1.sub d1 (k := 8000005) (by omega)) (by omega) (by omega)
    have D2 := qAdd_rE z2 (a2.sub d2 (k := 8000005) (by omega)) (by omega) (by omega)
    clear RBt bnd S0 S1 S2 z0 z1 z2 X1 X2 X3 Y1 Y2 Y3 F1 F2 F3 u0 u1 u2 v0 v1 v2 a0 a1 a2 d0 d1 d2
    generalize aS cr0 l i = s0 at *
    generalize aS cr1 l i = s1 at *
    generalize aS cr2 l i = s2 at *
    generalize (ptAt l 0).cx = f0 at *
    generalize (ptAt l 0).cy = f1 at *
    generalize (ptAt l 0).cz = f2 at *
    simp only [↓R0, R1, simprocAttr, -Int.reduceAbs, ← zR, tA, tB, tC, t1, t2, t3, t4, b0, b1, b2, b3, c1, c1', hbb, nk, p1, p2, r1, r2, hj, hj', e1, x8, xo8, xt8, y8, yo8, yt8, pX, pY, lX, lY, l9, t9, c9, v9_len, v9_ok, v9_tk, v9_st, M0, Q0, M1, Q1, M2, Q2, M3, Q3, R0x, R9x, R1x, T1x, U1x, V1x, R2x, T2x, U2x, V2x, R3x, T3x, U3x, V3x]
    refine lp_step ?_
    simp only [↓R0, R1, simprocAttr, -Int.reduceAbs, t2, t3, t4, b2, b3, setR_length, v9_len, v9_ok, v9_g0, v9_g1, v9_g2, v9_s0, v9_s1, v9_s2, rE_l3, rE_o3, A0, A1, A2, B0, B1, B2, C0, C1, C2, D0, D1, D2, w1, w2, w3, w4, md1, md2, md3, md4, M0, Q0, M1, Q1, M2, Q2, M3, Q3, R0x, R9x, R1x, T1x, U1x, V1x, R2x, T2x, U2x, V2x, R3x, T3x, U3x, V3x]
    refine lp_step ?_
    simp only [↓R0, R1, simprocAttr, -Int.reduceAbs, t2, t3, t4, b2, b3, setR_length, v9_len, v9_ok, v9_g0, v9_g1, v9_g2, v9_s0, v9_s1, v9_s2, rE_l3, rE_o3, A0, A1, A2, B0, B1, B2, C0, C1, C2, D0, D1, D2, w1, w2, w3, w4, md1, md2, md3, md4, M0, Q0, M1, Q1, M2, Q2, M3, Q3, R0x, R9x, R1x, T1x, U1x, V1x, R2x, T2x, U2x, V2x, R3x, T3x, U3x, V3x]
    refine lp_step ?_
    simp only [↓R0, R1, simprocAttr, -Int.reduceAbs, t2, t3, t4, b2, b3, setR_length, v9_len, v9_ok, v9_g0, v9_g1, v9_g2, v9_s0, v9_s1, v9_s2, rE_l3, rE_o3, A0, A1, A2, B0, B1, B2, C0, C1, C2, D0, D1, D2, w1, w2, w3, w4, md1, md2, md3, md4, M0, Q0, M1, Q1, M2, Q2, M3, Q3, R0x, R9x, R1x, T1x, U1x, V1x, R2x, T2x, U2x, V2x, R3x, T3x, U3x, V3x]
    refine lp_step ?_
    simp only [↓R0, R1, simprocAttr, -Int.reduceAbs, tA, tB, tC, t1, t2, t3, t4, b0, b1, b2, b3, w1', M0, Q0, M1, Q1, M2, Q2, M3, Q3, R0x, R9x, R1x, T1x, U1x, V1x, R2x, T2x, U2x, V2x, R3x, T3x, U3x, V3x]
    refine ⟨n - 1, by omega, i + 1, M + 2, by omega, rfl, ?_, fun q hq => ?_, by omega, rfl⟩
    · rw [E0, E1, E2]
    have nb : ∀ j, (N + j = q) = False := fun j => eq_false (by omega)
    have nc : ∀ j, (M + j = q) = False := fun j => eq_false (by omega)
    simp only [↓R0, R1, simprocAttr, -Int.reduceAbs, nb, nc]
    exact hh q hq
  · have e : i = l.length := by omega
    subst e
    have c1' : ((l.length : Int) < (l.length : Int)) = False := eq_false (by omega)
    have z0 := S0 l.length (Nat.le_refl _)
    have z1 := S1 l.length (Nat.le_refl _)
    have z2 := S2 l.length (Nat.le_refl _)
    have D0 := qDiv2_rE z0 (by omega)
    have D1 := qDiv2_rE z1 (by omega)
    have D2 := qDiv2_rE z2 (by omega)
    have qf := qFrom2
    unfold areaE areaV
    clear RBt bnd S0 S1 S2 z0 z1 z2
    generalize aS cr0 l l.length = s0 at *
    generalize aS cr1 l l.length = s1 at *
    generalize aS cr2 l l.length = s2 at *
    simp only [↓R0, R1, simprocAttr, -Int.reduceAbs, tA, tB, tC, c1']
    refine lp_step ?_
    simp only [↓R0, R1, simprocAttr, -Int.reduceAbs, t2, t3, b2, b3, qf, v9_len, v9_ok, v9_g0, v9_g1, v9_g2, v9_s0, v9_s1, v9_s2, rE_l3, rE_o3, D0, D1, D2, w1, w2, w3]
    refine lp_step ?_
    simp only [↓R0, R1, simprocAttr, -Int.reduceAbs, t2, t3, b2, b3, qf, v9_len, v9_ok, v9_g0, v9_g1, v9_g2, v9_s0, v9_s1, v9_s2, rE_l3, rE_o3, D0, D1, D2, w1, w2, w3]
    refine lp_step ?_
    simp only [↓R0, R1, simprocAttr, -Int.reduceAbs, t2, t3, b2, b3, qf, v9_len, v9_ok, v9_g0, v9_g1, v9_g2, v9_s0, v9_s1, v9_s2, rE_l3, rE_o3, D0, D1, D2, w1, w2, w3]
    refine lp_step ?_
    simp only [↓R0, R1, simprocAttr, -Int.reduceAbs, t2, t3, b1, v9_len, v9_ok, v9_tk, v9_st, Fin, isEnd, resL, res1]
    refine ⟨_, rfl, rfl, fun q hq => ?_⟩
    have nb : ∀ j, (N + j = q) = False := fun j => eq_false (by omega)
    simp only [↓R0, R1, simprocAttr, -Int.reduceAbs, nb]
    exact hh q hq
end Go.Eng
end
section
set_option linter.unusedVariables false
set_option linter.unusedSimpArgs false
set_option linter.unusedSectionVars false
set_option maxRecDepth 20000
namespace Go.Eng
open Go Go.Proofs Go.IntWalk
def spR3From8 : List Value → Option Value
  | [.int .i64 x] => if -1000 ≤ x ∧ x ≤ 1000 then some (.agg ⟨rE (x : Rat)⟩) else none
  | _ => none
def c32 : ICode :=
  (.seq (.reg [qq 2 (.alloc 49 3 [(.bool false), e0, e0])]) (.seq (.reg [qq 6 (.mv (.t 0)), qq 7 (.call 69 [(.t 6)]), qq 8 (.call 71 []), qq 9 (.call 70 [(.t 7), (.t 8)]), qq 5 (.mv (.t 9)), qq 10 (.ext (.t 5) 0), qq 11 (.ext (.t 5) 1), qq 3 (.alloc 49 3 [(.bool false), e0, e0]), qn (.store 3 (.t 3) (.t 10)), qq 4 (.mv (.t 11))]) (.seq (.reg [qq 12 (.load true 3 (.t 3)), qn (.store 3 (.t 2) (.t 12))]) .ret)))
theorem tr32 : trFun Tryz.prog 32 = some ⟨13, [.cell 2 true 3], c32⟩ := by kernel_rfl
theorem ok_r3From8 : SpecOK Tryz.prog 32 (flat spR3From8) := by
  refine flat_run (env_cons ok_r2From (env_cons ok_r3one (env_cons ok_r3Make (env_nil _)))) mixed tr32 ?_
  intro args v h N hG
  unfold spR3From8 at hG
  split at hG
  case h_2 => cases hG
  rename_i x
  split at hG
  case isFalse => cases hG
  rename_i hl
  obtain ⟨h1, h2⟩ := hl
  cases hG
  refine ⟨rfl, by simp, ?_⟩
  have g : -9223372036854775808 ≤ x ∧ x ≤ 9223372036854775807 := ⟨by omega, by omega⟩
  have o1 : sv false (bl (Int.natAbs 1)) = 1 := by rw [sv_false, nl_bl]; rfl
  have o2 : (bl (Int.natAbs 1)).length ≤ 68719476736 := Nat.le_trans (bl_length_le (k := 1).2 (by decide)) (by omega)
  have o3 : ¬ (Int.natAbs 1 = 0) := by decide
  have o4 : (bl x.natAbs).length ≤ 68719476736 := Nat.le_trans (bl_length_le (k := 2).2 (by omega)) (by omega)
  rw [← divInt_one]
  simp only [c32, G0, Nat.reduceAdd]
  simp only [↓R0, R1, simprocAttr, -Int.reduceAbs, spI2From, spOne, spR3Make, g, o1, o2, o3, o4, sv_can, nl_bl, Fin, isEnd, resL, res1, iE, rE]
  exact ⟨_, rfl, rfl, fun k hk => by simp only [ne_nb hk, if_false]⟩
def spL8pt : List Value → Option Value
  | [.int .i64 x, .int .i64 y, .int .i64 z] => if (-1000 ≤ x ∧ x ≤ 1000) ∧ (-1000 ≤ y ∧ y ≤ 1000) ∧ -1000 ≤ z ∧ z ≤ 1000 then some (.agg ⟨(ptI x y z 1).cells⟩) else none
  | _ => none
def spL8flat : List Value → Option Value
  | [.int .i64 x, .int .i64 y, .int .i64 z, .int .i64 w] => if (-1000 ≤ x ∧ x ≤ 1000) ∧ (-1000 ≤ y ∧ y ≤ 1000) ∧ (-1000 ≤ z ∧ z ≤ 1000) ∧ -1000 ≤ w ∧ w ≤ 1000 then some (.agg ⟨(ptI x y z w).cells⟩) else none
  | _ => none
theorem from_ie {n : Int} (h : -1000 ≤ n ∧ n ≤ 1000) : spI2From [.int .i64 n] = some (.agg ⟨iE n⟩) := if_pos ⟨by omega, by omega⟩
theorem ptI_bld (x y z w : Int) : setR (setR (setR (setR [.bool false, .string ⟨⟨[]⟩⟩, .bool false, .string ⟨⟨[]⟩⟩, .bool false, .string ⟨⟨[]⟩⟩, .bool false, .string ⟨⟨[]⟩⟩] 0 (iE x)) 2 (iE y)) 4 (iE z)) 6 (iE w) = (ptI x y z w).cells := rfl
def c31 : ICode :=
  (.seq (.reg [qq 6 (.alloc 41 8 [(.bool false), e0, (.bool false), e0, (.bool false), e0, (.bool false), e0])]) (.seq (.reg [qq 7 (.mv (.t 0)), qq 8 (.call 69 [(.t 7)]), qq 9 (.mv (.t 1)), qq 10 (.call 69 [(.t 9)]), qq 11 (.mv (.t 2)), qq 12 (.call 69 [(.t 11)]), qq 13 (.call 69 [(ci 1)]), qq 14 (.build [(.bool false), e0, (.bool false), e0, (.bool false), e0, (.bool false), e0] [(0, 2, (.t 8)), (2, 2, (.t 10)), (4, 2, (.t 12)), (6, 2, (.t 13))]), qn (.store 8 (.t 6) (.t 14))]) .ret))
theorem tr31 : trFun Tryz.prog 31 = some ⟨15, [.cell 6 true 8], c31⟩ := by kernel_rfl
theorem ok_L8pt : SpecOK Tryz.prog 31 (flat spL8pt) := by
  refine flat_run (env_cons ok_r2From (env_nil _)) mixed tr31 ?_
  intro args v h N hG
  unfold spL8pt at hG
  split at hG
  case h_2 => cases hG
  rename_i x y z
  split at hG
  case isFalse => cases hG
  rename_i hl
  obtain ⟨h1, h2, h3⟩ := hl
  cases hG
  refine ⟨rfl, by simp, ?_⟩
  have f1 := from_ie h1
  have f2 := from_ie h2
  have f3 := from_ie h3
  have f4 := from_ie (n := 1) (by decide)
  have b := ptI_bld x y z 1
  have c8 := (ptI x y z 1).len8; have o8 := (ptI x y z 1).ok8; have t8 := (ptI x y z 1).tk8
  simp only [c31, G0, Nat.reduceAdd]
  simp only [↓R0, R1, simprocAttr, -Int.reduceAbs, f1, f2, f3, f4, b, c8, o8, t8, setR_length, iE_len, iE_ok, Fin, isEnd, resL, res1]
  exact ⟨_, rfl, rfl, fun k hk => by simp only [ne_nb hk, if_false]⟩
def c30 : ICode :=
  (.seq (.reg [qq 8 (.alloc 25 8 [(.bool false), e0, (.bool false), e0, (.bool false), e0, (.bool false), e0])]) (.seq (.reg [qq 9 (.mv (.t 0)), qq 10 (.call 69 [(.t 9)]), qq 11 (.mv (.t 1)), qq 12 (.call 69 [(.t 11)]), qq 13 (.mv (.t 2)), qq 14 (.call 69 [(.t 13)]), qq 15 (.mv (.t 3)), qq 16 (.call 69 [(.t 15)]), qq 17 (.build [(.bool false), e0, (.bool false), e0, (.bool false), e0, (.bool false), e0] [(0, 2, (.t 10)), (2, 2, (.t 12)), (4, 2, (.t 14)), (6, 2, (.t 16))]), qn (.store 8 (.t 8) (.t 17))]) .ret))
theorem tr30 : trFun Tryz.prog 30 = some ⟨18, [.cell 8 true 8], c30⟩ := by kernel_rfl
theorem ok_L8flat : SpecOK Tryz.prog 30 (flat spL8flat) := by
  refine flat_run (env_cons ok_r2From (env_nil _)) mixed tr30 ?_
  intro args v h N hG
  unfold spL8flat at hG
  split at hG
  case h_2 => cases hG
  rename_i x y z w
  split at hG
  case isFalse => cases hG
  rename_i hl
  obtain ⟨h1, h2, h3, h4⟩ := hl
  cases hG
  refine ⟨rfl, by simp, ?_⟩
  have f1 := from_ie h1
  have f2 := from_ie h2
  have f3 := from_ie h3
  have f4 := from_ie h4
  have b := ptI_bld x y z w
  have c8 := (ptI x y z w).len8; have o8 := (ptI x y z w).ok8; have t8 := (ptI x y z w).tk8
  simp only [c30, G0, Nat.reduceAdd]
  simp only [↓R0, R1, simprocAttr, -Int.reduceAbs, f1, f2, f3, f4, b, c8, o8, t8, setR_length, iE_len, iE_ok, Fin, isEnd, resL, res1]
  exact ⟨_, rfl, rfl, fun k hk => by simp only [ne_nb hk, if_false]⟩
@[irreducible] def xA := ptI 0 0 0 1
@[irreducible] def xB := ptI 2 0 0 1
@[irreducible] def xC := ptI 2 2 0 1
@[irreducible] def xD := ptI 0 2 0 1
@[irreducible] def xP := ptI 0 0 1 0
@[irreducible] def xQ := ptI 1 1 0 2
theorem x_chk : chk xP [xA, xB, xC, xD] = 0 := by decide +kernel
theorem x_prt1 : prt xQ [xA, xB, xC, xD] (-1) = [xA, xB, xD] := by decide +kernel
theorem x_prt2 : prt xQ [xA, xB, xC, xD] 1 = [xB, xC, xD] := by decide +kernel
theorem x_any1 : anyP xQ [xA, xB, xC, xD] (-1) [xA, xB, xC, xD].length := by decide +kernel
theorem x_any2 : anyP xQ [xA, xB, xC, xD] 1 [xA, xB, xC, xD].length := by decide +kernel
theorem x_ar1 : areaE [xA, xB, xD] = r3E 0 0 2 := by
  unfold areaE
  rw [show areaV cr0 [xA, xB, xD] = 0 by decide +kernel, show areaV cr1 [xA, xB, xD] = 0 by decide +kernel, show areaV cr2 [xA, xB, xD] = 2 by decide +kernel]
theorem x_ar2 : areaE [xB, xC, xD] = r3E 0 0 2 := by
  unfold areaE
  rw [show areaV cr0 [xB, xC, xD] = 0 by decide +kernel, show areaV cr1 [xB, xC, xD] = 0 by decide +kernel, show areaV cr2 [xB, xC, xD] = 2 by decide +kernel]
theorem x_sz : polySz 1000 xP [xA, xB, xC, xD] := by decide +kernel
theorem x_sz1 : polySz 1000000 xP [xA, xB, xD] := by
  have h := x_sz
  exact ⟨h.1.le (by omega), fun p hp => (h.2.1 p (by simp at hp ⊢; rcases hp with h | h | h <;> simp [h])).le (by omega), by simp⟩
theorem x_sz2 : polySz 1000000 xP [xB, xC, xD] := by
  have h := x_sz
  exact ⟨h.1.le (by omega), fun p hp => (h.2.1 p (by simp at hp ⊢; rcases hp with h | h | h <;> simp [h])).le (by omega), by simp⟩
theorem x_sz0 : polySz 1000000 xP [xA, xB, xC, xD] := by
  have h := x_sz
  exact ⟨h.1.le (by omega), fun p hp => (h.2.1 p hp).le (by omega), by simp⟩
theorem x_qsz : xQ.sz 1000 := by decide +kernel
theorem x_w : ∀ p ∈ [xA, xB, xC, xD], 0 < p.w := by decide +kernel
theorem x_split : SplitOK xP xQ [xA, xB, xC, xD] := ⟨x_sz, x_qsz, x_w⟩
theorem x_pA : spL8pt [.int .i64 0, .int .i64 0, .int .i64 0] = some (.agg ⟨xA.cells⟩) := by unfold spL8pt xA; exact if_pos (by decide)
theorem x_pB : spL8pt [.int .i64 2, .int .i64 0, .int .i64 0] = some (.agg ⟨xB.cells⟩) := by unfold spL8pt xB; exact if_pos (by decide)
theorem x_pC : spL8pt [.int .i64 2, .int .i64 2, .int .i64 0] = some (.agg ⟨xC.cells⟩) := by unfold spL8pt xC; exact if_pos (by decide)
theorem x_pD : spL8pt [.int .i64 0, .int .i64 2, .int .i64 0] = some (.agg ⟨xD.cells⟩) := by unfold spL8pt xD; exact if_pos (by decide)
theorem x_pP : spL8flat [.int .i64 0, .int .i64 0, .int .i64 1, .int .i64 0] = some (.agg ⟨xP.cells⟩) := by unfold spL8flat xP; exact if_pos (by decide)
theorem x_pQ : spL8flat [.int .i64 1, .int .i64 1, .int .i64 0, .int .i64 2] = some (.agg ⟨xQ.cells⟩) := by unfold spL8flat xQ; exact if_pos (by decide)
theorem b4 (p q r s : Pt) : setR (setR (setR (setR [.bool false, .string ⟨⟨[]⟩⟩, .bool false, .string ⟨⟨[]⟩⟩, .bool false, .string ⟨⟨[]⟩⟩, .bool false, .string ⟨⟨[]⟩⟩, .bool false, .string ⟨⟨[]⟩⟩, .bool false, .string ⟨⟨[]⟩⟩, .bool false, .string ⟨⟨[]⟩⟩, .bool false, .string ⟨⟨[]⟩⟩, .bool false, .string ⟨⟨[]⟩⟩, .bool false, .string ⟨⟨[]⟩⟩, .bool false, .string ⟨⟨[]⟩⟩, .bool false, .string ⟨⟨[]⟩⟩, .bool false, .string ⟨⟨[]⟩⟩, .bool false, .string ⟨⟨[]⟩⟩, .bool false, .string ⟨⟨[]⟩⟩, .bool false, .string ⟨⟨[]⟩⟩] 0 p.cells) 8 q.cells) 16 r.cells) 24 s.cells = ptsC [p, q, r, s] := by kernel_rfl
theorem b3 (p q r : Pt) : setR (setR (setR [.bool false, .string ⟨⟨[]⟩⟩, .bool false, .string ⟨⟨[]⟩⟩, .bool false, .string ⟨⟨[]⟩⟩, .bool false, .string ⟨⟨[]⟩⟩, .bool false, .string ⟨⟨[]⟩⟩, .bool false, .string ⟨⟨[]⟩⟩, .bool false, .string ⟨⟨[]⟩⟩, .bool false, .string ⟨⟨[]⟩⟩, .bool false, .string ⟨⟨[]⟩⟩, .bool false, .string ⟨⟨[]⟩⟩, .bool false, .string ⟨⟨[]⟩⟩, .bool false, .string ⟨⟨[]⟩⟩] 0 p.cells) 8 q.cells) 16 r.cells = ptsC [p, q, r] := by kernel_rfl
theorem p_bld (p : Pt) (k n : Nat) : setR (setR z9 0 p.cells) 8 [.slice (some ⟨k, 0, none⟩) n n] = pc9 p (pSl k n) := rfl
theorem p_bld' (p : Pt) (k n : Nat) : (setR z9 0 p.cells).set 8 (.slice (some ⟨k, 0, none⟩) n n) = pc9 p (pSl k n) := rfl
theorem p_ok (p : Pt) (k n : Nat) : (pc9 p (pSl k n)).all okCell = true := rfl
theorem p_st (p : Pt) (k n : Nat) : setR z9 0 (pc9 p (pSl k n)) = pc9 p (pSl k n) := rfl
theorem p_st8 (p : Pt) : setR [.bool false, .string ⟨⟨[]⟩⟩, .bool false, .string ⟨⟨[]⟩⟩, .bool false, .string ⟨⟨[]⟩⟩, .bool false, .string ⟨⟨[]⟩⟩] 0 p.cells = p.cells := rfl
theorem v_bld : setR (r3E 0 0 0) 6 (rE 2) = r3E 0 0 2 := rfl
theorem from2 : spR3From8 [.int .i64 2] = some (.agg ⟨rE 2⟩) := by unfold spR3From8; exact if_pos (by decide)
theorem poly_at {hp : Heap} {k e s : Nat} {x : Bool} {P : Pt} {l : List Pt} (h : hget hp k = some ⟨e, s, x, ptsC l⟩) (hn : l ≠ []) {n : Nat} (hl : l.length = n) : decPoly hp (pc9 P (pSl k n)) = some (P, l) := by
  subst hl; exact decPoly_of (ptsC_list h hn (Nat.le_refl _))
theorem same_at {hp : Heap} {k k' e s e' s' : Nat} {x x' : Bool} {P : Pt} {l : List Pt} (h : hget hp k = some ⟨e, s, x, ptsC l⟩) (h' : hget hp k' = some ⟨e', s', x', ptsC l⟩) (hn : l ≠ []) {n : Nat} (hl : l.length = n) (hm : n ≤ 1000000) :
    spR8Same [.agg ⟨pc9 P (pSl k n)⟩, .agg ⟨pc9 P (pSl k' n)⟩] hp = some (.bool true) := by
  unfold spR8Same
  simp only [poly_at h hn hl, poly_at h' hn hl]
  rw [if_pos ⟨by omega, by omega⟩]
  simp
theorem x_NL : splitNL xP xQ [xA, xB, xC, xD] = ⟨2, fun σ => .tuple ⟨[.agg ⟨pc9 xP (pSl (σ 0) 3)⟩, .agg ⟨pc9 xP (pSl (σ 1) 3)⟩]⟩, fun _ => 41, fun _ => 8, fun _ i => if i = 0 then ptsC [xA, xB, xD] else ptsC [xB, xC, xD]⟩ := by
  unfold splitNL
  rw [if_pos x_any1, if_pos x_any2, x_prt1, x_prt2]; rfl
theorem x_s1 {hp : Heap} {k : Nat} (h : hget hp k = some ⟨41, 8, true, ptsC [xA, xB, xC, xD]⟩) : spR8split [.agg ⟨pc9 xP (pSl k 4)⟩, .agg ⟨xQ.cells⟩] hp = some ⟨2, fun σ => .tuple ⟨[.agg ⟨pc9 xP (pSl (σ 0) 3)⟩, .agg ⟨pc9 xP (pSl (σ 1) 3)⟩]⟩, fun _ => 41, fun _ => 8, fun _ i => if i = 0 then ptsC [xA, xB, xD] else ptsC [xB, xC, xD]⟩ := by
  unfold spR8split
  have e := poly_at (n := 4) (P := xP) h (List.cons_ne_nil _ _) rfl
  simp only [e, decP_cells]
  rw [if_pos x_split, x_NL]
theorem x_s2 {hp : Heap} {k : Nat} (h : hget hp k = some ⟨41, 8, true, ptsC [xA, xB, xC, xD]⟩) : spPchk [.agg ⟨pc9 xP (pSl k 4)⟩] hp = some (.int .i64 0) := by
  unfold spPchk
  have e := poly_at (n := 4) (P := xP) h (List.cons_ne_nil _ _) rfl
  simp only [e]
  rw [if_pos x_sz0, x_chk]
theorem x_s3 {hp : Heap} {k : Nat} (h : hget hp k = some ⟨41, 8, false, ptsC [xA, xB, xD]⟩) : spParea [.agg ⟨pc9 xP (pSl k 3)⟩] hp = some (.agg ⟨r3E 0 0 2⟩) := by
  unfold spParea
  have e := poly_at (n := 3) (P := xP) h (List.cons_ne_nil _ _) rfl
  simp only [e]
  rw [if_pos x_sz1, x_ar1]
theorem x_s4 {hp : Heap} {k : Nat} (h : hget hp k = some ⟨41, 8, false, ptsC [xB, xC, xD]⟩) : spParea [.agg ⟨pc9 xP (pSl k 3)⟩] hp = some (.agg ⟨r3E 0 0 2⟩) := by
  unfold spParea
  have e := poly_at (n := 3) (P := xP) h (List.cons_ne_nil _ _) rfl
  simp only [e]
  rw [if_pos x_sz2, x_ar2]
theorem x_s5 {hp : Heap} {k k' : Nat} (h : hget hp k = some ⟨41, 8, false, ptsC [xA, xB, xD]⟩) (h' : hget hp k' = some ⟨41, 8, true, ptsC [xA, xB, xD]⟩) :
    spR8Same [.agg ⟨pc9 xP (pSl k 3)⟩, .agg ⟨pc9 xP (pSl k' 3)⟩] hp = some (.bool true) := same_at h h' (List.cons_ne_nil _ _) rfl (by omega)
theorem x_s6 {hp : Heap} {k k' : Nat} (h : hget hp k = some ⟨41, 8, false, ptsC [xB, xC, xD]⟩) (h' : hget hp k' = some ⟨41, 8, true, ptsC [xB, xC, xD]⟩) :
    spR8Same [.agg ⟨pc9 xP (pSl k 3)⟩, .agg ⟨pc9 xP (pSl k' 3)⟩] hp = some (.bool true) := same_at h h' (List.cons_ne_nil _ _) rfl (by omega)
theorem b_call2' {N k d j : Nat} {v : Value} {b b' : Option Blk} {log : Log} {tm : List (Nat × Value)} {hp : Heap} {KK : Log → St → Prop} :
    @aftD (some d) true j (some (v, [(N + (k + 1), b), (N + k, b')], 2)) ⟨(log, ⟨tm, hp, N + k⟩, KK)⟩ = KK ((j, [(N + (k + 1), b), (N + k, b')]) :: log) ⟨(d, v) :: tm, (N + (k + 1), b) :: (N + k, b') :: hp, N + (k + 2)⟩ := by
  simp [aftD, putT, freshOnly, Nat.add_assoc]
theorem ceq_9 (x y z : Rat) : ceq [.b, .s, .s, .b, .s, .s, .b, .s, .s] (r3E x y z) (r3E x y z) = some true := by
  simp only [r3E, rE, List.cons_append, List.nil_append, ceq, Option.map_some, decide_true, Bool.and_true]
def spL8alive : List Value → Option Value
  | [] => some (.bool true)
  | _ => none
def c9 : ICode :=
  (.seq (.reg [qq 0 (.mv (.c (.bool false)))]) (.seq (.reg [qq 6 (.call 30 [(ci 0), (ci 0), (ci 1), (ci 0)]), qq 1 (.alloc 25 8 [(.bool false), e0, (.bool false), e0, (.bool false), e0, (.bool false), e0]), qn (.store 8 (.t 1) (.t 6))]) (.seq (.dreg [qu 7 (.load true 8 (.t 1)), qu 8 (.call 31 [(ci 0), (ci 0), (ci 0)]), qu 9 (.call 31 [(ci 2), (ci 0), (ci 0)]), qu 10 (.call 31 [(ci 2), (ci 2), (ci 0)]), qu 11 (.call 31 [(ci 0), (ci 2), (ci 0)]), qu 12 (.bslice 41 8 4 [(.bool false), e0, (.bool false), e0, (.bool false), e0, (.bool false), e0, (.bool false), e0, (.bool false), e0, (.bool false), e0, (.bool false), e0, (.bool false), e0, (.bool false), e0, (.bool false), e0, (.bool false), e0, (.bool false), e0, (.bool false), e0, (.bool false), e0, (.bool false), e0] [(0, 8, (.t 8)), (8, 8, (.t 9)), (16, 8, (.t 10)), (24, 8, (.t 11))]), qu 13 (.build [(.bool false), e0, (.bool false), e0, (.bool false), e0, (.bool false), e0, (.slice none 0 0)] [(0, 8, (.t 7)), (8, 1, (.t 12))]), qu 2 (.alloc 28 9 [(.bool false), e0, (.bool false), e0, (.bool false), e0, (.bool false), e0, (.slice none 0 0)]), qm (.store 9 (.t 2) (.t 13))]) (.seq (.dreg [qu 15 (.load true 9 (.t 2)), qu 16 (.call 30 [(ci 1), (ci 1), (ci 0), (ci 2)]), qu 17 (.call 15 [(.t 15), (.t 16)]), qu 14 (.mv (.t 17)), qu 18 (.ext (.t 14) 0), qu 19 (.ext (.t 14) 1), qu 3 (.alloc 28 9 [(.bool false), e0, (.bool false), e0, (.bool false), e0, (.bool false), e0, (.slice none 0 0)]), qu 4 (.alloc 28 9 [(.bool false), e0, (.bool false), e0, (.bool false), e0, (.bool false), e0, (.slice none 0 0)]), qm (.store 9 (.t 3) (.t 18)), qm (.store 9 (.t 4) (.t 19))]) (.seq (.reg [qq 20 (.call 32 [(ci 2)]), qq 5 (.alloc 49 3 [(.bool false), e0, e0]), qn (.store 3 (.t 5) (.t 20))]) (.seq (.dreg [qu 21 (.load true 9 (.t 2)), qu 22 (.call 11 [(.t 21)]), qu 23 (.bin .eql (.t 22) (ci 0)), qu 24 (.mv (.t 23)), ⟨(some 25), (some (24, true)), [], (.load true 9 (.t 3))⟩, ⟨(some 26), (some (24, true)), [], (.load true 8 (.t 1))⟩, ⟨(some 27), (some (24, true)), [], (.call 31 [(ci 0), (ci 0), (ci 0)])⟩, ⟨(some 28), (some (24, true)), [], (.call 31 [(ci 2), (ci 0), (ci 0)])⟩, ⟨(some 29), (some (24, true)), [], (.call 31 [(ci 0), (ci 2), (ci 0)])⟩, ⟨(some 30), (some (24, true)), [], (.bslice 41 8 3 [(.bool false), e0, (.bool false), e0, (.bool false), e0, (.bool false), e0, (.bool false), e0, (.bool false), e0, (.bool false), e0, (.bool false), e0, (.bool false), e0, (.bool false), e0, (.bool false), e0, (.bool false), e0] [(0, 8, (.t 27)), (8, 8, (.t 28)), (16, 8, (.t 29))])⟩, ⟨(some 31), (some (24, true)), [], (.build [(.bool false), e0, (.bool false), e0, (.bool false), e0, (.bool false), e0, (.slice none 0 0)] [(0, 8, (.t 26)), (8, 1, (.t 30))])⟩, ⟨(some 32), (some (24, true)), [], (.call 17 [(.t 25), (.t 31)])⟩, qu 33 (.pick (.t 24) (.t 32) (.c (.bool false))), qu 34 (.mv (.t 33)), ⟨(some 35), (some (34, true)), [], (.load true 9 (.t 4))⟩, ⟨(some 36), (some (34, true)), [], (.load true 8 (.t 1))⟩, ⟨(some 37), (some (34, true)), [], (.call 31 [(ci 2), (ci 0), (ci 0)])⟩, ⟨(some 38), (some (34, true)), [], (.call 31 [(ci 2), (ci 2), (ci 0)])⟩, ⟨(some 39), (some (34, true)), [], (.call 31 [(ci 0), (ci 2), (ci 0)])⟩, ⟨(some 40), (some (34, true)), [], (.bslice 41 8 3 [(.bool false), e0, (.bool false), e0, (.bool false), e0, (.bool false), e0, (.bool false), e0, (.bool false), e0, (.bool false), e0, (.bool false), e0, (.bool false), e0, (.bool false), e0, (.bool false), e0, (.bool false), e0] [(0, 8, (.t 37)), (8, 8, (.t 38)), (16, 8, (.t 39))])⟩, ⟨(some 41), (some (34, true)), [], (.build [(.bool false), e0, (.bool false), e0, (.bool false), e0, (.bool false), e0, (.slice none 0 0)] [(0, 8, (.t 36)), (8, 1, (.t 40))])⟩, ⟨(some 42), (some (34, true)), [], (.call 17 [(.t 35), (.t 41)])⟩, qu 43 (.pick (.t 34) (.t 42) (.c (.bool false))), qu 44 (.mv (.t 43)), ⟨(some 45), (some (44, true)), [], (.load true 9 (.t 3))⟩, ⟨(some 46), (some (44, true)), [], (.call 24 [(.t 45)])⟩, ⟨(some 47), (some (44, true)), [25], (.load true 3 (.t 5))⟩, ⟨(some 48), (some (44, true)), [], (.build [(.bool false), e0, e0, (.bool false), e0, e0, (.bool false), e0, e0] [(6, 3, (.t 47))])⟩, ⟨(some 49), (some (44, true)), [], (.eqa false [.b, .s, .s, .b, .s, .s, .b, .s, .s] (.t 46) (.t 48))⟩, qu 50 (.pick (.t 44) (.t 49) (.c (.bool false))), qu 51 (.mv (.t 50)), ⟨(some 52), (some (51, true)), [], (.load true 9 (.t 4))⟩, ⟨(some 53), (some (51, true)), [], (.call 24 [(.t 52)])⟩, ⟨(some 54), (some (51, true)), [32], (.load true 3 (.t 5))⟩, ⟨(some 55), (some (51, true)), [], (.build [(.bool false), e0, e0, (.bool false), e0, e0, (.bool false), e0, e0] [(6, 3, (.t 54))])⟩, ⟨(some 56), (some (51, true)), [], (.eqa false [.b, .s, .s, .b, .s, .s, .b, .s, .s] (.t 53) (.t 55))⟩, qu 57 (.pick (.t 51) (.t 56) (.c (.bool false))), qu 0 (.mv (.t 57))]) .ret))))))
theorem tr9 : trFun Tryz.prog 9 = some ⟨58, [.t 0], c9⟩ := by kernel_rfl
set_option maxHeartbeats 8000000 in
theorem ok_L8alive : SpecOK Tryz.prog 9 (flat spL8alive) := by
  refine flat_run (env_cons ok_L8flat (env_cons ok_L8pt (env_cons ok_Psplit (env_cons ok_r3From8 (env_cons ok_Pcheck (env_cons ok_r8Same (env_cons ok_Parea (env_nil _)))))))) mixed tr9 ?_
  intro args v h N hG
  unfold spL8alive at hG
  split at hG
  case h_2 => cases hG
  cases hG
  refine ⟨rfl, by simp, ?_⟩
  have z9' : [.bool false, .string ⟨⟨[]⟩⟩, .bool false, .string ⟨⟨[]⟩⟩, .bool false, .string ⟨⟨[]⟩⟩, .bool false, .string ⟨⟨[]⟩⟩, .slice none 0 0] = z9 := rfl
  have zR := z9R_eq
  have e31 : N + 3 + 1 = N + 4 := rfl
  have b_call2 : ∀ {d j : Nat} {v : Value} {b b' : Option Blk} {log : Log} {tm : List (Nat × Value)} {hp : Heap} {KK : Log → St → Prop}, @aftD (some d) true j (some (v, [(N + 4, b), (N + 3, b')], 2)) ⟨(log, ⟨tm, hp, N + 3⟩, KK)⟩ = KK ((j, [(N + 4, b), (N + 3, b')]) :: log) ⟨(d, v) :: tm, (N + 4, b) :: (N + 3, b') :: hp, N + 5⟩ := b_call2' (k := 3)
  have e30 : N + 3 + 0 = N + 3 := rfl
  have rE_tk3 : ∀ x : Rat, (rE x).take 3 = rE x := fun _ => rfl
  have st3z : ∀ x : Rat, setR [.bool false, .string ⟨⟨[]⟩⟩, .string ⟨⟨[]⟩⟩] 0 (rE x) = rE x := fun _ => rfl
  unfold z9R at zR
  simp only [c9, G0, Nat.reduceAdd]
  simp only [↓R0, R1, simprocAttr, -Int.reduceAbs, z9', ← zR, x_pA, x_pB, x_pC, x_pD, x_pP, x_pQ, Pt.len8, Pt.ok8, Pt.tk8, p_st8, b4, b3, z9_len, setR_length, p_bld, p_bld', p_ok, p_st, pc9_len, pc9_ok, pc9_tk, nwL, rdS, ceq_9, x_s1, newH2, b_call2, e30, e31, if_true, Nat.one_ne_zero, if_false, x_s2, x_s3, x_s4, x_s5, x_s6, from2, v_bld, rE_l3, rE_o3, rE_tk3, st3z, v9_len, v9_ok, v9_tk, v9_st, Fin, isEnd, resL, res1]
  exact ⟨_, rfl, rfl, fun k hk => by simp only [ne_nb hk, if_false]⟩
end Go.Eng
end
section
set_option linter.unusedVariables false
set_option linter.unusedSimpArgs false
set_option linter.unusedSectionVars false
set_option maxRecDepth 20000
namespace Go.Eng
open Go Go.Proofs Go.IntWalk
theorem chk_val (P : Pt) (l : List Pt) : chk P l = 0 ↔ plCan P ∧ (∀ i, i < l.length → ptN (ptAt l i) = ptAt l i) ∧ ¬ l.length < 3 ∧ (∀ i, i < l.length → sdv P (ptAt l i) = 0) ∧ turnsP P l := by
  unfold chk
  by_cases h1 : plCan P
  · rw [if_neg (fun e => e h1)]
    by_cases h2 : ∀ i, i < l.length → ptN (ptAt l i) = ptAt l i
    · rw [if_neg (fun e => e h2)]
      by_cases h3 : l.length < 3
      · rw [if_pos h3]; exact ⟨fun e => absurd e (by decide), fun e => absurd h3 e.2.2.1⟩
      · rw [if_neg h3]
        by_cases h4 : ∀ i, i < l.length → sdv P (ptAt l i) = 0
        · rw [if_neg (fun e => e h4)]
          by_cases h5 : turnsP P l
          · rw [if_neg (fun e => e h5)]; exact ⟨fun _ => ⟨h1, h2, h3, h4, h5⟩, fun _ => rfl⟩
          · rw [if_pos h5]; exact ⟨fun e => absurd e (by decide), fun e => absurd e.2.2.2.2 h5⟩
        · rw [if_pos h4]; exact ⟨fun e => absurd e (by decide), fun e => absurd e.2.2.2.1 h4⟩
    · rw [if_pos h2]; exact ⟨fun e => absurd e (by decide), fun e => absurd e.2.1 h2⟩
  · rw [if_pos h1]; exact ⟨fun e => absurd e (by decide), fun e => absurd e.1 h1⟩
def fineP (P : Pt) (l : List Pt) : Prop := smallP P l ∧ chk P l = 0
instance {P : Pt} {l : List Pt} : Decidable (fineP P l) := by unfold fineP; infer_instance
theorem fineP.w {P : Pt} {l : List Pt} (h : fineP P l) : ∀ p ∈ l, 0 < p.w := fun p hp => by
  obtain ⟨j, hj⟩ := List.getElem?_of_mem hp
  have := ((chk_val P l).1 h.2).2.1 j (List.getElem?_eq_some_iff.1 hj).1
  rw [ptAt_eq hj] at this
  exact can_w this
theorem fineP.split {P c : Pt} {l : List Pt} (h : fineP P l) (hc : c.sz 6) : SplitOK P c l := ⟨h.1.poly (by omega), hc.le (by omega), h.w⟩
def spL8fine : List Value → Heap → Option Value
  | [.agg ⟨cs⟩], h => match decPoly h cs with
    | some (P, l) => some (.bool (decide (fineP P l)))
    | none => none
  | _, _ => none
theorem great_of {h : Heap} {cs : List Value} {P : Pt} {l : List Pt} (e : decPoly h cs = some (P, l)) : spR8Great [.agg ⟨cs⟩] h = some (.int .i64 (if smallP P l then 0 else 1)) := by
  unfold spR8Great; simp only [e]
theorem check_of {h : Heap} {cs : List Value} {P : Pt} {l : List Pt} (e : decPoly h cs = some (P, l)) (hs : smallP P l) : spPchk [.agg ⟨cs⟩] h = some (.int .i64 (chk P l)) := by
  unfold spPchk; simp only [e]; exact if_pos (hs.poly (by omega))
def c13 : ICode :=
  (.seq (.reg [qq 1 (.box 28 9 (.t 0)), qq 2 (.mv (.c (.bool false)))]) (.seq (.reg [qq 3 (.load true 9 (.t 1)), qq 4 (.call 10 [(.t 3)]), qq 5 (.bin .eql (.t 4) (ci 0)), qq 6 (.mv (.t 5)), ⟨(some 7), (some (6, true)), (.load true 9 (.t 1))⟩, ⟨(some 8), (some (6, true)), (.call 12 [(.t 7)])⟩, ⟨(some 9), (some (6, true)), (.bin .eql (.t 8) (ci 0))⟩, qq 10 (.pick (.t 6) (.t 9) (.c (.bool false))), qq 2 (.mv (.t 10))]) .ret))
theorem tr13 : trFun Tryz.prog 13 = some ⟨11, [.t 2], c13⟩ := by kernel_rfl
set_option maxHeartbeats 2000000 in
theorem ok_L8fine : SpecOK Tryz.prog 13 (rdS spL8fine) := by
  refine rd_run (env_cons ok_r8Great (env_cons ok_r8check (env_nil _))) mixed tr13 ?_ ?_
  · intro args h h' v hle e
    unfold spL8fine at e ⊢
    split at e
    · rename_i cs
      split at e
      · rename_i P l hb
        simp only [decPoly_mono hle hb]; exact e
      · cases e
    · cases e
  intro args v h N hG hN
  unfold spL8fine at hG
  split at hG
  case h_2 => cases hG
  rename_i cs
  split at hG
  case h_2 => cases hG
  rename_i P l hx
  cases hG
  refine ⟨by rfl, by simp, ?_⟩
  obtain ⟨sl, rfl, hx'⟩ := decPoly_eq hx
  have hl : ∀ (hp : Heap), (∀ k, k < N → hget hp k = hget h k) → hle h hp := fun hp hh k b e => by rw [hh k (hN _ _ e)]; exact e
  have l9 := pc9_len P sl
  have t9 := pc9_tk P sl
  have HL : ∀ b b' : Option Blk, hle h ((N + 0, b) :: h) := fun b b' => hl _ fun k hk => by simp only [hget, show (N + 0 = k) = False from eq_false (by omega), if_false]
  have gg := fun b => great_of (decPoly_mono (HL b none) hx)
  by_cases s : smallP P l
  case neg =>
    rw [decide_eq_false (fun e : fineP P l => s e.1)]
    rw [if_neg s] at gg
    generalize pc9 P sl = C9 at *
    have e1 : ((1 : Int) = 0) = False := by decide
    simp only [c13, G0, Nat.reduceAdd]
    simp only [↓R0, R1, simprocAttr, -Int.reduceAbs, rdS, gg, l9, t9, e1, Fin, isEnd, resL, res1]
    exact ⟨_, rfl, rfl, fun k hk => by simp only [ne_nb hk, if_false]⟩
  rw [if_pos s] at gg
  have kk := fun b => check_of (decPoly_mono (HL b none) hx) s
  generalize pc9 P sl = C9 at *
  by_cases z : chk P l = 0
  · rw [decide_eq_true (show fineP P l from ⟨s, z⟩)]
    rw [z] at kk
    simp only [c13, G0, Nat.reduceAdd]
    simp only [↓R0, R1, simprocAttr, -Int.reduceAbs, rdS, gg, kk, l9, t9, Fin, isEnd, resL, res1]
    exact ⟨_, rfl, rfl, fun k hk => by simp only [ne_nb hk, if_false]⟩
  · rw [decide_eq_false (fun e : fineP P l => z e.2)]
    have z' : (chk P l = 0) = False := eq_false z
    simp only [c13, G0, Nat.reduceAdd]
    simp only [↓R0, R1, simprocAttr, -Int.reduceAbs, rdS, gg, kk, l9, t9, z', Fin, isEnd, resL, res1]
    exact ⟨_, rfl, rfl, fun k hk => by simp only [ne_nb hk, if_false]⟩
theorem fine_of {h : Heap} {cs : List Value} {P : Pt} {l : List Pt} (e : decPoly h cs = some (P, l)) : spL8fine [.agg ⟨cs⟩] h = some (.bool (decide (fineP P l))) := by
  unfold spL8fine; simp only [e]
theorem r5norm_of' {p : Pt} (h : p.sz 1048576) : spR5Norm [.agg ⟨p.cells⟩] = if p.x = 0 ∧ p.y = 0 ∧ p.z = 0 then some (.tuple ⟨[.agg ⟨pZ⟩, .bool false]⟩) else some (.tuple ⟨[.agg ⟨(plN p).cells⟩, .bool true]⟩) := by
  have k : ∀ {i : Nat}, i ≤ 1048576 → i ≤ 68719476736 := fun h => by omega
  exact if_pos ⟨k h.1, k h.2.1, k h.2.2.1, k h.2.2.2⟩
def levP (c : Pt) : Prop := c.sz 6 ∧ plCan c
instance {c : Pt} : Decidable (levP c) := by unfold levP; infer_instance
def atP (c : Pt) : Prop := c.sz 6 ∧ ptN c = c
instance {c : Pt} : Decidable (atP c) := by unfold atP; infer_instance
def spL8level : List Value → Option Value
  | [.agg ⟨cb⟩] => match decP cb with
    | some c => if c.sz 1048576 then some (.bool (decide (levP c))) else none
    | none => none
  | _ => none
def c14 : ICode :=
  (.seq (.reg [qq 1 (.box 25 8 (.t 0)), qq 2 (.mv (.c (.bool false)))]) (.seq (.reg [qq 6 (.load true 8 (.t 1)), qq 7 (.call 38 [(.t 6)]), qq 5 (.mv (.t 7)), qq 8 (.ext (.t 5) 0), qq 9 (.ext (.t 5) 1), qq 3 (.alloc 25 8 [(.bool false), e0, (.bool false), e0, (.bool false), e0, (.bool false), e0]), qn (.store 8 (.t 3) (.t 8)), qq 4 (.mv (.t 9))]) (.seq (.reg [qq 10 (.load true 8 (.t 1)), qq 11 (.call 33 [(.t 10)]), qq 12 (.bin .eql (.t 11) (ci 0)), qq 13 (.mv (.t 12)), ⟨(some 14), (some (13, true)), (.mv (.t 4))⟩, qq 15 (.pick (.t 13) (.t 14) (.c (.bool false))), qq 16 (.mv (.t 15)), ⟨(some 17), (some (16, true)), (.load true 8 (.t 3))⟩, ⟨(some 18), (some (16, true)), (.load true 8 (.t 1))⟩, ⟨(some 19), (some (16, true)), (.eqa false [.b, .s, .b, .s, .b, .s, .b, .s] (.t 17) (.t 18))⟩, qq 20 (.pick (.t 16) (.t 19) (.c (.bool false))), qq 2 (.mv (.t 20))]) .ret)))
theorem tr14 : trFun Tryz.prog 14 = some ⟨21, [.t 2], c14⟩ := by kernel_rfl
set_option maxHeartbeats 2000000 in
theorem ok_L8level : SpecOK Tryz.prog 14 (flat spL8level) := by
  refine flat_run (env_cons ok_r5Norm (env_cons ok_r5Great8 (env_nil _))) mixed tr14 ?_
  intro args v h N hG
  unfold spL8level at hG
  split at hG
  case h_2 => cases hG
  rename_i cb
  split at hG
  case h_2 => cases hG
  rename_i c hc
  split at hG
  case isFalse => cases hG
  rename_i hs
  cases hG
  have ec := decP_eq hc
  subst ec
  refine ⟨by rfl, by simp, ?_⟩
  have nn := r5norm_of' hs
  have gg := r5great_of c
  have lc := c.len8; have oc := c.ok8; have tc := c.tk8
  have stc : ∀ X : Pt, setR [.bool false, .string ⟨⟨[]⟩⟩, .bool false, .string ⟨⟨[]⟩⟩, .bool false, .string ⟨⟨[]⟩⟩, .bool false, .string ⟨⟨[]⟩⟩] 0 X.cells = X.cells := fun X => rfl
  have lz : pZ.length = 8 := rfl
  have oz : pZ.all okCell = true := rfl
  have tz : pZ.take 8 = pZ := rfl
  have stz : setR [.bool false, .string ⟨⟨[]⟩⟩, .bool false, .string ⟨⟨[]⟩⟩, .bool false, .string ⟨⟨[]⟩⟩, .bool false, .string ⟨⟨[]⟩⟩] 0 pZ = pZ := rfl
  have e1 : ((1 : Int) = 0) = False := by decide
  by_cases z : c.x = 0 ∧ c.y = 0 ∧ c.z = 0
  · rw [if_pos z] at nn
    rw [decide_eq_false (fun e : levP c => e.2.1 z)]
    by_cases s : c.sz 6
    · rw [if_pos s] at gg
      simp only [c14, G0, Nat.reduceAdd]
      simp only [↓R0, R1, simprocAttr, -Int.reduceAbs, nn, gg, lc, oc, tc, stc, lz, oz, tz, stz, Fin, isEnd, resL, res1]
      exact ⟨_, rfl, rfl, fun k hk => by simp only [ne_nb hk, if_false]⟩
    · rw [if_neg s] at gg
      simp only [c14, G0, Nat.reduceAdd]
      simp only [↓R0, R1, simprocAttr, -Int.reduceAbs, nn, gg, lc, oc, tc, stc, lz, oz, tz, stz, e1, Fin, isEnd, resL, res1]
      exact ⟨_, rfl, rfl, fun k hk => by simp only [ne_nb hk, if_false]⟩
  rw [if_neg z] at nn
  have lp := (plN c).len8; have op := (plN c).ok8; have tp := (plN c).tk8
  by_cases s : c.sz 6
  case neg =>
    rw [if_neg s] at gg
    rw [decide_eq_false (fun e : levP c => s e.1)]
    simp only [c14, G0, Nat.reduceAdd]
    simp only [↓R0, R1, simprocAttr, -Int.reduceAbs, nn, gg, lc, oc, tc, stc, lp, op, tp, e1, Fin, isEnd, resL, res1]
    exact ⟨_, rfl, rfl, fun k hk => by simp only [ne_nb hk, if_false]⟩
  rw [if_pos s] at gg
  have cq := ceq_Pt (plN c) c
  by_cases q : plN c = c
  · rw [decide_eq_true (show levP c from ⟨s, z, q⟩)]
    rw [decide_eq_true q] at cq
    simp only [c14, G0, Nat.reduceAdd]
    simp only [↓R0, R1, simprocAttr, -Int.reduceAbs, nn, gg, lc, oc, tc, stc, lp, op, tp, cq, Fin, isEnd, resL, res1]
    exact ⟨_, rfl, rfl, fun k hk => by simp only [ne_nb hk, if_false]⟩
  · rw [decide_eq_false (fun e : levP c => q e.2.2)]
    rw [decide_eq_false q] at cq
    simp only [c14, G0, Nat.reduceAdd]
    simp only [↓R0, R1, simprocAttr, -Int.reduceAbs, nn, gg, lc, oc, tc, stc, lp, op, tp, cq, Fin, isEnd, resL, res1]
    exact ⟨_, rfl, rfl, fun k hk => by simp only [ne_nb hk, if_false]⟩
end Go.Eng
end
section
set_option linter.unusedVariables false
set_option linter.unusedSimpArgs false
set_option linter.unusedSectionVars false
set_option maxRecDepth 20000
namespace Go.Eng
open Go Go.Proofs Go.IntWalk
def spL8splits : List Value → Heap → Option Value
  | [.agg ⟨cs⟩, .agg ⟨cb⟩], h => match decPoly h cs, decP cb with
    | some (P, l), some c => if c.sz 1048576 then some (.bool true) else none
    | _, _ => none
  | _, _ => none
theorem level_of {c : Pt} (h : c.sz 1048576) : spL8level [.agg ⟨c.cells⟩] = some (.bool (decide (levP c))) := if_pos h
theorem split_of {hp : Heap} {cs : List Value} {P c : Pt} {l : List Pt} (e : decPoly hp cs = some (P, l)) (hs : SplitOK P c l) : spR8split [.agg ⟨cs⟩, .agg ⟨c.cells⟩] hp = some (splitNL P c l) := by
  unfold spR8split
  simp only [e, decP_cells]
  exact if_pos hs
theorem a_two {N k d : Nat} {v : Value} {x y : Nat × Option Blk} {tm : List (Nat × Value)} {hp : Heap} {K : St → Prop} : @aft (some d) (some (v, [x, y], 2)) ⟨(⟨tm, hp, N + k⟩, K)⟩ = K ⟨(d, v) :: tm, x :: y :: hp, N + (k + 2)⟩ := propext Iff.rfl
theorem prt_ne {c : Pt} {l : List Pt} {here : Int} (hh : here ≠ 0) (h : anyP c l here l.length) : prt c l here ≠ [] := any_ne hh h
theorem prt_len {c : Pt} {l : List Pt} {here : Int} : (prt c l here).length ≤ 2 * l.length := prtL_len _
theorem fr_splits {h : Heap} {n : Nat} {P c : Pt} {sl : Value} {l : List Pt} (e : listAt 8 decP h sl = some l) (hc : c.sz 1048576) : rdS spL8splits [.agg ⟨P.cells ++ [sl]⟩, .agg ⟨c.cells⟩] h n = some (.bool true, [], 0) := by
  have e' : decPoly h (P.cells ++ [sl]) = some (P, l) := decPoly_of e
  unfold rdS spL8splits; simp only [e', decP_cells]; rw [if_pos hc]; rfl
end Go.Eng
end
section
set_option linter.unusedVariables false
set_option linter.unusedSimpArgs false
set_option linter.unusedSectionVars false
set_option maxRecDepth 20000
namespace Go.Eng
open Go Go.Proofs Go.IntWalk
def cP (a b c d : Int) : List Value := [.bool (decide (a < 0)), .string ⟨⟨bl a.natAbs⟩⟩, .bool (decide (b < 0)), .string ⟨⟨bl b.natAbs⟩⟩, .bool (decide (c < 0)), .string ⟨⟨bl c.natAbs⟩⟩, .bool (decide (d < 0)), .string ⟨⟨bl d.natAbs⟩⟩]
structure PtOK (a b c d : Int) (k : Nat) : Prop where
  l1 : (bl a.natAbs).length ≤ k
  l2 : (bl b.natAbs).length ≤ k
  l3 : (bl c.natAbs).length ≤ k
  l4 : (bl d.natAbs).length ≤ k
  pos : 0 < d
end Go.Eng
end
section
set_option linter.unusedVariables false
set_option linter.unusedSimpArgs false
set_option linter.unusedSectionVars false
set_option maxRecDepth 20000
namespace Go.Eng
open Go Go.Proofs Go.IntWalk
def spLnFlip : List Value → Option Value
  | [.agg ⟨[.bool s1, .string ⟨⟨l1⟩⟩, .bool s2, .string ⟨⟨l2⟩⟩, .bool s3, .string ⟨⟨l3⟩⟩, .bool s4, .string ⟨⟨l4⟩⟩]⟩] =>
    if l1.length ≤ 1099511627776 ∧ l2.length ≤ 1099511627776 ∧ l3.length ≤ 1099511627776 ∧ l4.length ≤ 1099511627776 then some (.agg ⟨cP (-sv s1 l1) (-sv s2 l2) (-sv s3 l3) (-sv s4 l4)⟩) else none
  | _ => none
def c18 : ICode :=
  (.seq (.reg [qq 1 (.box 25 8 (.t 0)), qq 2 (.alloc 25 8 [(.bool false), e0, (.bool false), e0, (.bool false), e0, (.bool false), e0])]) (.seq (.reg [qq 5 (.load true 8 (.t 1)), qq 6 (.call 46 [(.t 5)]), qq 3 (.alloc 72 8 [(.bool false), e0, (.bool false), e0, (.bool false), e0, (.bool false), e0]), qn (.store 8 (.t 3) (.t 6))]) (.seq (.seq (.reg [qq 7 (.mv (ci 0))]) (.block 0 (.loop (.seq (.reg [qq 8 (.bin .lss (.t 7) (ci 4))]) (.seq (.cond (.t 8) .skip (.exit 0)) (.seq (.block 1 (.seq (.reg [qq 9 (.mv (.t 7)), qq 4 (.mv (.t 9))]) (.reg [qq 10 (.mv (.t 4)), qq 11 (.mv (.t 4)), qq 12 (.ixarr 4 2 (.t 3) (.t 11)), qq 13 (.load true 2 (.t 12)), qq 14 (.call 47 [(.t 13)]), qq 15 (.ixarr 4 2 (.t 3) (.t 10)), qn (.store 2 (.t 15) (.t 14))]))) (.reg [qq 16 (.bin .add (.t 7) (ci 1)), qq 7 (.mv (.t 16))]))))))) (.seq (.reg [qq 17 (.load true 8 (.t 3)), qq 18 (.call 48 [(.t 17)]), qn (.store 8 (.t 2) (.t 18))]) .ret))))
theorem tr18 : trFun Tryz.prog 18 = some ⟨19, [.cell 2 true 8], c18⟩ := by kernel_rfl
theorem ok_lnFlip : SpecOK Tryz.prog 18 (flat spLnFlip) := by
  refine flat_run (env_cons ok_lnFour (env_cons ok_lnOf (env_cons ok_iNeg (env_nil _)))) mixed tr18 ?_
  intro args v h N hG
  unfold spLnFlip at hG
  split at hG
  case h_2 => cases hG
  rename_i s1 l1 s2 l2 s3 l3 s4 l4
  split at hG
  case isFalse => cases hG
  rename_i hl
  obtain ⟨h1, h2, h3, h4⟩ := hl
  cases hG
  refine ⟨rfl, by simp, ?_⟩
  have w1 : IntKind.i64.wrap 1 = 1 := i64_in _ (by omega)
  have w2 : IntKind.i64.wrap 2 = 2 := i64_in _ (by omega)
  have w3 : IntKind.i64.wrap 3 = 3 := i64_in _ (by omega)
  have w4 : IntKind.i64.wrap 4 = 4 := i64_in _ (by omega)
  simp only [c18, G0, Nat.reduceAdd]
  simp only [↓R0, R1, simprocAttr, -Int.reduceAbs, spId8]
  refine lp_step ?_
  simp only [↓R0, R1, simprocAttr, -Int.reduceAbs, spINeg, h1, h2, h3, h4, w1, w2, w3, w4, iE]
  refine lp_step ?_
  simp only [↓R0, R1, simprocAttr, -Int.reduceAbs, spINeg, h1, h2, h3, h4, w1, w2, w3, w4, iE]
  refine lp_step ?_
  simp only [↓R0, R1, simprocAttr, -Int.reduceAbs, spINeg, h1, h2, h3, h4, w1, w2, w3, w4, iE]
  refine lp_step ?_
  simp only [↓R0, R1, simprocAttr, -Int.reduceAbs, spINeg, h1, h2, h3, h4, w1, w2, w3, w4, iE]
  refine lp_step ?_
  simp only [↓R0, R1, simprocAttr, -Int.reduceAbs, spId8, cP, Fin, isEnd, resL, res1, iE, rE]
  exact ⟨_, rfl, rfl, fun k hk => by simp only [ne_nb hk, if_false]⟩
structure LnOK (a b c d : Int) (k : Nat) : Prop where
  l1 : (bl a.natAbs).length ≤ k
  l2 : (bl b.natAbs).length ≤ k
  l3 : (bl c.natAbs).length ≤ k
  l4 : (bl d.natAbs).length ≤ k
theorem LnOK.neg {A B C D : Int} {k : Nat} (h : LnOK A B C D k) : LnOK (-A) (-B) (-C) (-D) k :=
  ⟨by rw [Int.natAbs_neg]; exact h.l1, by rw [Int.natAbs_neg]; exact h.l2, by rw [Int.natAbs_neg]; exact h.l3, by rw [Int.natAbs_neg]; exact h.l4⟩
theorem LnOK.le {A B C D : Int} {i k : Nat} (h : LnOK A B C D i) (hk : i ≤ k) : LnOK A B C D k :=
  ⟨Nat.le_trans h.l1 hk, Nat.le_trans h.l2 hk, Nat.le_trans h.l3 hk, Nat.le_trans h.l4 hk⟩
theorem PtOK.le {A B C D : Int} {i k : Nat} (h : PtOK A B C D i) (hk : i ≤ k) : PtOK A B C D k :=
  ⟨Nat.le_trans h.l1 hk, Nat.le_trans h.l2 hk, Nat.le_trans h.l3 hk, Nat.le_trans h.l4 hk, h.pos⟩
end Go.Eng
end
section
set_option linter.unusedVariables false
set_option linter.unusedSimpArgs false
set_option linter.unusedSectionVars false
set_option maxRecDepth 20000
namespace Go.Eng
open Go Go.Proofs Go.IntWalk
def flipP (P : Pt) : Pt := ptI (-P.x) (-P.y) (-P.z) (-P.w)
theorem flip_of {P : Pt} (h : P.sz 1000000) : spLnFlip [.agg ⟨P.cells⟩] = some (.agg ⟨(flipP P).cells⟩) := by
  have k : ∀ {i : Nat}, i ≤ 1000000 → i ≤ 1099511627776 := fun h => by omega
  exact if_pos ⟨k h.1, k h.2.1, k h.2.2.1, k h.2.2.2⟩
def flT (l : List Pt) : Nat → List Pt
  | 0 => []
  | i + 1 => flT l i ++ [ptAt l ((l.length - i) % l.length)]
theorem flT_len (l : List Pt) : ∀ i, (flT l i).length = i
  | 0 => rfl
  | i + 1 => by rw [flT, List.length_append, flT_len l i]; rfl
theorem flT_ne (l : List Pt) {i : Nat} (h : 0 < i) : flT l i ≠ [] := fun e => by
  have := flT_len l i
  rw [e] at this
  simp at this; omega
def flipL (l : List Pt) : List Pt := flT l l.length
theorem flipL_len (l : List Pt) : (flipL l).length = l.length := flT_len l _
def flipNL (P : Pt) (l : List Pt) : NewL :=
  ⟨1, fun σ => .agg ⟨pc9 (flipP P) (.slice (some ⟨σ 0, 0, none⟩) (flipL l).length (flipL l).length)⟩, fun _ => 41, fun _ => 8, fun _ _ => ptsC (flipL l)⟩
theorem flipNL_par (P : Pt) (l : List Pt) (h : Heap) : (flipNL P l).Par h := by
  unfold flipNL
  refine ⟨fun β σ σ' b1 _ => ?_, fun β σ σ' b1 _ i hi => VRs.of_base (ptsC_base _)⟩
  refine .agg _ _ (VRs.append (VRs.of_base (flipP P).base8) (.cons _ _ _ _ ?_ .nil))
  have := b1 0 (by simp)
  exact VR.sl (σ 0) 0 _ _ ⟨σ' 0, 0, []⟩ this
def spPflip : List Value → Heap → Option NewL
  | [.agg ⟨cs⟩], h => match decPoly h cs with
    | some (P, l) => if polySz 1000 P l ∧ 0 < l.length then some (flipNL P l) else none
    | none => none
  | _, _ => none
def c22 : ICode :=
  (.seq (.reg [qq 1 (.box 28 9 (.t 0)), qq 2 (.alloc 28 9 [(.bool false), e0, (.bool false), e0, (.bool false), e0, (.bool false), e0, (.slice none 0 0)])]) (.seq (.reg [qq 5 (.faddr 0 (.t 1)), qq 6 (.load true 8 (.t 5)), qq 7 (.call 18 [(.t 6)]), qq 8 (.build [(.bool false), e0, (.bool false), e0, (.bool false), e0, (.bool false), e0, (.slice none 0 0)] [(0, 8, (.t 7))]), qq 3 (.alloc 28 9 [(.bool false), e0, (.bool false), e0, (.bool false), e0, (.bool false), e0, (.slice none 0 0)]), qn (.store 9 (.t 3) (.t 8))]) (.seq (.seq (.reg [qq 9 (.faddr 8 (.t 1)), qq 10 (.load false 1 (.t 9)), qq 11 (.lensl (.t 10)), qq 12 (.mv (ci 0))]) (.block 0 (.loop (.seq (.reg [qq 13 (.bin .lss (.t 12) (.t 11))]) (.seq (.cond (.t 13) .skip (.exit 0)) (.seq (.block 1 (.seq (.reg [qq 14 (.mv (.t 12)), qq 4 (.mv (.t 14))]) (.dreg [qu 15 (.faddr 8 (.t 3)), qu 16 (.load false 1 (.t 15)), qu 17 (.faddr 8 (.t 1)), qu 18 (.load false 1 (.t 17)), qu 19 (.faddr 8 (.t 1)), qu 20 (.load false 1 (.t 19)), qu 21 (.lensl (.t 20)), qu 22 (.mv (.t 4)), qu 23 (.bin .sub (.t 21) (.t 22)), qu 24 (.faddr 8 (.t 1)), qu 25 (.load false 1 (.t 24)), qu 26 (.lensl (.t 25)), qu 27 (.bin .rem (.t 23) (.t 26)), qu 28 (.ixsl 8 (.t 18) (.t 27)), qu 29 (.load true 8 (.t 28)), qu 30 (.bslice 41 8 1 [(.bool false), e0, (.bool false), e0, (.bool false), e0, (.bool false), e0] [(0, 8, (.t 29))]), qu 31 (.app 41 8 96 (.t 16) (.t 30)), qu 32 (.faddr 8 (.t 3)), qm (.store 1 (.t 32) (.t 31))]))) (.reg [qq 33 (.bin .add (.t 12) (ci 1)), qq 12 (.mv (.t 33))]))))))) (.seq (.reg [qq 34 (.load true 9 (.t 3)), qn (.store 9 (.t 2) (.t 34))]) .ret))))
theorem tr22 : trFun Tryz.prog 22 = some ⟨35, [.cell 2 true 9], c22⟩ := by kernel_rfl
set_option maxHeartbeats 8000000 in
theorem ok_Pflip : SpecOK Tryz.prog 22 (nwL spPflip) := by
  refine newL_run (env_cons ok_lnFlip (env_nil _)) mixed tr22 ?_ ?_
  · intro args h h' v hle e
    unfold spPflip at e ⊢
    split at e
    · rename_i cs
      split at e
      · rename_i P l hb
        simp only [decPoly_mono hle hb]; exact e
      · cases e
    · cases e
  intro args h N v hG hN
  unfold spPflip at hG
  split at hG
  case h_2 => cases hG
  rename_i cs
  split at hG
  case h_2 => cases hG
  rename_i P l hx
  split at hG
  case isFalse => cases hG
  rename_i hs
  obtain ⟨hs, h0⟩ := hs
  cases hG
  obtain ⟨sl, rfl, hx'⟩ := decPoly_eq hx
  clear hx
  rename listAt 8 decP h sl = some l => hx
  obtain ⟨a, cc, rfl⟩ := listAt_sl hx
  refine ⟨flipNL_par _ _ _, by simp, ?_⟩
  have hn3 := hs.2.2
  have fl : spLnFlip [.agg ⟨P.cells⟩] = some (.agg ⟨(flipP P).cells⟩) := flip_of (hs.1.le (by omega))
  have c9 := pc9_s P (.slice a l.length cc)
  have l9 := pc9_len P (.slice a l.length cc)
  have t9 := pc9_tk P (.slice a l.length cc)
  have g9 := pc9_g P (.slice a l.length cc)
  generalize pc9 P (.slice a l.length cc) = C9 at *
  have lP := P.len8
  have ez : z9 = [.bool false, .string ⟨⟨[]⟩⟩, .bool false, .string ⟨⟨[]⟩⟩, .bool false, .string ⟨⟨[]⟩⟩, .bool false, .string ⟨⟨[]⟩⟩, .slice none 0 0] := rfl
  have lF := (flipP P).len8
  have bld := pc9_bld (flipP P)
  have pst := pc9_st (flipP P)
  have pset := pc9_set (flipP P)
  have plen := pc9_len (flipP P)
  have pok := pc9_ok (flipP P)
  have psl := pc9_s (flipP P)
  have ptk := pc9_tk (flipP P)
  have zlen := z9_len
  have zok := z9_ok
  have zst := z9_st
  unfold flipNL
  generalize flipP P = F at *
  generalize P.cells = CP at *
  simp only [c22, G0, Nat.reduceAdd]
  simp only [↓R0, R1, simprocAttr, -Int.reduceAbs, ← ez, l9, c9, g9, t9, lP, lF, fl, bld, plen, pok, pst, zlen]
  refine lp_parts (fun n tm hp nx => ∃ (i M : Nat) (sl : Value), n + i = l.length ∧ tmget tm 10 = .slice a l.length cc ∧ tmget tm 11 = .int .i64 l.length ∧ tmget tm 12 = .int .i64 i ∧ tmget tm 1 = .pointer (some ⟨N + 0, 0, none⟩) ∧ tmget tm 2 = .pointer (some ⟨N + 1, 0, none⟩) ∧ tmget tm 3 = .pointer (some ⟨N + 2, 0, none⟩) ∧
      hget hp (N + 0) = some ⟨28, 9, true, C9⟩ ∧ hget hp (N + 1) = some ⟨28, 9, true, z9⟩ ∧ hget hp (N + 2) = some ⟨28, 9, true, pc9 F sl⟩ ∧ OutS 41 hp sl (flT l i) (N + 3) M ∧ (∀ q, q < N → hget hp q = hget h q) ∧ N + 3 ≤ M ∧ nx = M + 0) ?_ l.length
    ⟨0, N + 3, .slice none 0 0, by omega, ?_, ?_, ?_, ?_, ?_, ?_, ?_, ?_, ?_, .inl ⟨rfl, rfl⟩, ?_, Nat.le_refl _, rfl⟩
  rotate_left
  all_goals first | (simp only [↓R0, R1, simprocAttr, -Int.reduceAbs]; done) | (simp only [↓R0, R1, simprocAttr, -Int.reduceAbs]; rfl) | skip
  · intro q hq
    have nb : ∀ j, (N + j = q) = False := fun j => eq_false (by omega)
    simp only [↓R0, R1, simprocAttr, -Int.reduceAbs, nb]
  rintro n tm hp nx ⟨i, M, sl, hn, tA, tB, tC', t1, t2, t3, b0, b1, b2, hO, hh, hM, hnx⟩
  rw [hnx]
  clear hnx nx
  have M0 : ∀ j, (M + j = N + 0) = False := fun j => eq_false (by omega)
  have M1 : ∀ j, (M + j = N + 1) = False := fun j => eq_false (by omega)
  have M2 : ∀ j, (M + j = N + 2) = False := fun j => eq_false (by omega)
  have Q0 : ∀ j, (N + 0 = M + j) = False := fun j => eq_false (by omega)
  have Q1 : ∀ j, (N + 1 = M + j) = False := fun j => eq_false (by omega)
  have Q2 : ∀ j, (N + 2 = M + j) = False := fun j => eq_false (by omega)
  have R0x : ∀ d, (N = M + d) = False := fun d => eq_false (by omega)
  have R1x : (N + 1 = M) = False := eq_false (by omega)
  have R2x : (N + 2 = M) = False := eq_false (by omega)
  have R4x : (N = M) = False := eq_false (by omega)
  by_cases c1 : i < l.length
  case neg =>
    have e : i = l.length := by omega
    subst e
    have c1' : ((l.length : Int) < (l.length : Int)) = False := eq_false (by omega)
    rcases hO with ⟨hnil, _⟩ | ⟨hne, kk, x, k1, k2, hsl, hkk⟩
    · exact absurd hnil (flT_ne l h0)
    subst hsl
    have kr : (N + 1 = kk) = False := eq_false (by omega)
    have efl : flT l l.length = flipL l := rfl
    rw [efl] at b2 hkk
    simp only [↓R0, R1, simprocAttr, -Int.reduceAbs, tA, tB, tC', t1, t2, t3, b0, b1, b2, c1', plen, ptk, pok, pst, zlen, zok, zst, FinL, isEnd, resL, res1]
    refine ⟨fun _ => kk, _, fun _ _ => (by omega : N ≤ kk), fun i j (hi : i < 1) (hj : j < 1) _ => by omega, rfl, rfl, fun i hi => ⟨x, ?_⟩, fun q hq => ?_⟩
    · simp only [↓R0, R1, simprocAttr, -Int.reduceAbs, kr]
      exact hkk
    · simp only [show (N + 1 = q) = False from eq_false (by omega), if_false]; exact hh q hq
  have hj : (l.length - i) % l.length < l.length := Nat.mod_lt _ h0
  obtain ⟨k, off, blk, ea, hb, r1, r2⟩ := vert_at hx hj
  subst ea
  have hk := hN _ _ hb
  have hbv : hget hp k = some blk := by rw [hh k hk]; exact hb
  have Mk : ∀ j, (M + j = k) = False := fun j => eq_false (by omega)
  have Nk : ∀ j, (N + j = k) = False := fun j => eq_false (by omega)
  have c1' : ((i : Int) < (l.length : Int)) = True := eq_true (by omega)
  have hj' : ((((l.length - i) % l.length : Nat) : Int) < (l.length : Int)) = True := eq_true (by omega)
  have w0 : IntKind.i64.wrap ((l.length : Int) - (i : Int)) = ((l.length - i : Nat) : Int) := by rw [i64_in _ (by omega)]; omega
  have w1 : IntKind.i64.wrap ((i : Int) + 1) = ((i + 1 : Nat) : Int) := by rw [i64_in _ (by omega)]; omega
  have z1 : ((l.length : Int) = 0) = False := eq_false (by omega)
  have z2 : (l.length = 0) = False := eq_false (by omega)
  have m1 : Int.tmod ((l.length - i : Nat) : Int) (l.length : Int) = (((l.length - i) % l.length : Nat) : Int) := by rw [Int.tmod_eq_emod_of_nonneg (by omega)]; rfl
  have m2 := m1
  rw [Int.ofNat_sub (by omega : i ≤ l.length)] at m2
  have ol := flT_len l i
  have ep : flT l (i + 1) = flT l i ++ [ptAt l ((l.length - i) % l.length)] := rfl
  generalize flT l i = out at *
  generalize ptAt l ((l.length - i) % l.length) = A at *
  have aA := A.len8; have oA := A.ok8; have tkA := A.tk8
  have stA : setR [.bool false, .string ⟨⟨[]⟩⟩, .bool false, .string ⟨⟨[]⟩⟩, .bool false, .string ⟨⟨[]⟩⟩, .bool false, .string ⟨⟨[]⟩⟩] 0 A.cells = A.cells := rfl
  have lo := ptsC_len out
  have ol2 : out.length ≤ 2000 := by omega
  have ovf1 := (ovf96 ol2).1
  have ovf2 := (ovf96 ol2).2
  have nle1 := nleS out.length
  clear ol
  have la2 : (out ++ [A]).length = out.length + 1 := by simp
  have pa := ptsC_add out A
  have p1 := ptsC_one A
  rcases hO with ⟨hnil, hsl⟩ | ⟨hne, kk, x, k1, k2, hsl, hkk⟩
  · subst hsl
    simp only [↓R0, R1, simprocAttr, -Int.reduceAbs, ← ez, tA, tB, tC', t1, t2, t3, b0, b1, b2, c1, c1', hbv, Mk, Nk, r1, r2, hj, hj', w0, w1, z1, z2, m1, m2, l9, c9, t9, g9, aA, oA, tkA, stA, plen, ptk, psl, pset, pok, M0, M1, M2, Q0, Q1, Q2, R0x, R1x, R2x, R4x, lo, ovf1, ovf2, nle1, la2, pa]
    refine ⟨n - 1, by omega, i + 1, M + 2, .slice (some ⟨M + 1, 0, none⟩) 1 1, by omega, rfl, rfl, ?_, fun q hq => ?_, by omega, rfl⟩
    · rw [ep, hnil]
      refine .inr ⟨by simp, M + 1, false, by omega, by omega, rfl, ?_⟩
      simp only [↓R0, R1, simprocAttr, -Int.reduceAbs, M0, M1, M2, Q0, Q1, Q2, R0x, R1x, R2x, R4x]
      rfl
    · have nb : ∀ j, (M + j = q) = False := fun j => eq_false (by omega)
      have nc : ∀ j, (N + j = q) = False := fun j => eq_false (by omega)
      simp only [↓R0, R1, simprocAttr, -Int.reduceAbs, nb, nc]
      exact hh q hq
  · subst hsl
    have kM : ∀ j, (kk = M + j) = False := fun j => eq_false (by omega)
    have Mkk : ∀ j, (M + j = kk) = False := fun j => eq_false (by omega)
    have kk_k : (kk = k) = False := eq_false (by omega)
    have k0n : (kk = N + 0) = False := eq_false (by omega)
    have k1n : (kk = N + 1) = False := eq_false (by omega)
    have k2n : (kk = N + 2) = False := eq_false (by omega)
    have Nk0 : (N + 0 = kk) = False := eq_false (by omega)
    have Nk1 : (N + 1 = kk) = False := eq_false (by omega)
    have Nk2 : (N + 2 = kk) = False := eq_false (by omega)
    simp only [↓R0, R1, simprocAttr, -Int.reduceAbs, ← ez, tA, tB, tC', t1, t2, t3, b0, b1, b2, c1, c1', hbv, Mk, Nk, r1, r2, hj, hj', w0, w1, z1, z2, m1, m2, l9, c9, t9, g9, aA, oA, tkA, stA, plen, ptk, psl, pset, pok, M0, M1, M2, Q0, Q1, Q2, R0x, R1x, R2x, R4x, hkk, kM, kk_k, k0n, k1n, k2n, Nk0, Nk1, Nk2, Mkk, lo, ovf1, ovf2, nle1, la2, pa]
    refine ⟨n - 1, by omega, i + 1, M + 2, .slice (some ⟨M + 1, 0, none⟩) (out.length + 1) (out.length + 1), by omega, rfl, rfl, ?_, fun q hq => ?_, by omega, rfl⟩
    · rw [ep]
      refine .inr ⟨by simp, M + 1, false, by omega, by omega, by simp, ?_⟩
      simp only [↓R0, R1, simprocAttr, -Int.reduceAbs, M0, M1, M2, Q0, Q1, Q2, R0x, R1x, R2x, R4x, kM, Mkk, kk_k]
    · have nb : ∀ j, (M + j = q) = False := fun j => eq_false (by omega)
      have nc : ∀ j, (N + j = q) = False := fun j => eq_false (by omega)
      have nd : (kk = q) = False := eq_false (by omega)
      simp only [↓R0, R1, simprocAttr, -Int.reduceAbs, nb, nc, nd]
      exact hh q hq
end Go.Eng
end
section
set_option linter.unusedVariables false
set_option linter.unusedSimpArgs false
set_option linter.unusedSectionVars false
set_option maxRecDepth 20000
namespace Go.Eng
open Go Go.Proofs Go.IntWalk
theorem r3Add_rE {x y : Rat} {i j : Nat} (hx : RB x i) (hy : RB y j) (hi : i ≤ 8589934592) (hj : j ≤ 8589934592) : spR3Add [.agg ⟨rE x⟩, .agg ⟨rE y⟩] = some (.agg ⟨rE (x + y)⟩) := by
  unfold spR3Add rE
  simp only [rv_can]
  exact if_pos ⟨hx.num hi, hx.den hi, hy.num hj, hy.den hj⟩
theorem r3Div2_rE {x : Rat} {i : Nat} (hx : RB x i) (hi : i ≤ 8589934592) : spR3Div [.agg ⟨rE x⟩, .agg ⟨rE 2⟩] = some (.tuple ⟨[.agg ⟨rE (x / 2)⟩, .bool true]⟩) := by
  have h2 : RB 2 1 := RB.int (z := 2) (bl_length_le.2 (by decide)) (by omega)
  unfold spR3Div rE
  simp only [rv_can]
  refine (if_pos ⟨hx.num hi, hx.den hi, h2.num (by omega), h2.den (by omega)⟩).trans ?_
  exact if_neg (by rw [nl_bl]; decide)
theorem r3From2 : spR3From8 [.int .i64 2] = some (.agg ⟨rE 2⟩) := by unfold spR3From8; exact if_pos (by decide)
theorem z3_new (x : Rat) : setR [.bool false, .string ⟨⟨[]⟩⟩, .string ⟨⟨[]⟩⟩] 0 (rE x) = rE x := rfl
theorem rE_t3 (x : Rat) : (rE x).take 3 = rE x := rfl
def edgS (P : Pt) (l : List Pt) (x : Pt) (i : Nat) : Int := (lftZ P (ptAt l i) (ptAt l ((i + 1) % l.length)) x).sign
def mnL (P : Pt) (l : List Pt) (x : Pt) : Nat → Int
  | 0 => 1
  | i + 1 => if edgS P l x i < mnL P l x i then edgS P l x i else mnL P l x i
def clsZ (P : Pt) (l : List Pt) (x : Pt) : Int := if sdv P x = 0 then mnL P l x l.length else -1
theorem sgn_val (z : Int) : z.sign = -1 ∨ z.sign = 0 ∨ z.sign = 1 := by
  rcases Int.lt_trichotomy z 0 with h | h | h
  · exact .inl (Int.sign_eq_neg_one_of_neg h)
  · exact .inr (.inl (by rw [h]; rfl))
  · exact .inr (.inr (Int.sign_eq_one_of_pos h))
theorem mnL_bd (P : Pt) (l : List Pt) (x : Pt) : ∀ i, -1 ≤ mnL P l x i ∧ mnL P l x i ≤ 1
  | 0 => ⟨show (-1 : Int) ≤ 1 by decide, show (1 : Int) ≤ 1 by decide⟩
  | i + 1 => by
    have h := mnL_bd P l x i
    have v : edgS P l x i = -1 ∨ edgS P l x i = 0 ∨ edgS P l x i = 1 := sgn_val _
    unfold mnL
    split <;> omega
theorem mnL_le (P : Pt) (l : List Pt) (x : Pt) {i : Nat} : ∀ {j}, i < j → mnL P l x j ≤ edgS P l x i
  | 0, h => by omega
  | j + 1, h => by
    unfold mnL
    by_cases e : i = j
    · subst e; split <;> omega
    · have := mnL_le P l x (i := i) (j := j) (by omega)
      split <;> omega
structure ClsOK (P : Pt) (l : List Pt) (x : Pt) : Prop where
  sz : polySz 1000000 P l
  xs : x.sz 1000000
  w : ∀ p ∈ l, 0 < p.w
  xw : 0 < x.w
instance {P x : Pt} {l : List Pt} : Decidable (ClsOK P l x) :=
  decidable_of_iff (polySz 1000000 P l ∧ x.sz 1000000 ∧ (∀ p ∈ l, 0 < p.w) ∧ 0 < x.w) ⟨fun ⟨a, b, c, d⟩ => ⟨a, b, c, d⟩, fun ⟨a, b, c, d⟩ => ⟨a, b, c, d⟩⟩
def spCls : List Value → Heap → Option Value
  | [.agg ⟨cs⟩, .agg ⟨cx⟩], h => match decPoly h cs, decP cx with
    | some (P, l), some x => if ClsOK P l x then some (.int .i64 (clsZ P l x)) else none
    | _, _ => none
  | _, _ => none
def c21 : ICode :=
  (.seq (.reg [qq 2 (.box 28 9 (.t 0)), qq 3 (.box 41 8 (.t 1)), qq 4 (.mv (ci 0))]) (.seq (.seq (.reg [qq 8 (.faddr 0 (.t 2)), qq 9 (.load true 8 (.t 8)), qq 10 (.load true 8 (.t 3)), qq 11 (.call 20 [(.t 9), (.t 10)]), qq 12 (.bin .neq (.t 11) (ci 0))]) (.cond (.t 12) (.seq (.reg [qq 4 (.mv (ci (-1)))]) .ret) .skip)) (.seq (.reg [qq 5 (.mv (ci 1))]) (.seq (.seq (.reg [qq 13 (.faddr 8 (.t 2)), qq 14 (.load false 1 (.t 13)), qq 15 (.lensl (.t 14)), qq 16 (.mv (ci 0))]) (.block 0 (.loop (.seq (.reg [qq 17 (.bin .lss (.t 16) (.t 15))]) (.seq (.cond (.t 17) .skip (.exit 0)) (.seq (.block 1 (.seq (.reg [qq 18 (.mv (.t 16)), qq 19 (.ixsl 8 (.t 14) (.t 16)), qq 20 (.load true 8 (.t 19)), qq 7 (.alloc 41 8 [(.bool false), e0, (.bool false), e0, (.bool false), e0, (.bool false), e0]), qq 6 (.mv (.t 18)), qn (.store 8 (.t 7) (.t 20))]) (.dreg [qu 21 (.mv (.t 5)), qu 22 (.faddr 0 (.t 2)), qu 23 (.load true 8 (.t 22)), qu 24 (.load true 8 (.t 7)), qu 25 (.faddr 8 (.t 2)), qu 26 (.load false 1 (.t 25)), qu 27 (.load true 9 (.t 2)), qu 28 (.mv (.t 6)), qu 29 (.call 43 [(.t 27), (.t 28)]), qu 30 (.ixsl 8 (.t 26) (.t 29)), qu 31 (.load true 8 (.t 30)), qv 32 [8] (.load true 8 (.t 3)), qu 33 (.call 52 [(.t 23), (.t 24), (.t 31), (.t 32)]), qu 34 (.mxmn false (.t 21) (.t 33)), qu 5 (.mv (.t 34))]))) (.reg [qq 35 (.bin .add (.t 16) (ci 1)), qq 16 (.mv (.t 35))]))))))) (.seq (.reg [qq 36 (.mv (.t 5)), qq 4 (.mv (.t 36))]) .ret)))))
theorem tr21 : trFun Tryz.prog 21 = some ⟨37, [.t 4], c21⟩ := by kernel_rfl
set_option maxHeartbeats 8000000 in
theorem ok_Pclass : SpecOK Tryz.prog 21 (rdS spCls) := by
  refine rd_run (env_cons ok_lnSide (env_cons ok_Pnext (env_cons ok_Pleft (env_nil _)))) mixed tr21 ?_ ?_
  · intro args h h' v hle e
    unfold spCls at e ⊢
    split at e
    · rename_i cs cx
      split at e
      · rename_i P l x hb hc
        simp only [decPoly_mono hle hb, hc]; exact e
      · cases e
    · cases e
  intro args v h N hG hN
  unfold spCls at hG
  split at hG
  case h_2 => cases hG
  rename_i cs cx
  split at hG
  case h_2 => cases hG
  rename_i P l x hx hc
  split at hG
  case isFalse => cases hG
  rename_i hs
  cases hG
  obtain ⟨sl, rfl, hx'⟩ := decPoly_eq hx
  clear hx
  rename listAt 8 decP h sl = some l => hx
  obtain ⟨a, cc, rfl⟩ := listAt_sl hx
  have ec := decP_eq hc
  subst ec
  have hn3 := hs.sz.2.2
  refine ⟨by rfl, by simp, ?_⟩
  have c9 := pc9_s P (.slice a l.length cc)
  have l9 := pc9_len P (.slice a l.length cc)
  have t9 := pc9_tk P (.slice a l.length cc)
  have g9 := pc9_g P (.slice a l.length cc)
  have nx9 : ∀ i, i < l.length → spPnext [.agg ⟨pc9 P (.slice a l.length cc)⟩, .int .i64 (i : Nat)] = some (.int .i64 (((i + 1) % l.length : Nat) : Int)) := fun i hi => next_of hi (by omega)
  generalize pc9 P (.slice a l.length cc) = C9 at *
  have lP := P.len8; have tP := P.tk8
  have lX := x.len8; have tX := x.tk8
  have sd := side_of hs.sz.1 hs.xs
  by_cases s0 : sdv P x = 0
  case neg =>
    have e : clsZ P l x = -1 := if_neg s0
    rw [e]
    have s0' : ((sdv P x).sign = 0) = False := eq_false (fun e => s0 (Int.sign_eq_zero_iff_zero.1 e))
    simp only [c21, G0, Nat.reduceAdd]
    simp only [↓R0, R1, simprocAttr, -Int.reduceAbs, l9, c9, t9, g9, lP, tP, lX, tX, sd, s0', Bool.not_false, Fin, isEnd, resL, res1]
    exact ⟨_, rfl, rfl, fun k hk => by simp only [ne_nb hk, if_false]⟩
  have e : clsZ P l x = mnL P l x l.length := if_pos s0
  rw [e]
  rw [s0] at sd
  have s00 : Int.sign 0 = 0 := rfl
  rw [s00] at sd
  simp only [c21, G0, Nat.reduceAdd]
  simp only [↓R0, R1, simprocAttr, -Int.reduceAbs, l9, c9, t9, g9, lP, tP, lX, tX, sd, Bool.not_true]
  refine lp_parts (fun n tm hp nx => ∃ (i M : Nat), n + i = l.length ∧ tmget tm 14 = .slice a l.length cc ∧ tmget tm 15 = .int .i64 l.length ∧ tmget tm 16 = .int .i64 i ∧ tmget tm 2 = .pointer (some ⟨N + 0, 0, none⟩) ∧ tmget tm 3 = .pointer (some ⟨N + 1, 0, none⟩) ∧ tmget tm 5 = .int .i64 (mnL P l x i) ∧
      hget hp (N + 0) = some ⟨28, 9, true, C9⟩ ∧ hget hp (N + 1) = some ⟨41, 8, true, x.cells⟩ ∧ (∀ q, q < N → hget hp q = hget h q) ∧ N + 2 ≤ M ∧ nx = M + 0) ?_ l.length
    ⟨0, N + 2, by omega, ?_, ?_, ?_, ?_, ?_, ?_, ?_, ?_, ?_, Nat.le_refl _, rfl⟩
  rotate_left
  all_goals first | (simp only [↓R0, R1, simprocAttr, -Int.reduceAbs]; done) | (simp only [↓R0, R1, simprocAttr, -Int.reduceAbs]; rfl) | skip
  · intro q hq
    have nb : ∀ j, (N + j = q) = False := fun j => eq_false (by omega)
    simp only [↓R0, R1, simprocAttr, -Int.reduceAbs, nb]
  rintro n tm hp nx ⟨i, M, hn, tA, tB, tC, t2, t3, t5, b0, b1, hh, hM, hnx⟩
  rw [hnx]
  clear hnx nx
  have M0 : ∀ j, (M + j = N + 0) = False := fun j => eq_false (by omega)
  have Q0 : ∀ j, (N + 0 = M + j) = False := fun j => eq_false (by omega)
  have M1 : ∀ j, (M + j = N + 1) = False := fun j => eq_false (by omega)
  have Q1 : ∀ j, (N + 1 = M + j) = False := fun j => eq_false (by omega)
  have R0x : ∀ d, (N = M + d) = False := fun d => eq_false (by omega)
  have R9x : (N = M) = False := eq_false (by omega)
  have R1x0 : (N + 1 = M) = False := eq_false (by omega)
  have T1x0 : (M = N + 1) = False := eq_false (by omega)
  by_cases c1 : i < l.length
  case neg =>
    have e : i = l.length := by omega
    subst e
    have c1' : ((l.length : Int) < (l.length : Int)) = False := eq_false (by omega)
    simp only [↓R0, R1, simprocAttr, -Int.reduceAbs, tA, tB, tC, t2, t3, t5, c1', Fin, isEnd, resL, res1]
    exact ⟨_, rfl, rfl, hh⟩
  obtain ⟨k, off, blk, ea, hb, q1, q2⟩ := vert_at hx c1
  subst ea
  have hk := hN _ _ hb
  have hbb : hget hp k = some blk := by rw [hh k hk]; exact hb
  have hi1 : (i + 1) % l.length < l.length := Nat.mod_lt _ (by omega)
  obtain ⟨k', off', blk', ea', hb', r1, r2⟩ := vert_at hx hi1
  cases ea'
  rw [hb] at hb'; cases hb'
  have nk : ∀ j, (M + j = k) = False := fun j => eq_false (by omega)
  have Nk : ∀ j, (N + j = k) = False := fun j => eq_false (by omega)
  have c1' : ((i : Int) < (l.length : Int)) = True := eq_true (by omega)
  have hi1' : ((((i + 1) % l.length : Nat) : Int) < (l.length : Int)) = True := eq_true (by omega)
  have w1 : IntKind.i64.wrap ((i : Int) + 1) = ((i + 1 : Nat) : Int) := by rw [i64_in _ (by omega)]; omega
  have z1 : ((l.length : Int) = 0) = False := eq_false (by omega)
  have z2 : (l.length = 0) = False := eq_false (by omega)
  have m1 : Int.tmod ((i + 1 : Nat) : Int) (l.length : Int) = (((i + 1) % l.length : Nat) : Int) := by rw [Int.tmod_eq_emod_of_nonneg (by omega)]; rfl
  have en := nx9 i c1
  have lf : spPleft [.agg ⟨P.cells⟩, .agg ⟨(ptAt l i).cells⟩, .agg ⟨(ptAt l ((i + 1) % l.length)).cells⟩, .agg ⟨x.cells⟩] = some (.int .i64 (edgS P l x i)) := if_pos ⟨hs.sz.1, hs.sz.at c1, hs.sz.at hi1, hs.xs⟩
  have em : mnL P l x (i + 1) = if edgS P l x i < mnL P l x i then edgS P l x i else mnL P l x i := rfl
  have vb := mnL_bd P l x i
  have ve : edgS P l x i = -1 ∨ edgS P l x i = 0 ∨ edgS P l x i = 1 := sgn_val _
  generalize edgS P l x i = b at *
  generalize mnL P l x i = m at *
  obtain ⟨A, eA⟩ : ∃ A, ptAt l i = A := ⟨_, rfl⟩
  obtain ⟨B, eB⟩ : ∃ A, ptAt l ((i + 1) % l.length) = A := ⟨_, rfl⟩
  rw [eA] at q2 lf
  rw [eB] at r2 lf
  have aA := A.len8; have oA := A.ok8; have tkA := A.tk8
  have aB := B.len8; have tkB := B.tk8
  have stA : setR [.bool false, .string ⟨⟨[]⟩⟩, .bool false, .string ⟨⟨[]⟩⟩, .bool false, .string ⟨⟨[]⟩⟩, .bool false, .string ⟨⟨[]⟩⟩] 0 A.cells = A.cells := rfl
  by_cases h : b < m
  · have h' : (b < m) = True := eq_true h
    rw [if_pos h] at em
    simp only [↓R0, R1, simprocAttr, -Int.reduceAbs, tA, tB, tC, t2, t3, t5, b0, b1, c1, c1', hbb, nk, Nk, q1, q2, hi1, hi1', r1, r2, w1, z1, z2, m1, l9, c9, t9, g9, lP, tP, lX, tX, aA, oA, tkA, aB, tkB, stA, lf, en, M0, Q0, M1, Q1, R0x, R9x, R1x0, T1x0, h']
    refine ⟨n - 1, by omega, i + 1, M + 1, by omega, rfl, em.symm ▸ rfl, fun q hq => ?_, by omega, rfl⟩
    have nb : ∀ j, (M + j = q) = False := fun j => eq_false (by omega)
    simp only [↓R0, R1, simprocAttr, -Int.reduceAbs, nb]
    exact hh q hq
  · have h' : (b < m) = False := eq_false h
    rw [if_neg h] at em
    simp only [↓R0, R1, simprocAttr, -Int.reduceAbs, tA, tB, tC, t2, t3, t5, b0, b1, c1, c1', hbb, nk, Nk, q1, q2, hi1, hi1', r1, r2, w1, z1, z2, m1, l9, c9, t9, g9, lP, tP, lX, tX, aA, oA, tkA, aB, tkB, stA, lf, en, M0, Q0, M1, Q1, R0x, R9x, R1x0, T1x0, h']
    refine ⟨n - 1, by omega, i + 1, M + 1, by omega, rfl, em.symm ▸ rfl, fun q hq => ?_, by omega, rfl⟩
    have nb : ∀ j, (M + j = q) = False := fun j => eq_false (by omega)
    simp only [↓R0, R1, simprocAttr, -Int.reduceAbs, nb]
    exact hh q hq
end Go.Eng
end
section
set_option linter.unusedVariables false
set_option linter.unusedSimpArgs false
set_option linter.unusedSectionVars false
set_option maxRecDepth 20000
namespace Go.Eng
open Go Go.Proofs Go.IntWalk
def Ext (N : Nat) (h hp : Heap) : Prop := ∀ k, k < N → hget hp k = hget h k
theorem ext_self (N : Nat) (h : Heap) : Ext N h h = True := eq_true fun _ _ => rfl
theorem ext_cons (N j : Nat) (b : Option Blk) (h hp : Heap) : Ext N h ((N + j, b) :: hp) = Ext N h hp := by
  have e : ∀ k, k < N → (N + j = k) = False := fun k hk => eq_false (by omega)
  exact propext ⟨fun H k hk => by have := H k hk; simp only [hget, e k hk, if_false] at this; exact this, fun H k hk => by simp only [hget, e k hk, if_false]; exact H k hk⟩
theorem flip_ne {l : List Pt} (h : 3 ≤ l.length) : flipL l ≠ [] := flT_ne l (by omega)
theorem fineP.len {P : Pt} {l : List Pt} (h : fineP P l) : 3 ≤ l.length := by
  have := ((chk_val P l).1 h.2).2.2.1
  omega
theorem pflip_of {hp : Heap} {cs : List Value} {P : Pt} {l : List Pt} (e : decPoly hp cs = some (P, l)) (hs : polySz 1000 P l) (h3 : 3 ≤ l.length) : spPflip [.agg ⟨cs⟩] hp = some (flipNL P l) := by
  unfold spPflip
  simp only [e]
  exact if_pos ⟨hs, by omega⟩
theorem cls_of {hp : Heap} {cs : List Value} {P x : Pt} {l : List Pt} (e : decPoly hp cs = some (P, l)) (hs : ClsOK P l x) : spCls [.agg ⟨cs⟩, .agg ⟨x.cells⟩] hp = some (.int .i64 (clsZ P l x)) := by
  unfold spCls
  simp only [e, decP_cells]
  exact if_pos hs
end Go.Eng
end
section
set_option linter.unusedVariables false
set_option linter.unusedSimpArgs false
set_option linter.unusedSectionVars false
namespace Go.Eng
structure V4 where
  x : Int
  y : Int
  z : Int
  w : Int
def tri (n a b c : V4) : Int :=
  n.x * (a.w * (b.y * c.z - b.z * c.y) + b.w * (c.y * a.z - c.z * a.y) + c.w * (a.y * b.z - a.z * b.y))
  + n.y * (a.w * (b.z * c.x - b.x * c.z) + b.w * (c.z * a.x - c.x * a.z) + c.w * (a.z * b.x - a.x * b.z))
  + n.z * (a.w * (b.x * c.y - b.y * c.x) + b.w * (c.x * a.y - c.y * a.x) + c.w * (a.x * b.y - a.y * b.x))
theorem tri_cyc (n a b c : V4) : tri n a b c = tri n b c a := by unfold tri; grind
theorem tri_swap (n a b c : V4) : tri n a c b = - tri n a b c := by unfold tri; grind
theorem tri_swap' (n a b c : V4) : tri n b a c = - tri n a b c := by unfold tri; grind
theorem tri_aa (n a c : V4) : tri n a a c = 0 := by unfold tri; grind
theorem tri_bb (n a c : V4) : tri n a c c = 0 := by unfold tri; grind
theorem tri_ac (n a c : V4) : tri n a c a = 0 := by unfold tri; grind
structure Comb (k : Int) (q : V4) (α : Int) (a : V4) (β : Int) (b : V4) : Prop where
  x : k * q.x = α * a.x + β * b.x
  y : k * q.y = α * a.y + β * b.y
  z : k * q.z = α * a.z + β * b.z
  w : k * q.w = α * a.w + β * b.w
theorem Comb.tr {k α β : Int} {q a b : V4} (h : Comb k q α a β b) (n c d : V4) : k * tri n c d q = α * tri n c d a + β * tri n c d b := by
  obtain ⟨h1, h2, h3, h4⟩ := h
  unfold tri
  grind
theorem Comb.nn {k α β : Int} {q a b : V4} (h : Comb k q α a β b) (n c d : V4) (hk : 0 < k) (ha : 0 ≤ α) (hb : 0 ≤ β) (h1 : 0 ≤ tri n c d a) (h2 : 0 ≤ tri n c d b) : 0 ≤ tri n c d q := by
  have e := h.tr n c d
  have x1 := Int.mul_nonneg ha h1
  have x2 := Int.mul_nonneg hb h2
  by_cases c' : 0 ≤ tri n c d q
  · exact c'
  · have := Int.mul_neg_of_pos_of_neg hk (show tri n c d q < 0 by omega)
    omega
theorem Comb.ps {k α β : Int} {q a b : V4} (h : Comb k q α a β b) (n c d : V4) (hk : 0 < k) (ha : 0 < α) (hb : 0 ≤ β) (h1 : 0 < tri n c d a) (h2 : 0 ≤ tri n c d b) : 0 < tri n c d q := by
  have e := h.tr n c d
  have x1 := Int.mul_pos ha h1
  have x2 := Int.mul_nonneg hb h2
  by_cases c' : 0 < tri n c d q
  · exact c'
  · have := Int.mul_nonneg (Int.le_of_lt hk) (show 0 ≤ - tri n c d q by omega)
    rw [Int.mul_neg] at this
    omega
theorem Comb.symm {k α β : Int} {q a b : V4} (h : Comb k q α a β b) : Comb k q β b α a := ⟨by rw [h.x]; omega, by rw [h.y]; omega, by rw [h.z]; omega, by rw [h.w]; omega⟩
theorem plucker (n o a b c d : V4) : tri n o a b * tri n o c d - tri n o a c * tri n o b d + tri n o a d * tri n o b c = 0 := by
  obtain ⟨n1, n2, n3, n4⟩ := n
  obtain ⟨o1, o2, o3, o4⟩ := o
  obtain ⟨a1, a2, a3, a4⟩ := a
  obtain ⟨b1, b2, b3, b4⟩ := b
  obtain ⟨c1, c2, c3, c4⟩ := c
  obtain ⟨d1, d2, d3, d4⟩ := d
  unfold tri
  simp only
  grind
def CX (n : V4) (p : Nat → V4) (N : Nat) : Prop := ∀ i j k, i < j → j < k → k < N → 0 < tri n (p i) (p j) (p k)
theorem cx_of {n : V4} {p : Nat → V4} {N : Nat} (h : ∀ i j, i + 1 < N → j < N → j ≠ i → j ≠ i + 1 → 0 < tri n (p i) (p (i + 1)) (p j)) : CX n p N := by
  intro i j k hij hjk hk
  by_cases e : j = i + 1
  · subst e; exact h i k (by omega) hk (by omega) (by omega)
  obtain ⟨d, rfl⟩ : ∃ d, k = j + 1 + d := ⟨k - (j + 1), by omega⟩
  induction d with
  | zero => rw [tri_cyc]; exact h j i (by omega) (by omega) (by omega) (by omega)
  | succ d ih =>
    have ih := ih (by omega) (by omega)
    have x1 := h i (j + 1 + d) (by omega) (by omega) (by omega) (by omega)
    have x2 := h i j (by omega) (by omega) (by omega) (by omega)
    have x3 := h (j + 1 + d) i (by omega) (by omega) (by omega) (by omega)
    rw [← tri_cyc] at x3
    have x4 := h i (j + 1 + (d + 1)) (by omega) (by omega) (by omega) (by omega)
    have pl := plucker n (p i) (p (i + 1)) (p j) (p (j + 1 + d)) (p (j + 1 + (d + 1)))
    have y1 := Int.mul_pos x2 (show 0 < tri n (p i) (p (j + 1 + d)) (p (j + 1 + (d + 1))) from x3)
    have y2 := Int.mul_pos x4 ih
    by_cases c : 0 < tri n (p i) (p j) (p (j + 1 + (d + 1)))
    · exact c
    · have := Int.mul_nonneg (Int.le_of_lt x1) (show 0 ≤ - tri n (p i) (p j) (p (j + 1 + (d + 1))) by omega)
      rw [Int.mul_neg] at this
      omega
section
variable {n : V4} {p : Nat → V4} {N : Nat}
theorem CX.pos (h : CX n p N) (e : p N = p 0) {a b c : Nat} (h1 : a < b) (h2 : b < c) (h3 : c ≤ N) (h4 : ¬ (a = 0 ∧ c = N)) : 0 < tri n (p a) (p b) (p c) := by
  by_cases hc : c = N
  · rw [hc, e, tri_cyc, tri_cyc]
    exact h 0 a b (by omega) h1 (by omega)
  · exact h a b c h1 h2 (by omega)
theorem CX.nn (h : CX n p N) (e : p N = p 0) {a b c : Nat} (h1 : a ≤ b) (h2 : b ≤ c) (h3 : c ≤ N) : 0 ≤ tri n (p a) (p b) (p c) := by
  by_cases x : a = b
  · rw [x, tri_aa]; exact Int.le_refl _
  by_cases y : b = c
  · rw [y, tri_bb]; exact Int.le_refl _
  by_cases z : a = 0 ∧ c = N
  · rw [z.1, z.2, e, tri_ac]; exact Int.le_refl _
  exact Int.le_of_lt (h.pos e (by omega) (by omega) h3 z)
end
structure Cut (n : V4) (p : Nat → V4) (N : Nat) (keep cut : Nat → Prop) (val : Nat × Bool → V4) : Prop where
  cx : CX n p N
  n3 : 3 ≤ N
  e : p N = p 0
  ke : keep N ↔ keep 0
  v : ∀ i, val (i, false) = p i
  c : ∀ i, i < N → cut i → ∃ k α β, 0 < k ∧ 0 < α ∧ 0 < β ∧ Comb k (val (i, true)) α (p i) β (p (i + 1))
  ex : ∀ i, i < N → cut i → ¬ (keep i ∧ keep (i + 1))
def Item (N : Nat) (keep cut : Nat → Prop) (u : Nat × Bool) : Prop := u.1 < N ∧ (u.2 = false → keep u.1) ∧ (u.2 = true → cut u.1)
def ltI (u v : Nat × Bool) : Prop := u.1 < v.1 ∨ (u.1 = v.1 ∧ u.2 = false ∧ v.2 = true)
section
variable {n : V4} {p : Nat → V4} {N : Nat} {keep cut : Nat → Prop} {val : Nat × Bool → V4}
theorem Cut.n3' (h : Cut n p N keep cut val) {a b : Nat} {w : Nat × Bool} (hw : Item N keep cut w) (h1 : a ≤ b) (h2 : b ≤ w.1) : 0 ≤ tri n (p a) (p b) (val w) := by
  obtain ⟨i, t⟩ := w
  obtain ⟨hi, _, ht⟩ := hw
  simp only at hi ht h2
  cases t with
  | false => rw [h.v]; exact h.cx.nn h.e h1 h2 (by omega)
  | true =>
    obtain ⟨k, α, β, hk, ha, hb, hc⟩ := h.c i hi (ht rfl)
    exact hc.nn _ _ _ hk (by omega) (by omega) (h.cx.nn h.e h1 h2 (by omega)) (h.cx.nn h.e h1 (by omega) (by omega))
theorem Cut.n2' (h : Cut n p N keep cut val) {a : Nat} {v w : Nat × Bool} (hv : Item N keep cut v) (hw : Item N keep cut w) (h1 : a ≤ v.1) (h2 : ltI v w) : 0 ≤ tri n (p a) (val v) (val w) := by
  obtain ⟨i, t⟩ := v
  have hv' := hv
  obtain ⟨hi, _, ht⟩ := hv
  have le : i ≤ w.1 := by rcases h2 with h | h <;> simp only at h <;> omega
  simp only at hi ht h1
  cases t with
  | false => rw [h.v]; exact h.n3' hw h1 le
  | true =>
    obtain ⟨k, α, β, hk, ha, hb, hc⟩ := h.c i hi (ht rfl)
    have lt : i < w.1 := by
      rcases h2 with h | h
      · exact h
      · exact absurd h.2.1 (by simp)
    rw [← tri_cyc]
    refine hc.nn _ _ _ hk (by omega) (by omega) ?_ ?_
    · rw [tri_cyc]; exact h.n3' hw h1 le
    · rw [tri_cyc]; exact h.n3' hw (by omega) (by omega)
theorem Cut.pos (h : Cut n p N keep cut val) {u v w : Nat × Bool} (hu : Item N keep cut u) (hv : Item N keep cut v) (hw : Item N keep cut w) (huv : ltI u v) (hvw : ltI v w) :
    0 < tri n (val u) (val v) (val w) := by
  have n3 := h.n3
  obtain ⟨i, r⟩ := u
  obtain ⟨j, s⟩ := v
  obtain ⟨l, t⟩ := w
  have ui := hu.1
  have vi := hv.1
  have wi := hw.1
  simp only at ui vi wi
  have L3 : ∀ a b, a < b → b < l → 0 < tri n (p a) (p b) (val (l, t)) := by
    intro a b h1 h2
    cases t with
    | false => rw [h.v]; exact h.cx a b l h1 h2 wi
    | true =>
      obtain ⟨k, α, β, hk, ha, hb, hc⟩ := h.c l wi (hw.2.2 rfl)
      exact hc.ps _ _ _ hk ha (by omega) (h.cx a b l h1 h2 wi) (h.cx.nn h.e (by omega) (by omega) (by omega))
  rcases huv with huv | ⟨e1, e2, e3⟩
  · rcases hvw with hvw | ⟨e1, e2, e3⟩
    ·
      simp only at huv hvw
      have L2 : 0 < tri n (p i) (val (j, s)) (val (l, t)) := by
        cases s with
        | false => rw [h.v]; exact L3 i j huv hvw
        | true =>
          obtain ⟨k, α, β, hk, ha, hb, hc⟩ := h.c j vi (hv.2.2 rfl)
          rw [← tri_cyc]
          refine hc.ps _ _ _ hk ha (by omega) ?_ ?_
          · rw [tri_cyc]; exact L3 i j huv hvw
          · rw [tri_cyc]; exact h.n3' hw (by omega) (show j + 1 ≤ l by omega)
      cases r with
      | false => rw [h.v]; exact L2
      | true =>
        obtain ⟨k, α, β, hk, ha, hb, hc⟩ := h.c i ui (hu.2.2 rfl)
        rw [tri_cyc]
        refine hc.ps _ _ _ hk ha (by omega) ?_ ?_
        · rw [← tri_cyc]; exact L2
        · rw [← tri_cyc]; exact h.n2' hv hw (show i + 1 ≤ j by omega) (.inl hvw)
    ·
      simp only at huv e1 e2 e3
      subst e1 e2 e3
      rw [h.v]
      obtain ⟨k, α, β, hk, ha, hb, hc⟩ := h.c j wi (hw.2.2 rfl)
      refine hc.symm.ps _ _ _ hk hb (by omega) ?_ ?_
      · have G1 := h.cx.nn h.e (a := i + 1) (b := j) (c := j + 1) (by omega) (by omega) (by omega)
        by_cases z : i = 0 ∧ j + 1 = N
        · cases r with
          | false =>
            exfalso
            refine h.ex j wi (hw.2.2 rfl) ⟨hv.2.1 rfl, ?_⟩
            rw [z.2, h.ke, ← z.1]
            exact hu.2.1 rfl
          | true =>
            obtain ⟨k, α, β, hk, ha, hb, hc⟩ := h.c i ui (hu.2.2 rfl)
            rw [tri_cyc]
            refine hc.symm.ps _ _ _ hk hb (by omega) ?_ ?_
            · rw [← tri_cyc]; exact h.cx.pos h.e (by omega) (by omega) (by omega) (by omega)
            · rw [← tri_cyc]; exact h.cx.nn h.e (by omega) (by omega) (by omega)
        · have G0 := h.cx.pos h.e (a := i) (b := j) (c := j + 1) huv (by omega) (by omega) z
          cases r with
          | false => rw [h.v]; exact G0
          | true =>
            obtain ⟨k, α, β, hk, ha, hb, hc⟩ := h.c i ui (hu.2.2 rfl)
            rw [tri_cyc]
            refine hc.ps _ _ _ hk ha (by omega) ?_ ?_
            · rw [← tri_cyc]; exact G0
            · rw [← tri_cyc]; exact G1
      · rw [tri_bb]; exact Int.le_refl _
  ·
    simp only at e1 e2 e3
    subst e1 e2 e3
    have hil : i < l := by
      rcases hvw with h | h
      · exact h
      · exact absurd h.2.1 (by simp)
    rw [h.v]
    obtain ⟨k, α, β, hk, ha, hb, hc⟩ := h.c i vi (hv.2.2 rfl)
    rw [← tri_cyc]
    refine hc.symm.ps _ _ _ hk hb (by omega) ?_ ?_
    · rw [tri_cyc]
      by_cases z : l = i + 1
      · subst z
        cases t with
        | false =>
          exfalso
          exact h.ex i vi (hv.2.2 rfl) ⟨hu.2.1 rfl, hw.2.1 rfl⟩
        | true =>
          obtain ⟨k, α, β, hk, ha, hb, hc⟩ := h.c (i + 1) wi (hw.2.2 rfl)
          refine hc.symm.ps _ _ _ hk hb (by omega) ?_ ?_
          · exact h.cx.pos h.e (by omega) (by omega) (by omega) (by omega)
          · rw [tri_bb]; exact Int.le_refl _
      · exact L3 i (i + 1) (by omega) (by omega)
    · rw [tri_cyc, tri_aa]; exact Int.le_refl _
end
end Go.Eng
end
section
set_option linter.unusedVariables false
set_option linter.unusedSimpArgs false
set_option linter.unusedSectionVars false
set_option maxRecDepth 20000
namespace Go.Eng
open Go Go.Proofs Go.IntWalk
def Pt.v (p : Pt) : V4 := ⟨p.x, p.y, p.z, p.w⟩
theorem lft_tri (P a b x : Pt) : lftZ P a b x = a.w * tri P.v a.v b.v x.v := by
  unfold lftZ tri awx awy awz Pt.v
  simp only
  generalize P.x = P1; generalize P.y = P2; generalize P.z = P3
  generalize a.x = a1; generalize a.y = a2; generalize a.z = a3; generalize a.w = a4
  generalize b.x = b1; generalize b.y = b2; generalize b.z = b3; generalize b.w = b4
  generalize x.x = x1; generalize x.y = x2; generalize x.z = x3; generalize x.w = x4
  grind
theorem ptI_x (a b c d : Int) : (ptI a b c d).x = a := sv_can a
theorem ptI_y (a b c d : Int) : (ptI a b c d).y = b := sv_can b
theorem ptI_z (a b c d : Int) : (ptI a b c d).z = c := sv_can c
theorem ptI_w (a b c d : Int) : (ptI a b c d).w = d := sv_can d
theorem ptI_v (a b c d : Int) : (ptI a b c d).v = ⟨a, b, c, d⟩ := by unfold Pt.v; rw [ptI_x, ptI_y, ptI_z, ptI_w]
theorem cells_inj {p q : Pt} (h : p.cells = q.cells) : p = q := by
  have := congrArg decP h
  rw [decP_cells, decP_cells] at this
  exact Option.some.inj this
theorem ptN_ptOf {X Y Z W : Int} : ptN (ptOf X Y Z W) = ptOf X Y Z W := by
  refine cells_inj ?_
  rw [← ptN_cells, ptOf_cells]
  unfold ptOf
  rw [ptI_x, ptI_y, ptI_z, ptI_w]
  exact pE_idem X Y Z W
theorem ptOf_comb {X Y Z W : Int} (hW : W ≠ 0) : ∃ k : Int, 0 < k ∧ (∀ s : Int, s = (if W < 0 then -1 else 1) → k * (ptOf X Y Z W).x = s * X ∧ k * (ptOf X Y Z W).y = s * Y ∧ k * (ptOf X Y Z W).z = s * Z ∧ k * (ptOf X Y Z W).w = s * W) := by
  refine ⟨(pG X Y Z W : Int), by have := pG_pos X Y Z W; omega, fun s hs => ?_⟩
  have m : ∀ a : Int, (pG X Y Z W : Int) ∣ a → (pG X Y Z W : Int) * pQ X Y Z W a = s * a := by
    intro a h
    rw [Int.mul_comm, pQ_mul h, pW_of hW, hs]
    split <;> omega
  have dw := pG_dvd_w X Y Z W
  unfold ptOf
  rw [ptI_x, ptI_y, ptI_z, ptI_w]
  refine ⟨m _ (pG_dvd_x _ _ _ _), m _ (pG_dvd_y _ _ _ _), m _ (pG_dvd_z _ _ _ _), ?_⟩
  rw [m _ dw, pW_of hW]
theorem cut_comb {c a b : Pt} (h : sgp c a * sgp c b < 0) (ha : 0 < a.w) (hb : 0 < b.w) :
    ∃ k α β : Int, 0 < k ∧ 0 < α ∧ 0 < β ∧ Comb k (cutP c a b).v α a.v β b.v ∧ α * sdv c a + β * sdv c b = 0 := by
  have hW := opp_w h ha hb
  obtain ⟨k, hk, hc⟩ := ptOf_comb (X := a.x * sdv c b - b.x * sdv c a) (Y := a.y * sdv c b - b.y * sdv c a) (Z := a.z * sdv c b - b.z * sdv c a) hW
  rcases opp_cases h with ⟨x, y⟩ | ⟨x, y⟩
  · have wp : ¬ a.w * sdv c b - b.w * sdv c a < 0 := by
      have h1 := Int.mul_pos ha y
      have h2 := Int.mul_neg_of_pos_of_neg hb x
      omega
    obtain ⟨e1, e2, e3, e4⟩ := hc 1 (by rw [if_neg wp])
    refine ⟨k, sdv c b, -sdv c a, hk, y, by omega, ⟨?_, ?_, ?_, ?_⟩, ?_⟩
    · refine e1.trans ?_; simp only [Pt.v]; grind
    · refine e2.trans ?_; simp only [Pt.v]; grind
    · refine e3.trans ?_; simp only [Pt.v]; grind
    · refine e4.trans ?_; simp only [Pt.v]; grind
    · grind
  · have wp : a.w * sdv c b - b.w * sdv c a < 0 := by
      have h1 := Int.mul_neg_of_pos_of_neg ha y
      have h2 := Int.mul_pos hb x
      omega
    obtain ⟨e1, e2, e3, e4⟩ := hc (-1) (by rw [if_pos wp])
    refine ⟨k, -sdv c b, sdv c a, hk, by omega, x, ⟨?_, ?_, ?_, ?_⟩, ?_⟩
    · refine e1.trans ?_; simp only [Pt.v]; grind
    · refine e2.trans ?_; simp only [Pt.v]; grind
    · refine e3.trans ?_; simp only [Pt.v]; grind
    · refine e4.trans ?_; simp only [Pt.v]; grind
    · grind
theorem comb_sdv {k α β : Int} {q a b : Pt} (h : Comb k q.v α a.v β b.v) (P : Pt) : k * sdv P q = α * sdv P a + β * sdv P b := by
  obtain ⟨h1, h2, h3, h4⟩ := h
  simp only [Pt.v] at h1 h2 h3 h4
  unfold sdv
  grind
theorem zero_of_mul {k z : Int} (hk : 0 < k) (h : k * z = 0) : z = 0 := by
  rcases Int.mul_eq_zero.1 h with h | h <;> omega
theorem pos_of_mul {k z : Int} (hk : 0 < k) (h : 0 < k * z) : 0 < z := by
  by_cases c : 0 < z
  · exact c
  · have := Int.mul_nonneg (Int.le_of_lt hk) (show 0 ≤ -z by omega)
    rw [Int.mul_neg] at this
    omega
theorem cut_in {c a b P : Pt} (h : sgp c a * sgp c b < 0) (ha : 0 < a.w) (hb : 0 < b.w) (h1 : sdv P a = 0) (h2 : sdv P b = 0) : sdv P (cutP c a b) = 0 := by
  obtain ⟨k, α, β, hk, _, _, hc, hz⟩ := cut_comb h ha hb
  exact zero_of_mul hk ((comb_sdv hc P).trans (by rw [h1, h2, Int.mul_zero, Int.mul_zero]; rfl))
theorem cut_can {c a b : Pt} : ptN (cutP c a b) = cutP c a b := ptN_ptOf
theorem sdv_lb {c a : Pt} {i j : Nat} (hc : c.sz i) (ha : a.sz j) : LB (sdv c a) (i + j + 3) := by
  unfold sdv
  exact (((LB.mul (ic1 hc).lb (ic1 ha).lb (k := i + j) (Nat.le_refl _)).add (LB.mul (ic2 hc).lb (ic2 ha).lb (k := i + j) (Nat.le_refl _)) (k := i + j + 1) (by omega)).add (LB.mul (ic3 hc).lb (ic3 ha).lb (k := i + j) (Nat.le_refl _)) (k := i + j + 2) (by omega)).sub (LB.mul (ic4 hc).lb (ic4 ha).lb (k := i + j) (Nat.le_refl _)) (by omega)
theorem cut_sz {c a b : Pt} {i j : Nat} (hc : c.sz i) (ha : a.sz j) (hb : b.sz j) (h : sgp c a * sgp c b < 0) (wa : 0 < a.w) (wb : 0 < b.w) : (cutP c a b).sz (i + 2 * j + 4) := by
  have sa := sdv_lb hc ha
  have sb := sdv_lb hc hb
  have f : ∀ {x y : Int}, LB x j → LB y j → LB (x * sdv c b - y * sdv c a) (i + 2 * j + 4) := fun hx hy => (hx.mul sb (k := i + 2 * j + 3) (by omega)).sub (hy.mul sa (k := i + 2 * j + 3) (by omega)) (by omega)
  refine ⟨?_, ?_, ?_, ?_⟩
  · exact pQ_len (f (ic1 ha).lb (ic1 hb).lb)
  · exact pQ_len (f (ic2 ha).lb (ic2 hb).lb)
  · exact pQ_len (f (ic3 ha).lb (ic3 hb).lb)
  · refine pQ_len ?_
    rw [pW_of (opp_w h wa wb)]
    exact f (ic4 ha).lb (ic4 hb).lb
def pv (l : List Pt) (i : Nat) : V4 := (ptAt l (i % l.length)).v
theorem pv_lt {l : List Pt} {i : Nat} (h : i < l.length) : pv l i = (ptAt l i).v := by unfold pv; rw [Nat.mod_eq_of_lt h]
theorem pv_e (l : List Pt) : pv l l.length = pv l 0 := by unfold pv; rw [Nat.mod_self, Nat.zero_mod]
theorem turns_cx {P : Pt} {l : List Pt} (hw : ∀ p ∈ l, 0 < p.w) (h : turnsP P l) : CX P.v (pv l) l.length := by
  refine cx_of fun i j h1 h2 h3 h4 => ?_
  have := h i (by omega) j h2 h3 (by rw [Nat.mod_eq_of_lt h1]; exact h4)
  rw [Nat.mod_eq_of_lt h1, lft_tri] at this
  rw [pv_lt (by omega), pv_lt h1, pv_lt h2]
  exact pos_of_mul (hw _ (ptAt_mem (by omega))) this
theorem cx_turns {P : Pt} {l : List Pt} (hw : ∀ p ∈ l, 0 < p.w) (h : CX P.v (pv l) l.length) : turnsP P l := by
  intro i hi j hj h3 h4
  rw [lft_tri]
  refine Int.mul_pos (hw _ (ptAt_mem hi)) ?_
  by_cases e : i + 1 < l.length
  · rw [Nat.mod_eq_of_lt e] at h4 ⊢
    rw [← pv_lt hi, ← pv_lt e, ← pv_lt hj]
    by_cases c : j < i
    · rw [← tri_cyc]; exact h j i (i + 1) c (by omega) e
    · exact h i (i + 1) j (by omega) (by omega) hj
  · have e' : i + 1 = l.length := by omega
    rw [e', Nat.mod_self] at h4 ⊢
    rw [← pv_lt hi, ← pv_lt (show 0 < l.length by omega), ← pv_lt hj, tri_cyc]
    exact h 0 j i (by omega) (by omega) hi
def itsAt (c : Pt) (l : List Pt) (here : Int) (i : Nat) : List (Nat × Bool) :=
  (if sgp c (ptAt l i) ≠ -here then [(i, false)] else []) ++ (if sgp c (ptAt l i) * sgp c (ptAt l ((i + 1) % l.length)) < 0 then [(i, true)] else [])
def its (c : Pt) (l : List Pt) (here : Int) : Nat → List (Nat × Bool)
  | 0 => []
  | i + 1 => its c l here i ++ itsAt c l here i
def itV (c : Pt) (l : List Pt) : Nat × Bool → Pt
  | (i, false) => ptAt l (i % l.length)
  | (i, true) => cutP c (ptAt l (i % l.length)) (ptAt l ((i + 1) % l.length))
def keepI (c : Pt) (l : List Pt) (here : Int) (i : Nat) : Prop := sgp c (ptAt l (i % l.length)) ≠ -here
def cutI (c : Pt) (l : List Pt) (i : Nat) : Prop := sgp c (ptAt l (i % l.length)) * sgp c (ptAt l ((i + 1) % l.length)) < 0
theorem prtL_its {c : Pt} {l : List Pt} {here : Int} : ∀ m, m ≤ l.length → prtL c l here m = (its c l here m).map (itV c l)
  | 0, _ => rfl
  | m + 1, h => by
    have e : m % l.length = m := Nat.mod_eq_of_lt (by omega)
    rw [prtL, its, List.map_append, prtL_its m (by omega), prtAt, itsAt, List.map_append]
    congr 1
    congr 1
    · split
      · simp only [List.map_cons, List.map_nil, itV, e]
      · rfl
    · split
      · simp only [List.map_cons, List.map_nil, itV, e]
      · rfl
theorem its_at {c : Pt} {l : List Pt} {here : Int} {i : Nat} {u : Nat × Bool} (hi : i < l.length) (h : u ∈ itsAt c l here i) : u.1 = i ∧ Item l.length (keepI c l here) (cutI c l) u := by
  have e : i % l.length = i := Nat.mod_eq_of_lt hi
  unfold itsAt at h
  rw [List.mem_append] at h
  rcases h with h | h
  · split at h
    · rename_i k
      rw [List.mem_singleton] at h
      subst h
      exact ⟨rfl, hi, (fun _ => by unfold keepI; simp only [e]; exact k), (fun x => by cases x)⟩
    · cases h
  · split at h
    · rename_i k
      rw [List.mem_singleton] at h
      subst h
      exact ⟨rfl, hi, (fun x => by cases x), (fun _ => by unfold cutI; simp only [e]; exact k)⟩
    · cases h
theorem its_mem {c : Pt} {l : List Pt} {here : Int} {u : Nat × Bool} : ∀ m, m ≤ l.length → u ∈ its c l here m → u.1 < m ∧ Item l.length (keepI c l here) (cutI c l) u
  | 0, _, h => by cases h
  | m + 1, hm, h => by
    rw [its, List.mem_append] at h
    rcases h with h | h
    · obtain ⟨a, b⟩ := its_mem m (by omega) h
      exact ⟨by omega, b⟩
    · obtain ⟨a, b⟩ := its_at (by omega) h
      exact ⟨by omega, b⟩
theorem its_in {c : Pt} {l : List Pt} {here : Int} {u : Nat × Bool} (hu : Item l.length (keepI c l here) (cutI c l) u) : ∀ m, m ≤ l.length → u.1 < m → u ∈ its c l here m
  | 0, _, h => by omega
  | m + 1, hm, h => by
    rw [its, List.mem_append]
    by_cases e : u.1 = m
    · refine .inr ?_
      obtain ⟨i, t⟩ := u
      have e' : i = m := e
      subst e'
      have e2 : i % l.length = i := Nat.mod_eq_of_lt hu.1
      unfold itsAt
      rw [List.mem_append]
      cases t with
      | false =>
        have := hu.2.1 rfl
        unfold keepI at this
        simp only [e2] at this
        exact .inl (by rw [if_pos this]; exact List.mem_singleton.2 rfl)
      | true =>
        have := hu.2.2 rfl
        unfold cutI at this
        simp only [e2] at this
        exact .inr (by rw [if_pos this]; exact List.mem_singleton.2 rfl)
    · exact .inl (its_in hu m (by omega) (by omega))
theorem its_sorted {c : Pt} {l : List Pt} {here : Int} : ∀ m, m ≤ l.length → (its c l here m).Pairwise ltI
  | 0, _ => .nil
  | m + 1, hm => by
    rw [its, List.pairwise_append]
    refine ⟨its_sorted m (by omega), ?_, fun a ha b hb => .inl ?_⟩
    · unfold itsAt
      split <;> split
      · exact .cons (fun b hb => by have hb' : b ∈ [(m, true)] := hb; rw [List.mem_singleton] at hb'; subst hb'; exact .inr ⟨rfl, rfl, rfl⟩) (.cons (fun b hb => by cases hb) .nil)
      · exact .cons (fun b hb => by cases hb) .nil
      · exact .cons (fun b hb => by cases hb) .nil
      · exact .nil
    · have := (its_mem m (by omega) ha).1
      have := (its_at (by omega) hb).1
      omega
section
variable {P c : Pt} {l : List Pt} {here : Int}
theorem cut_of (hw : ∀ p ∈ l, 0 < p.w) (h3 : 3 ≤ l.length) (ht : turnsP P l) (hr : here = 1 ∨ here = -1) :
    Cut P.v (pv l) l.length (keepI c l here) (cutI c l) (fun u => (itV c l u).v) where
  cx := turns_cx hw ht
  n3 := h3
  e := pv_e l
  ke := by unfold keepI; rw [Nat.mod_self, Nat.zero_mod]
  v := fun i => rfl
  c := fun i hi hc => by
    have wi : ∀ j, 0 < (ptAt l (j % l.length)).w := fun j => hw _ (ptAt_mem (Nat.mod_lt _ (by omega)))
    obtain ⟨k, α, β, h1, h2, h3, h4, _⟩ := cut_comb hc (wi _) (wi _)
    exact ⟨k, α, β, h1, h2, h3, h4⟩
  ex := fun i hi hc => by
    rintro ⟨k1, k2⟩
    unfold keepI at k1 k2
    unfold cutI at hc
    rcases sgp_val c (ptAt l (i % l.length)) with a | a | a <;> rcases sgp_val c (ptAt l ((i + 1) % l.length)) with b | b | b <;> rw [a] at k1 hc <;> rw [b] at k2 hc <;> rcases hr with r | r <;> rw [r] at k1 k2 <;> revert k1 k2 hc <;> decide
theorem prt_its : prt c l here = (its c l here l.length).map (itV c l) := prtL_its _ (Nat.le_refl _)
theorem prt_at {i : Nat} (h : i < (prt c l here).length) : ∃ h' : i < (its c l here l.length).length, ptAt (prt c l here) i = itV c l ((its c l here l.length)[i]) := by
  have e := prt_its (c := c) (l := l) (here := here)
  have h' : i < (its c l here l.length).length := by rw [e, List.length_map] at h; exact h
  refine ⟨h', ptAt_eq ?_⟩
  rw [e, List.getElem?_map, List.getElem?_eq_getElem h']; rfl
theorem prt_mem {q : Pt} (h : q ∈ prt c l here) : ∃ u, Item l.length (keepI c l here) (cutI c l) u ∧ q = itV c l u := by
  rw [prt_its, List.mem_map] at h
  obtain ⟨u, hu, e⟩ := h
  exact ⟨u, (its_mem _ (Nat.le_refl _) hu).2, e.symm⟩
theorem itv_all {Q : Pt → Prop} (h1 : ∀ p ∈ l, Q p) (h2 : ∀ a ∈ l, ∀ b ∈ l, sgp c a * sgp c b < 0 → Q (cutP c a b)) {u : Nat × Bool} (hu : Item l.length (keepI c l here) (cutI c l) u) : Q (itV c l u) := by
  obtain ⟨i, t⟩ := u
  have m : ∀ j, ptAt l (j % l.length) ∈ l := fun j => ptAt_mem (Nat.mod_lt _ (by have := hu.1; omega))
  cases t with
  | false => exact h1 _ (m i)
  | true => exact h2 _ (m i) _ (m (i + 1)) (hu.2.2 rfl)
theorem prt_all {Q : Pt → Prop} (h1 : ∀ p ∈ l, Q p) (h2 : ∀ a ∈ l, ∀ b ∈ l, sgp c a * sgp c b < 0 → Q (cutP c a b)) : ∀ q ∈ prt c l here, Q q := fun q hq => by
  obtain ⟨u, hu, rfl⟩ := prt_mem hq
  exact itv_all h1 h2 hu
theorem prt_cx (hw : ∀ p ∈ l, 0 < p.w) (h3 : 3 ≤ l.length) (ht : turnsP P l) (hr : here = 1 ∨ here = -1) : CX P.v (pv (prt c l here)) (prt c l here).length := by
  intro i j k hij hjk hk
  have C := cut_of (c := c) hw h3 ht hr
  obtain ⟨i', ei⟩ := prt_at (c := c) (l := l) (here := here) (i := i) (by omega)
  obtain ⟨j', ej⟩ := prt_at (c := c) (l := l) (here := here) (i := j) (by omega)
  obtain ⟨k', ek⟩ := prt_at (c := c) (l := l) (here := here) (i := k) hk
  rw [pv_lt (by omega), pv_lt (by omega), pv_lt hk, ei, ej, ek]
  have pw := List.pairwise_iff_getElem.1 (its_sorted (c := c) (l := l) (here := here) l.length (Nat.le_refl _))
  exact C.pos (its_mem _ (Nat.le_refl _) (List.getElem_mem i')).2 (its_mem _ (Nat.le_refl _) (List.getElem_mem j')).2 (its_mem _ (Nat.le_refl _) (List.getElem_mem k')).2 (pw _ _ _ _ hij) (pw _ _ _ _ hjk)
end
theorem three_mem {α : Type} {L : List α} {a b c : α} (h1 : a ∈ L) (h2 : b ∈ L) (h3 : c ∈ L) (n1 : a ≠ b) (n2 : a ≠ c) (n3 : b ≠ c) : 3 ≤ L.length := by
  obtain ⟨i, hi, ei⟩ := List.getElem_of_mem h1
  obtain ⟨j, hj, ej⟩ := List.getElem_of_mem h2
  obtain ⟨k, hk, ek⟩ := List.getElem_of_mem h3
  have x1 : i ≠ j := by rintro rfl; exact n1 (ei.symm.trans ej)
  have x2 : i ≠ k := by rintro rfl; exact n2 (ei.symm.trans ek)
  have x3 : j ≠ k := by rintro rfl; exact n3 (ej.symm.trans ek)
  omega
theorem prt_three {c : Pt} {l : List Pt} {here : Int} (hr : here = 1 ∨ here = -1) (h3 : 3 ≤ l.length) (ha : anyP c l here l.length) : 3 ≤ (prt c l here).length := by
  obtain ⟨v, hv, hs⟩ := ha
  have lt : ∀ j, j % l.length < l.length := fun j => Nat.mod_lt _ (by omega)
  rw [prt_its, List.length_map]
  have mem : ∀ {u : Nat × Bool}, Item l.length (keepI c l here) (cutI c l) u → u ∈ its c l here l.length := fun hu => its_in hu _ (Nat.le_refl _) hu.1
  have ev : v % l.length = v := Nat.mod_eq_of_lt hv
  have A : Item l.length (keepI c l here) (cutI c l) (v, false) := ⟨hv, (fun _ => by unfold keepI; simp only [ev, hs]; rcases hr with r | r <;> rw [r] <;> decide), (fun x => by cases x)⟩
  have B : ∃ u, Item l.length (keepI c l here) (cutI c l) u ∧ (u = ((v + 1) % l.length, false) ∨ u = (v, true)) := by
    by_cases k : sgp c (ptAt l ((v + 1) % l.length)) = -here
    · refine ⟨(v, true), ⟨hv, (fun x => by cases x), fun _ => ?_⟩, .inr rfl⟩
      unfold cutI
      simp only [ev, hs, k]
      rcases hr with r | r <;> rw [r] <;> decide
    · refine ⟨((v + 1) % l.length, false), ⟨lt _, fun _ => ?_, (fun x => by cases x)⟩, .inl rfl⟩
      unfold keepI
      simp only [Nat.mod_mod]
      exact k
  have D : ∃ u, Item l.length (keepI c l here) (cutI c l) u ∧ u.1 = (v + (l.length - 1)) % l.length := by
    have e1 : ((v + (l.length - 1)) % l.length + 1) % l.length = v := by
      rw [← Nat.add_mod_mod, Nat.mod_add_mod, Nat.add_assoc]
      have : l.length - 1 + 1 % l.length = l.length := by rw [Nat.mod_eq_of_lt (by omega)]; omega
      rw [this, Nat.add_mod_right, ev]
    by_cases k : sgp c (ptAt l ((v + (l.length - 1)) % l.length)) = -here
    · refine ⟨((v + (l.length - 1)) % l.length, true), ⟨lt _, (fun x => by cases x), fun _ => ?_⟩, rfl⟩
      unfold cutI
      simp only [Nat.mod_mod, e1, hs, k]
      rcases hr with r | r <;> rw [r] <;> decide
    · refine ⟨((v + (l.length - 1)) % l.length, false), ⟨lt _, fun _ => ?_, (fun x => by cases x)⟩, rfl⟩
      unfold keepI
      simp only [Nat.mod_mod]
      exact k
  obtain ⟨b, hb, eb⟩ := B
  obtain ⟨d, hd, ed⟩ := D
  have ed' : d.1 = if v = 0 then l.length - 1 else v - 1 := by
    rw [ed]
    split
    · rename_i h0; rw [h0, Nat.zero_add, Nat.mod_eq_of_lt (by omega)]
    · rw [show v + (l.length - 1) = (v - 1) + l.length by omega, Nat.add_mod_right, Nat.mod_eq_of_lt (by omega)]
  have eb' : (v + 1) % l.length = if v + 1 = l.length then 0 else v + 1 := by
    split
    · rename_i h0; rw [h0, Nat.mod_self]
    · rw [Nat.mod_eq_of_lt (by omega)]
  refine three_mem (mem A) (mem hb) (mem hd) ?_ ?_ ?_
  · rcases eb with rfl | rfl
    · intro e
      have := congrArg Prod.fst e
      simp only at this
      rw [eb'] at this
      split at this <;> omega
    · intro e; cases e
  · intro e
    have := congrArg Prod.fst e
    simp only at this
    rw [ed'] at this
    split at this <;> omega
  · intro e
    rw [← e] at ed'
    rcases eb with rfl | rfl
    · simp only at ed'
      rw [eb'] at ed'
      split at ed' <;> split at ed' <;> omega
    · simp only at ed'
      split at ed' <;> omega
theorem prt_chk {P c : Pt} {l : List Pt} {here : Int} (h : chk P l = 0) (hr : here = 1 ∨ here = -1) (ha : anyP c l here l.length) : chk P (prt c l here) = 0 := by
  obtain ⟨h1, h2, h3, h4, h5⟩ := (chk_val P l).1 h
  have all : ∀ {Q : Pt → Prop}, (∀ i, i < l.length → Q (ptAt l i)) → ∀ p ∈ l, Q p := fun hq p hp => by
    obtain ⟨j, hj⟩ := List.getElem?_of_mem hp
    have := hq j (List.getElem?_eq_some_iff.1 hj).1
    rw [ptAt_eq hj] at this
    exact this
  have c2 := all (Q := fun p => ptN p = p) h2
  have c4 := all (Q := fun p => sdv P p = 0) h4
  have hw : ∀ p ∈ l, 0 < p.w := fun p hp => can_w (c2 p hp)
  have t3 := prt_three hr (by omega) ha
  have q2 := prt_all (c := c) (here := here) (Q := fun p => ptN p = p) c2 (fun a _ b _ _ => cut_can)
  have q4 := prt_all (c := c) (here := here) (Q := fun p => sdv P p = 0) c4 (fun a ha b hb hc => cut_in hc (hw a ha) (hw b hb) (c4 a ha) (c4 b hb))
  refine (chk_val P _).2 ⟨h1, fun i hi => q2 _ (ptAt_mem hi), by omega, fun i hi => q4 _ (ptAt_mem hi), ?_⟩
  exact cx_turns (fun p hp => can_w (q2 p hp)) (prt_cx hw (by omega) h5 hr)
theorem flip_sdv (P q : Pt) : sdv (flipP P) q = -sdv P q := by
  unfold sdv flipP
  rw [ptI_x, ptI_y, ptI_z, ptI_w]
  grind
theorem flip_sz {c : Pt} {k : Nat} (h : c.sz k) : (flipP c).sz k := by
  have f : ∀ z : Int, LB z k → LB (-z) k := fun z h => by unfold LB; rw [Int.natAbs_neg]; exact h
  exact ⟨f _ (ic1 h).lb, f _ (ic2 h).lb, f _ (ic3 h).lb, f _ (ic4 h).lb⟩
end Go.Eng
end
section
set_option linter.unusedVariables false
set_option linter.unusedSimpArgs false
set_option linter.unusedSectionVars false
set_option maxRecDepth 20000
namespace Go.Eng
open Go Go.Proofs Go.IntWalk
theorem sl_pt (P : Pt) (k n : Nat) : (pc9 P (pSl k n))[8]? = some (.slice (some ⟨k, 0, none⟩) n n) := rfl
theorem sl_z : z9[8]? = some (.slice none 0 0) := rfl
theorem pos_gt {n : Nat} (h : 0 < n) : ((n : Int) > 0) = True := eq_true (by omega)
theorem prt_split {P c : Pt} {l : List Pt} {here : Int} (h : fineP P l) (hc : c.sz 6) : SplitOK P c (prt c l here) := by
  have s10 := h.1.1
  have s6 := h.1.2.2
  have hw := h.w
  have c2 : ∀ q ∈ prt c l here, q.sz 22 ∧ 0 < q.w := prt_all (Q := fun q => q.sz 22 ∧ 0 < q.w) (fun p hp => ⟨(s6 p hp).le (by omega), hw p hp⟩) (fun a ha b hb hx => ⟨cut_sz hc (s6 a ha) (s6 b hb) hx (hw a ha) (hw b hb), can_w cut_can⟩)
  have := prt_len (c := c) (l := l) (here := here)
  exact ⟨⟨(h.1.2.1).le (by omega), fun q hq => (c2 q hq).1.le (by omega), by omega⟩, hc.le (by omega), fun q hq => (c2 q hq).2⟩
section
variable {P c : Pt} {l : List Pt} {here : Int}
theorem nl_A (h1 : anyP c l (-1) l.length) (h2 : ¬ anyP c l 1 l.length) : splitNL P c l = ⟨1, fun σ => .tuple ⟨[.agg ⟨pc9 P (pSl (σ 0) (prt c l (-1)).length)⟩, .agg ⟨z9⟩]⟩, fun _ => 41, fun _ => 8, fun _ _ => ptsC (prt c l (-1))⟩ := by unfold splitNL; rw [if_pos h1, if_neg h2]
theorem nl_B (h1 : ¬ anyP c l (-1) l.length) (h2 : anyP c l 1 l.length) : splitNL P c l = ⟨1, fun σ => .tuple ⟨[.agg ⟨z9⟩, .agg ⟨pc9 P (pSl (σ 0) (prt c l 1).length)⟩]⟩, fun _ => 41, fun _ => 8, fun _ _ => ptsC (prt c l 1)⟩ := by unfold splitNL; rw [if_neg h1, if_pos h2]
theorem nl_AB (h1 : anyP c l (-1) l.length) (h2 : anyP c l 1 l.length) : splitNL P c l = ⟨2, fun σ => .tuple ⟨[.agg ⟨pc9 P (pSl (σ 0) (prt c l (-1)).length)⟩, .agg ⟨pc9 P (pSl (σ 1) (prt c l 1).length)⟩]⟩, fun _ => 41, fun _ => 8, fun _ i => if i = 0 then ptsC (prt c l (-1)) else ptsC (prt c l 1)⟩ := by unfold splitNL; rw [if_pos h1, if_pos h2]
theorem nl_0 (h1 : ¬ anyP c l (-1) l.length) (h2 : ¬ anyP c l 1 l.length) : splitNL P c l = ⟨0, fun _ => .tuple ⟨[.agg ⟨z9⟩, .agg ⟨z9⟩]⟩, fun _ => 0, fun _ => 0, fun _ _ => []⟩ := by unfold splitNL; rw [if_neg h1, if_neg h2]
end
end Go.Eng
end
section
set_option linter.unusedVariables false
set_option linter.unusedSimpArgs false
set_option linter.unusedSectionVars false
set_option maxRecDepth 20000
namespace Go.Eng
open Go Go.Proofs Go.IntWalk
def spL8half : List Value → Option Value
  | [] => some (.agg ⟨rE (1 / 2)⟩)
  | _ => none
def c28 : ICode :=
  (.seq (.reg [qq 0 (.alloc 49 3 [(.bool false), e0, e0])]) (.seq (.reg [qq 4 (.call 32 [(ci 1)]), qq 5 (.call 32 [(ci 2)]), qq 6 (.call 63 [(.t 4), (.t 5)]), qq 3 (.mv (.t 6)), qq 7 (.ext (.t 3) 0), qq 8 (.ext (.t 3) 1), qq 1 (.alloc 49 3 [(.bool false), e0, e0]), qn (.store 3 (.t 1) (.t 7)), qq 2 (.mv (.t 8))]) (.seq (.reg [qq 9 (.load true 3 (.t 1)), qn (.store 3 (.t 0) (.t 9))]) .ret)))
theorem tr28 : trFun Tryz.prog 28 = some ⟨10, [.cell 0 true 3], c28⟩ := by kernel_rfl
theorem ok_L8half : SpecOK Tryz.prog 28 (flat spL8half) := by
  refine flat_run (env_cons ok_r3From8 (env_cons ok_r3Div (env_nil _))) mixed tr28 ?_
  intro args v h N hG
  unfold spL8half at hG
  split at hG
  case h_2 => cases hG
  cases hG
  refine ⟨rfl, by simp, ?_⟩
  have f1 : spR3From8 [.int .i64 1] = some (.agg ⟨rE 1⟩) := by unfold spR3From8; exact if_pos (by decide)
  have f2 := r3From2
  have d := r3Div2_rE (x := 1) (RB.int (z := 1) (bl_length_le.2 (by decide)) (Nat.le_refl 1)) (by omega)
  simp only [c28, G0, Nat.reduceAdd]
  simp only [↓R0, R1, simprocAttr, -Int.reduceAbs, f1, f2, d, rE_l3, rE_o3, rE_t3, z3_new, Fin, isEnd, resL, res1]
  exact ⟨_, rfl, rfl, fun k hk => by simp only [ne_nb hk, if_false]⟩
def spL8inside : List Value → Option Value
  | [.agg ⟨[.bool _, .string _, .bool _, .string _, .bool _, .string _, .bool _, .string _, .slice _ l _]⟩] => some (.int .i64 (if l = 3 then 0 else 1))
  | _ => none
def c29 : ICode :=
  (.seq (.reg [qq 1 (.box 28 9 (.t 0)), qq 2 (.mv (ci 0))]) (.seq (.seq (.reg [qq 3 (.faddr 8 (.t 1)), qq 4 (.load false 1 (.t 3)), qq 5 (.lensl (.t 4)), qq 6 (.bin .eql (.t 5) (ci 3))]) (.cond (.t 6) (.seq (.reg [qq 2 (.mv (ci 0))]) .ret) .skip)) (.seq (.reg [qq 2 (.mv (ci 1))]) .ret)))
theorem tr29 : trFun Tryz.prog 29 = some ⟨7, [.t 2], c29⟩ := by kernel_rfl
theorem ok_L8inside : SpecOK Tryz.prog 29 (flat spL8inside) := by
  refine flat_run (env_nil _) mixed tr29 ?_
  intro args v h N hG
  unfold spL8inside at hG
  split at hG
  case h_2 => cases hG
  rename_i a1 a2 a3 a4 a5 a6 a7 a8 a l c
  cases hG
  refine ⟨by split <;> rfl, by simp, ?_⟩
  by_cases e : l = 3
  · subst e
    simp only [c29, G0, Nat.reduceAdd]
    simp only [↓R0, R1, simprocAttr, -Int.reduceAbs, Fin, isEnd, resL, res1, iE, rE]
    exact ⟨_, rfl, rfl, fun k hk => by simp only [ne_nb hk, if_false]⟩
  · have e' : ((l : Int) = 3) = False := eq_false (by omega)
    rw [if_neg e]
    simp only [c29, G0, Nat.reduceAdd]
    simp only [↓R0, R1, simprocAttr, -Int.reduceAbs, e', Fin, isEnd, resL, res1, iE, rE]
    exact ⟨_, rfl, rfl, fun k hk => by simp only [ne_nb hk, if_false]⟩
theorem inside_of (P : Pt) (a : Option Addr) (n c : Nat) : spL8inside [.agg ⟨pc9 P (.slice a n c)⟩] = some (.int .i64 (if n = 3 then 0 else 1)) := rfl
theorem coords_rbk {p : Pt} {k : Nat} (h : p.sz k) (hk : 1 ≤ k) : RB p.cx k ∧ RB p.cy k ∧ RB p.cz k := by
  have n4 := pW_len (len_sv (s := p.s4) h.2.2.2) hk
  have w0 := pW_ne p.w
  exact ⟨divInt_RB w0 (len_sv (s := p.s1) h.1) n4, divInt_RB w0 (len_sv (s := p.s2) h.2.1) n4, divInt_RB w0 (len_sv (s := p.s3) h.2.2.1) n4⟩
theorem RB_half : RB (1 / 2) 2 := (RB.int (z := 1) (bl_length_le.2 (by decide)) (Nat.le_refl 1)).div (q := 2) (j := 1) (RB.int (z := 2) (bl_length_le.2 (by decide)) (by omega)) (by omega) (by omega)
def mdR (a b : Rat) : Rat := a + 1 / 2 * (b - a)
theorem mdR_RB {a b : Rat} (ha : RB a 6) (hb : RB b 6) : RB (mdR a b) 22 := ha.add (k := 22) (RB_half.mul (k := 15) (hb.sub (k := 13) ha (by omega)) (by omega)) (by omega)
def mdE (a b : Pt) : List Value := mkE (mdR a.cx b.cx) (mdR a.cy b.cy) (mdR a.cz b.cz)
def spR4Mid : List Value → Option Value
  | [.agg ⟨ca⟩, .agg ⟨cb⟩, .agg ⟨[.bool s, .string ⟨⟨n⟩⟩, .string ⟨⟨d⟩⟩]⟩] => match decP ca, decP cb with
    | some a, some b => if a.sz 6 ∧ b.sz 6 ∧ n.length ≤ 6 ∧ d.length ≤ 6 ∧ rv s n d = 1 / 2 then some (.agg ⟨mdE a b⟩) else none
    | _, _ => none
  | _ => none
theorem mid_of {a b : Pt} (ha : a.sz 6) (hb : b.sz 6) : spR4Mid [.agg ⟨a.cells⟩, .agg ⟨b.cells⟩, .agg ⟨rE (1 / 2)⟩] = some (.agg ⟨mdE a b⟩) := by
  unfold spR4Mid rE
  simp only [rv_can, decP_cells]
  exact if_pos ⟨ha, hb, RB_half.num (by omega), RB_half.den (by omega), trivial⟩
theorem mkE_cells (a b : Pt) : ∃ X : Pt, a.sz 6 → b.sz 6 → mdE a b = X.cells ∧ X.can ∧ X.ok ∧ Rat.divInt X.x X.w = mdR a.cx b.cx ∧ Rat.divInt X.y X.w = mdR a.cy b.cy ∧ Rat.divInt X.z X.w = mdR a.cz b.cz := by
  by_cases h : a.sz 6 ∧ b.sz 6
  · obtain ⟨a1, a2, a3⟩ := coords_rbk h.1 (by omega)
    obtain ⟨b1, b2, b3⟩ := coords_rbk h.2 (by omega)
    obtain ⟨X, e⟩ := Pt.of_coords (mdR_RB a1 b1) (mdR_RB a2 b2) (mdR_RB a3 b3) (by omega) (by omega)
    exact ⟨X, fun _ _ => e⟩
  · exact ⟨Pt.dflt, fun h1 h2 => absurd ⟨h1, h2⟩ h⟩
def c27 : ICode :=
  (.seq (.reg [qq 3 (.box 41 8 (.t 0)), qq 4 (.box 41 8 (.t 1)), qq 5 (.box 49 3 (.t 2)), qq 6 (.alloc 41 8 [(.bool false), e0, (.bool false), e0, (.bool false), e0, (.bool false), e0])]) (.seq (.dreg [qu 10 (.load true 8 (.t 3)), qu 11 (.call 65 [(.t 10)]), qv 12 [1] (.load true 8 (.t 4)), qu 13 (.call 65 [(.t 12)]), qu 7 (.alloc 51 9 [(.bool false), e0, e0, (.bool false), e0, e0, (.bool false), e0, e0]), qu 8 (.alloc 51 9 [(.bool false), e0, e0, (.bool false), e0, e0, (.bool false), e0, e0]), qm (.store 9 (.t 7) (.t 11)), qm (.store 9 (.t 8) (.t 13))]) (.seq (.seq (.reg [qq 14 (.mv (ci 0))]) (.block 0 (.loop (.seq (.reg [qq 15 (.bin .lss (.t 14) (ci 3))]) (.seq (.cond (.t 15) .skip (.exit 0)) (.seq (.block 1 (.seq (.reg [qq 16 (.mv (.t 14)), qq 9 (.mv (.t 16))]) (.dreg [qu 17 (.mv (.t 9)), qu 18 (.mv (.t 9)), qu 19 (.ixarr 3 3 (.t 7) (.t 18)), qu 20 (.load true 3 (.t 19)), qu 21 (.load true 3 (.t 5)), qu 22 (.mv (.t 9)), qu 23 (.ixarr 3 3 (.t 8) (.t 22)), qu 24 (.load true 3 (.t 23)), qu 25 (.mv (.t 9)), qu 26 (.ixarr 3 3 (.t 7) (.t 25)), qu 27 (.load true 3 (.t 26)), qu 28 (.call 67 [(.t 24), (.t 27)]), qu 29 (.call 66 [(.t 21), (.t 28)]), qu 30 (.call 64 [(.t 20), (.t 29)]), qu 31 (.ixarr 3 3 (.t 7) (.t 17)), qm (.store 3 (.t 31) (.t 30))]))) (.reg [qq 32 (.bin .add (.t 14) (ci 1)), qq 14 (.mv (.t 32))]))))))) (.seq (.reg [qq 33 (.load true 9 (.t 7)), qq 34 (.call 68 [(.t 33)]), qn (.store 8 (.t 6) (.t 34))]) .ret))))
theorem tr27 : trFun Tryz.prog 27 = some ⟨35, [.cell 6 true 8], c27⟩ := by kernel_rfl
set_option maxHeartbeats 4000000 in
theorem ok_r4Mid : SpecOK Tryz.prog 27 (flat spR4Mid) := by
  refine flat_run (env_cons ok_r4Coords (env_cons ok_r3Sub (env_cons ok_r3Mul (env_cons ok_r3Add (env_cons ok_r4Make (env_nil _)))))) mixed tr27 ?_
  intro args v h N hG
  unfold spR4Mid at hG
  split at hG
  case h_2 => cases hG
  rename_i ca cb ts tn td
  split at hG
  case h_2 => cases hG
  rename_i a b ha hb
  split at hG
  case isFalse => cases hG
  rename_i hl
  obtain ⟨sa, sb, hn, hd, hT⟩ := hl
  cases hG
  have e1 := decP_eq ha
  have e2 := decP_eq hb
  subst e1 e2
  obtain ⟨X, eX⟩ := mkE_cells a b
  have eX := (eX sa sb).1
  have lX := X.len8; have oX := X.ok8; have tX := X.tk8
  have stX : setR [.bool false, .string ⟨⟨[]⟩⟩, .bool false, .string ⟨⟨[]⟩⟩, .bool false, .string ⟨⟨[]⟩⟩, .bool false, .string ⟨⟨[]⟩⟩] 0 X.cells = X.cells := rfl
  refine ⟨by rw [eX]; rfl, by simp, ?_⟩
  have k1 := coords_of (sa.le (k := 1000000) (by omega))
  have k2 := coords_of (sb.le (k := 1000000) (by omega))
  obtain ⟨a1, a2, a3⟩ := coords_rbk sa (by omega)
  obtain ⟨b1, b2, b3⟩ := coords_rbk sb (by omega)
  have mk : spR4Make [.agg ⟨r3E (mdR a.cx b.cx) (mdR a.cy b.cy) (mdR a.cz b.cz)⟩] = some (.agg ⟨X.cells⟩) := by
    rw [← eX]
    unfold spR4Make r3E rE
    simp only [List.cons_append, List.nil_append, rv_can]
    have c1 := mdR_RB a1 b1
    have c2 := mdR_RB a2 b2
    have c3 := mdR_RB a3 b3
    exact if_pos ⟨c1.num (by omega), c1.den (by omega), c2.num (by omega), c2.den (by omega), c3.num (by omega), c3.den (by omega)⟩
  rw [eX]
  unfold mdR at mk
  have la := a.len8; have lb := b.len8
  have ta := a.tk8; have tb := b.tk8
  generalize X.cells = CX at *
  generalize a.cx = ax at *
  generalize a.cy = ay at *
  generalize a.cz = az at *
  generalize b.cx = bx at *
  generalize b.cy = bY at *
  generalize b.cz = bz at *
  generalize a.cells = CA at *
  generalize b.cells = CB at *
  have m1 := r3Sub_rE b1 a1 (by omega) (by omega)
  have m2 := r3Sub_rE b2 a2 (by omega) (by omega)
  have m3 := r3Sub_rE b3 a3 (by omega) (by omega)
  have d1 := b1.sub a1 (k := 13) (by omega)
  have d2 := b2.sub a2 (k := 13) (by omega)
  have d3 := b3.sub a3 (k := 13) (by omega)
  have ml : ∀ {x : Rat}, RB x 13 → spR3Mul [.agg ⟨[.bool ts, .string ⟨⟨tn⟩⟩, .string ⟨⟨td⟩⟩]⟩, .agg ⟨rE x⟩] = some (.agg ⟨rE (1 / 2 * x)⟩) := fun {x} hx => by
    unfold spR3Mul
    rw [← hT]
    unfold rE
    simp only [rv_can]
    exact if_pos ⟨by omega, by omega, hx.num (by omega), hx.den (by omega)⟩
  have p1 := ml d1
  have p2 := ml d2
  have p3 := ml d3
  have lT : [Value.bool ts, .string ⟨⟨tn⟩⟩, .string ⟨⟨td⟩⟩].length = 3 := rfl
  have oT : [Value.bool ts, .string ⟨⟨tn⟩⟩, .string ⟨⟨td⟩⟩].all okCell = true := rfl
  have tT : [Value.bool ts, .string ⟨⟨tn⟩⟩, .string ⟨⟨td⟩⟩].take 3 = [Value.bool ts, .string ⟨⟨tn⟩⟩, .string ⟨⟨td⟩⟩] := rfl
  have sT : setR [.bool false, .string ⟨⟨[]⟩⟩, .string ⟨⟨[]⟩⟩] 0 [Value.bool ts, .string ⟨⟨tn⟩⟩, .string ⟨⟨td⟩⟩] = [Value.bool ts, .string ⟨⟨tn⟩⟩, .string ⟨⟨td⟩⟩] := rfl
  clear ml
  generalize [Value.bool ts, .string ⟨⟨tn⟩⟩, .string ⟨⟨td⟩⟩] = TC at *
  have q1 := r3Add_rE a1 (RB_half.mul (k := 15) d1 (by omega)) (by omega) (by omega)
  have q2 := r3Add_rE a2 (RB_half.mul (k := 15) d2 (by omega)) (by omega) (by omega)
  have q3 := r3Add_rE a3 (RB_half.mul (k := 15) d3 (by omega)) (by omega) (by omega)
  have w1 : IntKind.i64.wrap 1 = 1 := i64_in _ (by omega)
  have w2 : IntKind.i64.wrap 2 = 2 := i64_in _ (by omega)
  have w3 : IntKind.i64.wrap 3 = 3 := i64_in _ (by omega)
  simp only [c27, G0, Nat.reduceAdd]
  simp only [↓R0, R1, simprocAttr, -Int.reduceAbs, la, lb, ta, tb, lT, oT, tT, sT, k1, k2, v9_len, v9_ok, v9_tk, v9_new, rE_l3, rE_o3, rE_t3, z3_new]
  refine lp_step ?_
  simp only [↓R0, R1, simprocAttr, -Int.reduceAbs, setR_length, lT, tT, v9_len, v9_ok, v9_g0, v9_g1, v9_g2, v9_s0, v9_s1, v9_s2, rE_l3, rE_o3, rE_t3, m1, m2, m3, p1, p2, p3, q1, q2, q3, w1, w2, w3]
  refine lp_step ?_
  simp only [↓R0, R1, simprocAttr, -Int.reduceAbs, setR_length, lT, tT, v9_len, v9_ok, v9_g0, v9_g1, v9_g2, v9_s0, v9_s1, v9_s2, rE_l3, rE_o3, rE_t3, m1, m2, m3, p1, p2, p3, q1, q2, q3, w1, w2, w3]
  refine lp_step ?_
  simp only [↓R0, R1, simprocAttr, -Int.reduceAbs, setR_length, lT, tT, v9_len, v9_ok, v9_g0, v9_g1, v9_g2, v9_s0, v9_s1, v9_s2, rE_l3, rE_o3, rE_t3, m1, m2, m3, p1, p2, p3, q1, q2, q3, w1, w2, w3]
  refine lp_step ?_
  simp only [↓R0, R1, simprocAttr, -Int.reduceAbs, v9_len, v9_ok, v9_tk, v9_new, mk, lX, oX, tX, stX, w1, w2, w3, Fin, isEnd, resL, res1]
  exact ⟨_, rfl, rfl, fun k hk => by simp only [ne_nb hk, if_false]⟩
theorem flT_at (l : List Pt) : ∀ (m i : Nat), i < m → (flT l m)[i]? = some (ptAt l ((l.length - i) % l.length))
  | 0, i, h => by omega
  | m + 1, i, h => by
    have e := flT_len l m
    rw [flT]
    by_cases c : i < m
    · rw [List.getElem?_append_left (by omega)]; exact flT_at l m i c
    · have : i = m := by omega
      subst this
      rw [List.getElem?_append_right (by omega), e, Nat.sub_self]; rfl
theorem flipL_at {l : List Pt} {i : Nat} (h : i < l.length) : ptAt (flipL l) i = ptAt l ((l.length - i) % l.length) := ptAt_eq (flT_at l _ i h)
theorem ptAt_ext {l m : List Pt} (e : l.length = m.length) (h : ∀ i, i < l.length → ptAt l i = ptAt m i) : l = m := by
  refine List.ext_getElem e fun i h1 h2 => ?_
  have := h i h1
  unfold ptAt at this
  rw [List.getElem?_eq_getElem h1, List.getElem?_eq_getElem h2] at this
  exact this
theorem flipL_flipL (l : List Pt) : flipL (flipL l) = l := by
  refine ptAt_ext (by rw [flipL_len, flipL_len]) fun i hi => ?_
  rw [flipL_len, flipL_len] at hi
  rw [flipL_at (by rw [flipL_len]; exact hi), flipL_len, flipL_at (Nat.mod_lt _ (by omega))]
  by_cases z : i = 0
  · subst z; rw [Nat.sub_zero, Nat.mod_self, Nat.sub_zero, Nat.mod_self]
  · rw [Nat.mod_eq_of_lt (show l.length - i < l.length by omega), show l.length - (l.length - i) = i by omega, Nat.mod_eq_of_lt hi]
theorem flipL_mem {l : List Pt} {p : Pt} (h : p ∈ flipL l) : p ∈ l := by
  obtain ⟨j, hj⟩ := List.getElem?_of_mem h
  have hl := (List.getElem?_eq_some_iff.1 hj).1
  rw [flipL_len] at hl
  have := flipL_at hl
  rw [ptAt_eq hj] at this
  rw [this]
  exact ptAt_mem (Nat.mod_lt _ (by omega))
theorem pl_self {P : Pt} (h : plCan P) : ptI P.x P.y P.z P.w = P := by
  have e := h.2
  have e' := e
  unfold plN at e
  rw [← e, ptI_x, ptI_y, ptI_z, ptI_w]
theorem flipP_flipP {P : Pt} (h : plCan P) : flipP (flipP P) = P := by
  have e := pl_self h
  unfold flipP
  rw [ptI_x, ptI_y, ptI_z, ptI_w, Int.neg_neg, Int.neg_neg, Int.neg_neg, Int.neg_neg, e]
theorem lG_neg (a b c d : Int) : lG (-a) (-b) (-c) (-d) = lG a b c d := by unfold lG; rw [Int.natAbs_neg, Int.natAbs_neg, Int.natAbs_neg, Int.natAbs_neg]
theorem plCan_flip {P : Pt} (h : plCan P) : plCan (flipP P) := by
  have e := h.2
  have f : ∀ {a : Int}, (lG P.x P.y P.z P.w : Int) ∣ a → a / (lG P.x P.y P.z P.w : Int) = a → -a / (lG P.x P.y P.z P.w : Int) = -a := fun hd he => by rw [Int.neg_ediv_of_dvd hd, he]
  have x1 := congrArg Pt.x e
  have x2 := congrArg Pt.y e
  have x3 := congrArg Pt.z e
  have x4 := congrArg Pt.w e
  unfold plN at x1 x2 x3 x4
  rw [ptI_x] at x1
  rw [ptI_y] at x2
  rw [ptI_z] at x3
  rw [ptI_w] at x4
  refine ⟨?_, ?_⟩
  · unfold flipP
    rw [ptI_x, ptI_y, ptI_z]
    rintro ⟨a, b, c⟩
    exact h.1 ⟨by omega, by omega, by omega⟩
  · unfold plN flipP
    rw [ptI_x, ptI_y, ptI_z, ptI_w, lG_neg, f (lG_d1 _ _ _ _) x1, f (lG_d2 _ _ _ _) x2, f (lG_d3 _ _ _ _) x3, f (lG_d4 _ _ _ _) x4]
theorem flip_v (P : Pt) : (flipP P).v = ⟨-P.x, -P.y, -P.z, -P.w⟩ := ptI_v _ _ _ _
theorem flip_tri (P : Pt) (a b c : V4) : tri (flipP P).v a b c = -tri P.v a b c := by
  rw [flip_v]
  unfold tri Pt.v
  simp only
  grind
theorem flip_chk {P : Pt} {l : List Pt} (h : chk P l = 0) : chk (flipP P) (flipL l) = 0 := by
  obtain ⟨h1, h2, h3, h4, h5⟩ := (chk_val P l).1 h
  have hw : ∀ p ∈ l, 0 < p.w := fun p hp => by
    obtain ⟨j, hj⟩ := List.getElem?_of_mem hp
    have := h2 j (List.getElem?_eq_some_iff.1 hj).1
    rw [ptAt_eq hj] at this
    exact can_w this
  have m : ∀ i, i < l.length → (l.length - i) % l.length < l.length := fun i hi => Nat.mod_lt _ (by omega)
  have cx := turns_cx hw h5
  refine (chk_val _ _).2 ⟨plCan_flip h1, fun i hi => ?_, by rw [flipL_len]; exact h3, fun i hi => ?_, cx_turns (fun p hp => hw p (flipL_mem hp)) ?_⟩
  · rw [flipL_len] at hi
    rw [flipL_at hi]; exact h2 _ (m i hi)
  · rw [flipL_len] at hi
    rw [flipL_at hi, flip_sdv, h4 _ (m i hi)]; rfl
  · intro i j k hij hjk hk
    rw [flipL_len] at hk
    have at' : ∀ i, i < l.length → pv (flipL l) i = pv l (l.length - i) := fun i hi => by
      rw [pv_lt (by rw [flipL_len]; exact hi), flipL_at hi]; rfl
    rw [at' i (by omega), at' j (by omega), at' k hk, flip_tri]
    have n : ∀ a b c, a < b → b < c → c < l.length → tri P.v (pv l c) (pv l b) (pv l a) < 0 := fun a b c h1 h2 h3 => by
      have := cx a b c h1 h2 h3
      rw [tri_cyc, tri_swap']
      omega
    by_cases z : i = 0
    · subst z
      rw [Nat.sub_zero, pv_e]
      have := cx 0 (l.length - k) (l.length - j) (by omega) (by omega) (by omega)
      rw [tri_swap]
      omega
    · have := n (l.length - k) (l.length - j) (l.length - i) (by omega) (by omega) (by omega)
      omega
theorem mnL_nn {P x : Pt} {l : List Pt} : ∀ {m}, (∀ j, j < m → 0 ≤ edgS P l x j) → 0 ≤ mnL P l x m
  | 0, _ => show (0 : Int) ≤ 1 by decide
  | m + 1, h => by
    have h1 := h m (by omega)
    have h2 := mnL_nn (m := m) fun j hj => h j (by omega)
    unfold mnL
    split <;> omega
theorem mnL_one {P x : Pt} {l : List Pt} : ∀ {m}, (∀ j, j < m → edgS P l x j = 1) → mnL P l x m = 1
  | 0, _ => rfl
  | m + 1, h => by
    have h1 := h m (by omega)
    have h2 := mnL_one (m := m) fun j hj => h j (by omega)
    unfold mnL
    rw [h1, h2]; rfl
theorem edg_nn {P : Pt} {l : List Pt} (hw : ∀ p ∈ l, 0 < p.w) (ht : turnsP P l) {i j : Nat} (hi : i < l.length) (hj : j < l.length) :
    0 ≤ tri P.v (ptAt l j).v (ptAt l ((j + 1) % l.length)).v (ptAt l i).v ∧ (i ≠ j → i ≠ (j + 1) % l.length → 0 < tri P.v (ptAt l j).v (ptAt l ((j + 1) % l.length)).v (ptAt l i).v) ∧
    (i = j ∨ i = (j + 1) % l.length → tri P.v (ptAt l j).v (ptAt l ((j + 1) % l.length)).v (ptAt l i).v = 0) := by
  have p : i ≠ j → i ≠ (j + 1) % l.length → 0 < tri P.v (ptAt l j).v (ptAt l ((j + 1) % l.length)).v (ptAt l i).v := fun h1 h2 => by
    have := ht j hj i hi h1 h2
    rw [lft_tri] at this
    exact pos_of_mul (hw _ (ptAt_mem hj)) this
  have z : i = j ∨ i = (j + 1) % l.length → tri P.v (ptAt l j).v (ptAt l ((j + 1) % l.length)).v (ptAt l i).v = 0 := fun h => by
    rcases h with h | h
    · rw [h, tri_ac]
    · rw [h, tri_bb]
  refine ⟨?_, p, z⟩
  by_cases h1 : i = j
  · rw [z (.inl h1)]; exact Int.le_refl _
  by_cases h2 : i = (j + 1) % l.length
  · rw [z (.inr h2)]; exact Int.le_refl _
  exact Int.le_of_lt (p h1 h2)
theorem sign_nn {z : Int} (h : 0 ≤ z) : 0 ≤ z.sign := by
  rcases Int.lt_or_eq_of_le h with h | h
  · rw [Int.sign_eq_one_of_pos h]; decide
  · rw [← h]; decide
theorem cls_on {P : Pt} {l : List Pt} (h : chk P l = 0) (hw : ∀ p ∈ l, 0 < p.w) {i : Nat} (hi : i < l.length) : clsZ P l (ptAt l i) = 0 := by
  obtain ⟨h1, h2, h3, h4, h5⟩ := (chk_val P l).1 h
  unfold clsZ
  rw [if_pos (h4 i hi)]
  have nn : 0 ≤ mnL P l (ptAt l i) l.length := mnL_nn fun j hj => by
    unfold edgS
    rw [lft_tri]
    exact sign_nn (Int.mul_nonneg (Int.le_of_lt (hw _ (ptAt_mem hj))) (edg_nn hw h5 hi hj).1)
  have le := mnL_le P l (ptAt l i) hi
  have e : edgS P l (ptAt l i) i = 0 := by
    unfold edgS
    rw [lft_tri, (edg_nn hw h5 hi hi).2.2 (.inl rfl), Int.mul_zero]; rfl
  omega
theorem mid_comb {a b X : Pt} (ha : 0 < a.w) (hb : 0 < b.w) (hX : 0 < X.w) (h1 : Rat.divInt X.x X.w = mdR a.cx b.cx) (h2 : Rat.divInt X.y X.w = mdR a.cy b.cy) (h3 : Rat.divInt X.z X.w = mdR a.cz b.cz) :
    Comb (2 * a.w * b.w) X.v (X.w * b.w) a.v (X.w * a.w) b.v := by
  have f : ∀ (x y z : Int), Rat.divInt x X.w = mdR (Rat.divInt y (pW a.w)) (Rat.divInt z (pW b.w)) → 2 * a.w * b.w * x = X.w * b.w * y + X.w * a.w * z := by
    intro x y z h
    rw [pW_of (by omega), pW_of (by omega)] at h
    unfold mdR at h
    have n1 := rat_ne ha
    have n2 := rat_ne hb
    have n3 := rat_ne hX
    simp only [Rat.divInt_eq_div] at h
    refine Rat.intCast_inj.1 ?_
    simp only [Rat.intCast_mul, Rat.intCast_add]
    have t2 : ((2 : Int) : Rat) = 2 := rfl
    rw [t2]
    generalize (a.w : Rat) = aw at *
    generalize (b.w : Rat) = bw at *
    generalize (X.w : Rat) = xw at *
    generalize (x : Rat) = x' at *
    generalize (y : Rat) = y' at *
    generalize (z : Rat) = z' at *
    grind
  exact ⟨f _ _ _ h1, f _ _ _ h2, f _ _ _ h3, by simp only [Pt.v]; grind⟩
theorem cls_mid {P X : Pt} {l : List Pt} (h : chk P l = 0) (hw : ∀ p ∈ l, 0 < p.w) {k α β : Int} (hk : 0 < k) (hα : 0 < α) (hβ : 0 < β) (hc : Comb k X.v α (ptAt l 0).v β (ptAt l 2).v) : clsZ P l X = if l.length = 3 then 0 else 1 := by
  obtain ⟨h1, h2, h3, h4, h5⟩ := (chk_val P l).1 h
  have n3 : 3 ≤ l.length := by omega
  have sx : sdv P X = 0 := zero_of_mul hk ((comb_sdv hc P).trans (by rw [h4 0 (by omega), h4 2 (by omega), Int.mul_zero, Int.mul_zero]; rfl))
  unfold clsZ
  rw [if_pos sx]
  have wj : ∀ {j}, j < l.length → 0 < (ptAt l j).w := fun hj => hw _ (ptAt_mem hj)
  by_cases e : l.length = 3
  · rw [if_pos e]
    have nn : 0 ≤ mnL P l X l.length := mnL_nn fun j hj => by
      unfold edgS
      rw [lft_tri]
      exact sign_nn (Int.mul_nonneg (Int.le_of_lt (wj hj)) (hc.nn _ _ _ hk (by omega) (by omega) (edg_nn hw h5 (by omega) hj).1 (edg_nn hw h5 (by omega) hj).1))
    have le := mnL_le P l X (show 2 < l.length by omega)
    have z : edgS P l X 2 = 0 := by
      unfold edgS
      rw [lft_tri]
      have t := hc.tr P.v (ptAt l 2).v (ptAt l ((2 + 1) % l.length)).v
      rw [(edg_nn hw h5 (show 0 < l.length by omega) (show 2 < l.length by omega)).2.2 (.inr (by rw [e])), (edg_nn hw h5 (show 2 < l.length by omega) (show 2 < l.length by omega)).2.2 (.inl rfl), Int.mul_zero, Int.mul_zero] at t
      rw [zero_of_mul hk t, Int.mul_zero]; rfl
    omega
  · rw [if_neg e]
    refine mnL_one fun j hj => ?_
    unfold edgS
    rw [lft_tri]
    refine Int.sign_eq_one_of_pos (Int.mul_pos (wj hj) ?_)
    have A := edg_nn hw h5 (show 0 < l.length by omega) hj
    have B := edg_nn hw h5 (show 2 < l.length by omega) hj
    have ej : (j + 1) % l.length = if j + 1 = l.length then 0 else j + 1 := by
      split
      · rename_i c; rw [c, Nat.mod_self]
      · exact Nat.mod_eq_of_lt (by omega)
    by_cases c : 0 ≠ j ∧ 0 ≠ (j + 1) % l.length
    · exact hc.ps _ _ _ hk hα (by omega) (A.2.1 c.1 c.2) B.1
    · refine hc.symm.ps _ _ _ hk hβ (by omega) (B.2.1 ?_ ?_) A.1
      · intro x
        subst x
        refine c ⟨by omega, ?_⟩
        rw [ej]; split <;> omega
      · intro x
        rw [ej] at x c
        split at x
        · omega
        · refine c ⟨by omega, ?_⟩
          rw [if_neg (by assumption)]; omega
end Go.Eng
end
section
set_option linter.unusedVariables false
set_option linter.unusedSimpArgs false
set_option linter.unusedSectionVars false
set_option maxRecDepth 20000
namespace Go.Eng
open Go Go.Proofs Go.IntWalk
theorem bld27 (P Q R : Pt) (a b c : Value) : setR (setR (setR [.bool false, .string ⟨⟨[]⟩⟩, .bool false, .string ⟨⟨[]⟩⟩, .bool false, .string ⟨⟨[]⟩⟩, .bool false, .string ⟨⟨[]⟩⟩, .slice none 0 0, .bool false, .string ⟨⟨[]⟩⟩, .bool false, .string ⟨⟨[]⟩⟩, .bool false, .string ⟨⟨[]⟩⟩, .bool false, .string ⟨⟨[]⟩⟩, .slice none 0 0, .bool false, .string ⟨⟨[]⟩⟩, .bool false, .string ⟨⟨[]⟩⟩, .bool false, .string ⟨⟨[]⟩⟩, .bool false, .string ⟨⟨[]⟩⟩, .slice none 0 0] 0 (pc9 P a)) 9 (pc9 Q b)) 18 (pc9 R c) = pc9 P a ++ pc9 Q b ++ pc9 R c := by
  simp only [pc9, Pt.cells, List.cons_append, List.nil_append, setR, List.set]
theorem len27 (P Q R : Pt) (a b c : Value) : (pc9 P a ++ pc9 Q b ++ pc9 R c).length = 27 := rfl
theorem g27a (P Q R : Pt) (a b c : Value) : (pc9 P a ++ pc9 Q b ++ pc9 R c).take 9 = pc9 P a := rfl
theorem g27b (P Q R : Pt) (a b c : Value) : ((pc9 P a ++ pc9 Q b ++ pc9 R c).drop 9).take 9 = pc9 Q b := rfl
theorem g27c (P Q R : Pt) (a b c : Value) : ((pc9 P a ++ pc9 Q b ++ pc9 R c).drop 18).take 9 = pc9 R c := rfl
theorem pchk_of {hp : Heap} {cs : List Value} {P : Pt} {l : List Pt} (e : decPoly hp cs = some (P, l)) (hs : polySz 1000000 P l) (h0 : chk P l = 0) : spPchk [.agg ⟨cs⟩] hp = some (.int .i64 0) := by
  unfold spPchk
  simp only [e]
  rw [← h0]
  exact if_pos hs
theorem same_of {hp : Heap} {cs cs' : List Value} {P : Pt} {l : List Pt} (e : decPoly hp cs = some (P, l)) (e' : decPoly hp cs' = some (P, l)) (hn : l.length ≤ 1000000) : spR8Same [.agg ⟨cs⟩, .agg ⟨cs'⟩] hp = some (.bool true) := by
  unfold spR8Same
  simp only [e, e']
  rw [if_pos ⟨by omega, by omega⟩]
  simp
theorem flip_poly {P : Pt} {l : List Pt} {k : Nat} (h : polySz k P l) : polySz k (flipP P) (flipL l) := ⟨flip_sz h.1, fun p hp => h.2.1 p (flipL_mem hp), by rw [flipL_len]; exact h.2.2⟩
theorem polySz.le {P : Pt} {l : List Pt} {i k : Nat} (h : polySz i P l) (hk : i ≤ k) : polySz k P l := ⟨h.1.le hk, fun p hp => (h.2.1 p hp).le hk, h.2.2⟩
theorem ext_ge {N M : Nat} (hM : N ≤ M) (j : Nat) (b : Option Blk) (h hp : Heap) : Ext N h ((M + j, b) :: hp) = Ext N h hp := by
  obtain ⟨d, rfl⟩ : ∃ d, M = N + d := ⟨M - N, by omega⟩
  rw [Nat.add_assoc]
  exact ext_cons _ _ _ _ _
def c8 : ICode :=
  (.seq (.reg [qq 2 (.box 28 9 (.t 0)), qq 3 (.box 25 8 (.t 1)), qq 4 (.mv (.c (.bool false)))]) (.seq (.seq (.reg [qq 11 (.call 9 []), qq 12 (.un .not (.t 11))]) (.cond (.t 12) (.seq (.reg [qq 4 (.mv (.c (.bool false)))]) .ret) .skip)) (.seq (.seq (.reg [qq 13 (.load true 9 (.t 2)), qq 14 (.call 13 [(.t 13)]), qq 15 (.un .not (.t 14)), qq 16 (.mv (.t 15)), ⟨(some 17), (some (16, false)), (.load true 8 (.t 3))⟩, ⟨(some 18), (some (16, false)), (.call 14 [(.t 17)])⟩, ⟨(some 19), (some (16, false)), (.un .not (.t 18))⟩, qq 20 (.pick (.t 16) (.c (.bool true)) (.t 19))]) (.cond (.t 20) (.seq (.reg [qq 4 (.mv (.c (.bool true)))]) .ret) .skip)) (.seq (.reg [qq 22 (.load true 9 (.t 2)), qq 23 (.load true 8 (.t 3)), qq 24 (.call 15 [(.t 22), (.t 23)]), qq 21 (.mv (.t 24)), qq 25 (.ext (.t 21) 0), qq 26 (.ext (.t 21) 1), qq 5 (.alloc 28 9 [(.bool false), e0, (.bool false), e0, (.bool false), e0, (.bool false), e0, (.slice none 0 0)]), qq 6 (.alloc 28 9 [(.bool false), e0, (.bool false), e0, (.bool false), e0, (.bool false), e0, (.slice none 0 0)]), qn (.store 9 (.t 5) (.t 25)), qn (.store 9 (.t 6) (.t 26))]) (.seq (.seq (.dreg [qu 27 (.load true 9 (.t 5)), qu 28 (.load true 9 (.t 6)), qu 29 (.load true 9 (.t 2)), qu 30 (.call 22 [(.t 29)]), qu 31 (.bslice 28 9 3 [(.bool false), e0, (.bool false), e0, (.bool false), e0, (.bool false), e0, (.slice none 0 0), (.bool false), e0, (.bool false), e0, (.bool false), e0, (.bool false), e0, (.slice none 0 0), (.bool false), e0, (.bool false), e0, (.bool false), e0, (.bool false), e0, (.slice none 0 0)] [(0, 9, (.t 27)), (9, 9, (.t 28)), (18, 9, (.t 30))]), qu 32 (.lensl (.t 31)), qu 33 (.mv (ci 0))]) (.block 0 (.loop (.seq (.reg [qq 34 (.bin .lss (.t 33) (.t 32))]) (.seq (.cond (.t 34) .skip (.exit 0)) (.seq (.block 1 (.seq (.reg [qq 35 (.ixsl 9 (.t 31) (.t 33)), qq 36 (.load true 9 (.t 35)), qq 8 (.alloc 28 9 [(.bool false), e0, (.bool false), e0, (.bool false), e0, (.bool false), e0, (.slice none 0 0)]), qn (.store 9 (.t 8) (.t 36))]) (.seq (.reg [qq 37 (.faddr 8 (.t 8)), qq 38 (.load false 1 (.t 37)), qq 39 (.lensl (.t 38)), qq 40 (.bin .gtr (.t 39) (ci 0)), qq 41 (.mv (.t 40)), ⟨(some 42), (some (41, true)), (.load true 9 (.t 8))⟩, ⟨(some 43), (some (41, true)), (.call 11 [(.t 42)])⟩, ⟨(some 44), (some (41, true)), (.bin .neq (.t 43) (ci 0))⟩, qq 45 (.pick (.t 41) (.t 44) (.c (.bool false)))]) (.cond (.t 45) (.seq (.reg [qq 4 (.mv (.c (.bool false)))]) .ret) .skip)))) (.reg [qq 46 (.bin .add (.t 33) (ci 1)), qq 33 (.mv (.t 46))]))))))) (.seq (.seq (.reg [qq 47 (.faddr 8 (.t 2)), qq 48 (.load false 1 (.t 47)), qq 49 (.lensl (.t 48)), qq 50 (.mv (ci 0))]) (.block 2 (.loop (.seq (.reg [qq 51 (.bin .lss (.t 50) (.t 49))]) (.seq (.cond (.t 51) .skip (.exit 2)) (.seq (.block 3 (.seq (.reg [qq 52 (.ixsl 8 (.t 48) (.t 50)), qq 53 (.load true 8 (.t 52)), qq 10 (.alloc 41 8 [(.bool false), e0, (.bool false), e0, (.bool false), e0, (.bool false), e0]), qn (.store 8 (.t 10) (.t 53))]) (.seq (.reg [qq 54 (.load true 9 (.t 2)), qq 55 (.load true 8 (.t 10)), qq 56 (.call 21 [(.t 54), (.t 55)]), qq 57 (.bin .neq (.t 56) (ci 0))]) (.cond (.t 57) (.seq (.reg [qq 4 (.mv (.c (.bool false)))]) .ret) .skip)))) (.reg [qq 58 (.bin .add (.t 50) (ci 1)), qq 50 (.mv (.t 58))]))))))) (.seq (.dreg [qu 59 (.load true 9 (.t 2)), qu 60 (.call 22 [(.t 59)]), qu 61 (.call 22 [(.t 60)]), qv 62 [1, 2] (.load true 9 (.t 2)), qu 63 (.call 17 [(.t 61), (.t 62)]), qu 64 (.mv (.t 63)), ⟨(some 65), (some (64, true)), [], (.load true 9 (.t 2))⟩, ⟨(some 66), (some (64, true)), [], (.faddr 8 (.t 2))⟩, ⟨(some 67), (some (64, true)), [], (.load false 1 (.t 66))⟩, ⟨(some 68), (some (64, true)), [], (.ixsl 8 (.t 67) (ci 0))⟩, ⟨(some 69), (some (64, true)), [], (.load true 8 (.t 68))⟩, ⟨(some 70), (some (64, true)), [], (.faddr 8 (.t 2))⟩, ⟨(some 71), (some (64, true)), [], (.load false 1 (.t 70))⟩, ⟨(some 72), (some (64, true)), [], (.ixsl 8 (.t 71) (ci 2))⟩, ⟨(some 73), (some (64, true)), [], (.load true 8 (.t 72))⟩, ⟨(some 74), (some (64, true)), [], (.call 28 [])⟩, ⟨(some 75), (some (64, true)), [], (.call 27 [(.t 69), (.t 73), (.t 74)])⟩, ⟨(some 76), (some (64, true)), [], (.call 21 [(.t 65), (.t 75)])⟩, ⟨(some 77), (some (64, true)), [15, 16, 17], (.load true 9 (.t 2))⟩, ⟨(some 78), (some (64, true)), [], (.call 29 [(.t 77)])⟩, ⟨(some 79), (some (64, true)), [], (.bin .eql (.t 76) (.t 78))⟩, qu 80 (.pick (.t 64) (.t 79) (.c (.bool false))), qu 4 (.mv (.t 80))]) .ret)))))))
theorem tr8 : trFun Tryz.prog 8 = some ⟨81, [.t 4], c8⟩ := by kernel_rfl
set_option maxHeartbeats 16000000 in
theorem ok_L8valid : SpecOK Tryz.prog 8 (rdS spL8splits) := by
  refine rd_run (env_cons ok_L8alive (env_cons ok_L8fine (env_cons ok_L8level (env_cons ok_Psplit (env_cons ok_Pflip (env_cons ok_Pcheck (env_cons ok_Pclass (env_cons ok_r8Same (env_cons ok_L8half (env_cons ok_r4Mid (env_cons ok_L8inside (env_nil _)))))))))))) mixed tr8 ?_ ?_
  · intro args h h' v hle e
    unfold spL8splits at e ⊢
    split at e
    · rename_i cs cb
      split at e
      · rename_i P l c hb hc
        simp only [decPoly_mono hle hb, hc]; exact e
      · cases e
    · cases e
  intro args v h N hG hN
  unfold spL8splits at hG
  split at hG
  case h_2 => cases hG
  rename_i cs cb
  split at hG
  case h_2 => cases hG
  rename_i P l c hx hc
  split at hG
  case isFalse => cases hG
  rename_i hs
  cases hG
  have ec := decP_eq hc
  subst ec
  refine ⟨by rfl, by simp, ?_⟩
  obtain ⟨sl, rfl, hx'⟩ := decPoly_eq hx
  obtain ⟨a, cc, rfl⟩ := listAt_sl hx'
  have c9 := pc9_s P (.slice a l.length cc)
  have l9 := pc9_len P (.slice a l.length cc)
  have t9 := pc9_tk P (.slice a l.length cc)
  have g9 := pc9_g P (.slice a l.length cc)
  have ins := inside_of P a l.length cc
  have lc := c.len8; have tc := c.tk8
  have al : spL8alive [] = some (.bool true) := rfl
  have lv := level_of hs
  have hl : ∀ {hp : Heap}, Ext N h hp → decPoly hp (pc9 P (.slice a l.length cc)) = some (P, l) := fun {hp} hh => decPoly_mono (fun k b e => by rw [hh k (hN _ _ e)]; exact e) hx
  have fi : ∀ {hp : Heap}, Ext N h hp → spL8fine [.agg ⟨pc9 P (.slice a l.length cc)⟩] hp = some (.bool (decide (fineP P l))) := fun hh => fine_of (hl hh)
  have xs := ext_self N h
  have xc := fun j b hp => ext_cons N j b h hp
  by_cases s : fineP P l
  case neg =>
    rw [decide_eq_false s] at fi
    generalize pc9 P (.slice a l.length cc) = C9 at *
    simp only [c8, G0, Nat.reduceAdd]
    simp only [↓R0, R1, simprocAttr, -Int.reduceAbs, rdS, al, fi, xs, xc, l9, t9, lc, tc, Bool.not_true, Bool.not_false, Fin, isEnd, resL, res1]
    exact ⟨_, rfl, rfl, fun k hk => by simp only [ne_nb hk, if_false]⟩
  rw [decide_eq_true s] at fi
  by_cases s2 : levP c
  case neg =>
    rw [decide_eq_false s2] at lv
    generalize pc9 P (.slice a l.length cc) = C9 at *
    simp only [c8, G0, Nat.reduceAdd]
    simp only [↓R0, R1, simprocAttr, -Int.reduceAbs, rdS, al, fi, xs, xc, lv, l9, t9, lc, tc, Bool.not_true, Bool.not_false, Fin, isEnd, resL, res1]
    exact ⟨_, rfl, rfl, fun k hk => by simp only [ne_nb hk, if_false]⟩
  rw [decide_eq_true s2] at lv
  have so := s.split s2.1
  have ps : polySz 1000 P l := s.1.poly (by omega)
  have pm : polySz 1000000 P l := s.1.poly (by omega)
  have pf := flip_poly ps
  have l3 := s.len
  have hn3 := ps.2.2
  have vals := (chk_val P l).1 s.2
  have k1 : ∀ {hp : Heap}, Ext N h hp → spR8split [.agg ⟨pc9 P (.slice a l.length cc)⟩, .agg ⟨c.cells⟩] hp = some (splitNL P c l) := fun hh => split_of (hl hh) so
  have k2 : ∀ {hp : Heap}, Ext N h hp → spPflip [.agg ⟨pc9 P (.slice a l.length cc)⟩] hp = some ⟨1, fun σ => .agg ⟨pc9 (flipP P) (pSl (σ 0) (flipL l).length)⟩, fun _ => 41, fun _ => 8, fun _ _ => ptsC (flipL l)⟩ := fun hh => pflip_of (hl hh) ps l3
  have nF := flip_ne l3
  have k3 : ∀ {hp : Heap} {k : Nat}, hget hp k = some ⟨41, 8, false, ptsC (flipL l)⟩ → spPflip [.agg ⟨pc9 (flipP P) (pSl k (flipL l).length)⟩] hp = some ⟨1, fun σ => .agg ⟨pc9 P (pSl (σ 0) l.length)⟩, fun _ => 41, fun _ => 8, fun _ _ => ptsC l⟩ := fun {hp k} hk => by
    have := pflip_of (poly_at (P := flipP P) hk nF rfl) pf (by rw [flipL_len]; exact l3)
    rw [this]
    unfold flipNL
    rw [flipP_flipP vals.1, flipL_flipL]
    rfl
  have cF : ∀ {hp : Heap} {k : Nat}, hget hp k = some ⟨41, 8, false, ptsC (flipL l)⟩ → spPchk [.agg ⟨pc9 (flipP P) (pSl k (flipL l).length)⟩] hp = some (.int .i64 0) := fun {hp k} hk => pchk_of (poly_at (P := flipP P) hk nF rfl) (pf.le (by omega)) (flip_chk s.2)
  have nl : l ≠ [] := by intro e; rw [e] at l3; exact absurd l3 (by decide)
  have k4 : ∀ {hp : Heap} {k : Nat}, Ext N h hp → hget hp k = some ⟨41, 8, false, ptsC l⟩ → spR8Same [.agg ⟨pc9 P (pSl k l.length)⟩, .agg ⟨pc9 P (.slice a l.length cc)⟩] hp = some (.bool true) := fun {hp k} hh hk => same_of (poly_at hk nl rfl) (hl hh) (by omega)
  have k5 : ∀ {hp : Heap} {i : Nat}, Ext N h hp → i < l.length → spCls [.agg ⟨pc9 P (.slice a l.length cc)⟩, .agg ⟨(ptAt l i).cells⟩] hp = some (.int .i64 0) := fun {hp i} hh hi => by
    rw [cls_of (hl hh) ⟨pm, ptAt_sz pm i, s.w, s.w _ (ptAt_mem hi)⟩, cls_on s.2 s.w hi]
  obtain ⟨X, eX⟩ := mkE_cells (ptAt l 0) (ptAt l 2)
  obtain ⟨eX, xcan, xok, x1, x2, x3⟩ := eX (s.1.2.2 _ (ptAt_mem (by omega))) (s.1.2.2 _ (ptAt_mem (by omega)))
  have md : spR4Mid [.agg ⟨(ptAt l 0).cells⟩, .agg ⟨(ptAt l 2).cells⟩, .agg ⟨rE (1 / 2)⟩] = some (.agg ⟨X.cells⟩) := (mid_of (s.1.2.2 _ (ptAt_mem (by omega))) (s.1.2.2 _ (ptAt_mem (by omega)))).trans (by rw [eX])
  have w0 := s.w _ (ptAt_mem (show 0 < l.length by omega))
  have w2 := s.w _ (ptAt_mem (show 2 < l.length by omega))
  have hf : spL8half [] = some (.agg ⟨rE (1 / 2)⟩) := rfl
  have k6 : ∀ {hp : Heap}, Ext N h hp → spCls [.agg ⟨pc9 P (.slice a l.length cc)⟩, .agg ⟨X.cells⟩] hp = some (.int .i64 (if l.length = 3 then 0 else 1)) := fun {hp} hh => by
    have xk := xok
    rw [cls_of (hl hh) ⟨pm, ⟨by have := xk.1.1; omega, by have := xk.1.2.1; omega, by have := xk.1.2.2.1; omega, by have := xk.1.2.2.2; omega⟩, s.w, xk.2⟩, cls_mid s.2 s.w (Int.mul_pos (Int.mul_pos (by decide) w0) w2) (Int.mul_pos xk.2 w2) (Int.mul_pos xk.2 w0) (mid_comb w0 w2 xk.2 x1 x2 x3)]
  have lX := X.len8; have oX := X.ok8; have tX := X.tk8
  have lA := prt_len (c := c) (l := l) (here := -1)
  have lB := prt_len (c := c) (l := l) (here := 1)
  have l10 := s.1.1
  have zlen := z9_len
  have zok := z9_ok
  have zst := z9_st
  have zlit : [.bool false, .string ⟨⟨[]⟩⟩, .bool false, .string ⟨⟨[]⟩⟩, .bool false, .string ⟨⟨[]⟩⟩, .bool false, .string ⟨⟨[]⟩⟩, .slice none 0 0] = z9 := rfl
  have ztk : z9.take 9 = z9 := rfl
  have zsl := sl_z
  have pst := p_st P
  have pok := p_ok P
  have plen := fun k n => pc9_len P (pSl k n)
  have ptk := fun k n => pc9_tk P (pSl k n)
  have psl := sl_pt P
  have fst := p_st (flipP P)
  have fok := p_ok (flipP P)
  have flen := fun k n => pc9_len (flipP P) (pSl k n)
  have ftk := fun k n => pc9_tk (flipP P) (pSl k n)
  have fsl := sl_pt (flipP P)
  have mF := pos_gt (List.length_pos_iff.2 nF)
  have v1 : IntKind.i64.wrap 1 = 1 := i64_in _ (by omega)
  have v2 : IntKind.i64.wrap 2 = 2 := i64_in _ (by omega)
  have v3 : IntKind.i64.wrap 3 = 3 := i64_in _ (by omega)
  clear hc x1 x2 x3 xcan pf so vals
  by_cases hA : anyP c l (-1) l.length
  · by_cases hB : anyP c l 1 l.length
    · have nA := prt_ne (by decide) hA
      have mA := pos_gt (List.length_pos_iff.2 nA)
      have kA : ∀ {hp : Heap} {k : Nat}, hget hp k = some ⟨41, 8, false, ptsC (prt c l (-1))⟩ → spPchk [.agg ⟨pc9 P (pSl k (prt c l (-1)).length)⟩] hp = some (.int .i64 0) := fun {hp k} hk => pchk_of (poly_at hk nA rfl) ((prt_split s s2.1).sz.le (by omega)) (prt_chk s.2 (.inr rfl) hA)
      have nB := prt_ne (by decide) hB
      have mB := pos_gt (List.length_pos_iff.2 nB)
      have kB : ∀ {hp : Heap} {k : Nat}, hget hp k = some ⟨41, 8, false, ptsC (prt c l 1)⟩ → spPchk [.agg ⟨pc9 P (pSl k (prt c l 1).length)⟩] hp = some (.int .i64 0) := fun {hp k} hk => pchk_of (poly_at hk nB rfl) ((prt_split s s2.1).sz.le (by omega)) (prt_chk s.2 (.inl rfl) hB)
      rw [nl_AB hA hB] at k1
      generalize ptsC (prt c l (-1)) = cA at *
      generalize (prt c l (-1)).length = nnA at *
      generalize ptsC (prt c l 1) = cB at *
      generalize (prt c l 1).length = nnB at *
      generalize ptsC (flipL l) = cG at *
      generalize (flipL l).length = nnF at *
      have bl := bld27 P P (flipP P) (pSl (N + 2) nnA) (pSl (N + 3) nnB) (pSl (N + 6) nnF)
      have ln := len27 P P (flipP P) (pSl (N + 2) nnA) (pSl (N + 3) nnB) (pSl (N + 6) nnF)
      have ga := g27a P P (flipP P) (pSl (N + 2) nnA) (pSl (N + 3) nnB) (pSl (N + 6) nnF)
      have gb := g27b P P (flipP P) (pSl (N + 2) nnA) (pSl (N + 3) nnB) (pSl (N + 6) nnF)
      have gc := g27c P P (flipP P) (pSl (N + 2) nnA) (pSl (N + 3) nnB) (pSl (N + 6) nnF)
      have okk : (pc9 P (pSl (N + 2) nnA) ++ pc9 P (pSl (N + 3) nnB) ++ pc9 (flipP P) (pSl (N + 6) nnF)).all okCell = true := rfl
      rw [zlit] at bl
      generalize pc9 P (pSl (N + 2) nnA) ++ pc9 P (pSl (N + 3) nnB) ++ pc9 (flipP P) (pSl (N + 6) nnF) = L27 at *
      generalize c.cells = CC at *
      generalize hC9 : pc9 P (.slice a l.length cc) = C9 at *
      clear hC9
      have e20 : N + 2 + 0 = N + 2 := rfl
      have e21 : N + 2 + 1 = N + 3 := rfl
      have e30 : N + 3 + 0 = N + 3 := rfl
      have e31 : N + 3 + 1 = N + 4 := rfl
      have e40 : N + 4 + 0 = N + 4 := rfl
      have e41 : N + 4 + 1 = N + 5 := rfl
      have e50 : N + 5 + 0 = N + 5 := rfl
      have e51 : N + 5 + 1 = N + 6 := rfl
      have e60 : N + 6 + 0 = N + 6 := rfl
      have e61 : N + 6 + 1 = N + 7 := rfl
      have e70 : N + 7 + 0 = N + 7 := rfl
      have e71 : N + 7 + 1 = N + 8 := rfl
      have e80 : N + 8 + 0 = N + 8 := rfl
      have e81 : N + 8 + 1 = N + 9 := rfl
      have e90 : N + 9 + 0 = N + 9 := rfl
      have e91 : N + 9 + 1 = N + 10 := rfl
      have e100 : N + 10 + 0 = N + 10 := rfl
      have e101 : N + 10 + 1 = N + 11 := rfl
      have e110 : N + 11 + 0 = N + 11 := rfl
      have e111 : N + 11 + 1 = N + 12 := rfl
      have e120 : N + 12 + 0 = N + 12 := rfl
      have e121 : N + 12 + 1 = N + 13 := rfl
      have e130 : N + 13 + 0 = N + 13 := rfl
      have e131 : N + 13 + 1 = N + 14 := rfl
      simp only [c8, G0, Nat.reduceAdd]
      simp only [↓R0, R1, simprocAttr, -Int.reduceAbs, setR_length, zlit, rdS, nwL, al, fi, xs, xc, lv, k1, k2, k3, l9, t9, g9, c9, lc, tc, zlen, zok, zst, ztk, zsl, pst, pok, plen, ptk, psl, fst, fok, flen, ftk, fsl, mF, cF, newH0, newH1, newH2, a_two, b_call2', e20, e21, e30, e31, e40, e41, e50, e51, e60, e61, e70, e71, e80, e81, e90, e91, e100, e101, e110, e111, e120, e121, e130, e131, if_true, Nat.one_ne_zero, if_false, Bool.not_true, Bool.not_false, bl, ln, ga, gb, gc, okk, v1, v2, v3, mA, kA, mB, kB]
      refine lp_step ?_
      simp only [↓R0, R1, simprocAttr, -Int.reduceAbs, setR_length, zlit, rdS, nwL, al, fi, xs, xc, lv, k1, k2, k3, l9, t9, g9, c9, lc, tc, zlen, zok, zst, ztk, zsl, pst, pok, plen, ptk, psl, fst, fok, flen, ftk, fsl, mF, cF, newH0, newH1, newH2, a_two, b_call2', e20, e21, e30, e31, e40, e41, e50, e51, e60, e61, e70, e71, e80, e81, e90, e91, e100, e101, e110, e111, e120, e121, e130, e131, if_true, Nat.one_ne_zero, if_false, Bool.not_true, Bool.not_false, bl, ln, ga, gb, gc, okk, v1, v2, v3, mA, kA, mB, kB]
      refine lp_step ?_
      simp only [↓R0, R1, simprocAttr, -Int.reduceAbs, setR_length, zlit, rdS, nwL, al, fi, xs, xc, lv, k1, k2, k3, l9, t9, g9, c9, lc, tc, zlen, zok, zst, ztk, zsl, pst, pok, plen, ptk, psl, fst, fok, flen, ftk, fsl, mF, cF, newH0, newH1, newH2, a_two, b_call2', e20, e21, e30, e31, e40, e41, e50, e51, e60, e61, e70, e71, e80, e81, e90, e91, e100, e101, e110, e111, e120, e121, e130, e131, if_true, Nat.one_ne_zero, if_false, Bool.not_true, Bool.not_false, bl, ln, ga, gb, gc, okk, v1, v2, v3, mA, kA, mB, kB]
      refine lp_step ?_
      simp only [↓R0, R1, simprocAttr, -Int.reduceAbs, setR_length, zlit, rdS, nwL, al, fi, xs, xc, lv, k1, k2, k3, l9, t9, g9, c9, lc, tc, zlen, zok, zst, ztk, zsl, pst, pok, plen, ptk, psl, fst, fok, flen, ftk, fsl, mF, cF, newH0, newH1, newH2, a_two, b_call2', e20, e21, e30, e31, e40, e41, e50, e51, e60, e61, e70, e71, e80, e81, e90, e91, e100, e101, e110, e111, e120, e121, e130, e131, if_true, Nat.one_ne_zero, if_false, Bool.not_true, Bool.not_false, bl, ln, ga, gb, gc, okk, v1, v2, v3, mA, kA, mB, kB]
      refine lp_step ?_
      simp only [↓R0, R1, simprocAttr, -Int.reduceAbs, setR_length, zlit, rdS, nwL, al, fi, xs, xc, lv, k1, k2, k3, l9, t9, g9, c9, lc, tc, zlen, zok, zst, ztk, zsl, pst, pok, plen, ptk, psl, fst, fok, flen, ftk, fsl, mF, cF, newH0, newH1, newH2, a_two, b_call2', e20, e21, e30, e31, e40, e41, e50, e51, e60, e61, e70, e71, e80, e81, e90, e91, e100, e101, e110, e111, e120, e121, e130, e131, if_true, Nat.one_ne_zero, if_false, Bool.not_true, Bool.not_false, bl, ln, ga, gb, gc, okk, v1, v2, v3, mA, kA, mB, kB]
      refine lp_parts (fun n tm hp nx => ∃ (i M : Nat), n + i = l.length ∧ tmget tm 48 = .slice a l.length cc ∧ tmget tm 49 = .int .i64 l.length ∧ tmget tm 50 = .int .i64 i ∧ tmget tm 2 = .pointer (some ⟨N + 0, 0, none⟩) ∧
          hget hp (N + 0) = some ⟨28, 9, true, C9⟩ ∧ Ext N h hp ∧ N + 11 ≤ M ∧ nx = M + 0) ?_ l.length
        ⟨0, N + 11, by omega, ?_, ?_, ?_, ?_, ?_, ?_, Nat.le_refl _, rfl⟩
      rotate_left
      all_goals first | (simp only [↓R0, R1, simprocAttr, -Int.reduceAbs, xs, xc]; done) | (simp only [↓R0, R1, simprocAttr, -Int.reduceAbs, xs, xc]; rfl) | skip
      rintro n tm hp nx ⟨i, M, hn, tA, tB, tC', t2, b0, hh, hM, hnx⟩
      rw [hnx]
      clear hnx nx
      have xM := fun j b hp => ext_ge (show N ≤ M by omega) j b h hp
      have M0 : ∀ j, (M + j = N + 0) = False := fun j => eq_false (by omega)
      have Q0 : ∀ j, (N + 0 = M + j) = False := fun j => eq_false (by omega)
      have R0x : ∀ d, (N = M + d) = False := fun d => eq_false (by omega)
      have R9x : (N = M) = False := eq_false (by omega)
      by_cases c1 : i < l.length
      · obtain ⟨k, off, blk, ea, hb, q1, q2⟩ := vert_at hx' c1
        subst ea
        have hk := hN _ _ hb
        have hbb : hget hp k = some blk := by rw [hh k hk]; exact hb
        have nk : ∀ j, (M + j = k) = False := fun j => eq_false (by omega)
        have c1' : ((i : Int) < (l.length : Int)) = True := eq_true (by omega)
        have w1 : IntKind.i64.wrap ((i : Int) + 1) = ((i + 1 : Nat) : Int) := by rw [i64_in _ (by omega)]; omega
        have k5i : ∀ {hp : Heap}, Ext N h hp → spCls [.agg ⟨C9⟩, .agg ⟨(ptAt l i).cells⟩] hp = some (.int .i64 0) := fun hh => k5 hh c1
        generalize ptAt l i = A at *
        have aA := A.len8; have oA := A.ok8; have tA8 := A.tk8
        have stA : setR [.bool false, .string ⟨⟨[]⟩⟩, .bool false, .string ⟨⟨[]⟩⟩, .bool false, .string ⟨⟨[]⟩⟩, .bool false, .string ⟨⟨[]⟩⟩] 0 A.cells = A.cells := rfl
        simp only [↓R0, R1, simprocAttr, -Int.reduceAbs, rdS, tA, tB, tC', t2, b0, c1, c1', hbb, nk, q1, q2, w1, k5i, hh, xM, aA, oA, tA8, stA, l9, t9, M0, Q0, R0x, R9x]
        exact ⟨n - 1, by omega, i + 1, M + 1, by omega, rfl, by omega, rfl⟩
      · have e : i = l.length := by omega
        subst e
        have c1' : ((l.length : Int) < (l.length : Int)) = False := eq_false (by omega)
        obtain ⟨k, off, blk, ea, hb, q1, q2⟩ := vert_at hx' (show 0 < l.length by omega)
        subst ea
        obtain ⟨k', off', blk', ea', hb', r1, r2⟩ := vert_at hx' (show 2 < l.length by omega)
        cases ea'
        rw [hb] at hb'; cases hb'
        have hk := hN _ _ hb
        have hbb : hget hp k = some blk := by rw [hh k hk]; exact hb
        have nk : ∀ j, (M + j = k) = False := fun j => eq_false (by omega)
        have p0 : (0 < l.length) = True := eq_true (by omega)
        have p2 : (2 < l.length) = True := eq_true (by omega)
        have p0' : ((0 : Int) < (l.length : Int)) = True := eq_true (by omega)
        have p2' : ((2 : Int) < (l.length : Int)) = True := eq_true (by omega)
        have f0 := (ptAt l 0).len8; have g0 := (ptAt l 0).tk8
        have f2 := (ptAt l 2).len8; have g2 := (ptAt l 2).tk8
        generalize ptAt l 0 = V0 at *
        generalize ptAt l 2 = V2 at *
        have M00 : M + 0 + 0 = M + 0 := rfl
        have M10 : M + 1 + 0 = M + 1 := rfl
        simp only [↓R0, R1, simprocAttr, -Int.reduceAbs, rdS, nwL, tA, tB, tC', t2, b0, c1', hbb, nk, q1, q2, r1, r2, p0, p2, p0', p2', f0, g0, f2, g2, k2, k3, k4, k6, md, hf, ins, hh, xM, l9, t9, c9, plen, ptk, flen, ftk, psl, lX, tX, newH0, newH1, M00, M10, M0, Q0, R0x, R9x, Fin, isEnd, resL, res1]
        refine ⟨_, rfl, rfl, fun q hq => ?_⟩
        have nb : ∀ j, (M + j = q) = False := fun j => eq_false (by omega)
        simp only [↓R0, R1, simprocAttr, -Int.reduceAbs, nb]
        exact hh q hq
    · have nA := prt_ne (by decide) hA
      have mA := pos_gt (List.length_pos_iff.2 nA)
      have kA : ∀ {hp : Heap} {k : Nat}, hget hp k = some ⟨41, 8, false, ptsC (prt c l (-1))⟩ → spPchk [.agg ⟨pc9 P (pSl k (prt c l (-1)).length)⟩] hp = some (.int .i64 0) := fun {hp k} hk => pchk_of (poly_at hk nA rfl) ((prt_split s s2.1).sz.le (by omega)) (prt_chk s.2 (.inr rfl) hA)
      rw [nl_A hA hB] at k1
      generalize ptsC (prt c l (-1)) = cA at *
      generalize (prt c l (-1)).length = nnA at *
      generalize ptsC (flipL l) = cG at *
      generalize (flipL l).length = nnF at *
      have bl := bld27 P Pt.dflt (flipP P) (pSl (N + 2) nnA) (.slice none 0 0) (pSl (N + 5) nnF)
      have ln := len27 P Pt.dflt (flipP P) (pSl (N + 2) nnA) (.slice none 0 0) (pSl (N + 5) nnF)
      have ga := g27a P Pt.dflt (flipP P) (pSl (N + 2) nnA) (.slice none 0 0) (pSl (N + 5) nnF)
      have gb := g27b P Pt.dflt (flipP P) (pSl (N + 2) nnA) (.slice none 0 0) (pSl (N + 5) nnF)
      have gc := g27c P Pt.dflt (flipP P) (pSl (N + 2) nnA) (.slice none 0 0) (pSl (N + 5) nnF)
      have okk : (pc9 P (pSl (N + 2) nnA) ++ pc9 Pt.dflt (.slice none 0 0) ++ pc9 (flipP P) (pSl (N + 5) nnF)).all okCell = true := rfl
      rw [← z9_dflt] at bl ln ga gb gc okk
      rw [zlit] at bl
      generalize pc9 P (pSl (N + 2) nnA) ++ z9 ++ pc9 (flipP P) (pSl (N + 5) nnF) = L27 at *
      generalize c.cells = CC at *
      generalize hC9 : pc9 P (.slice a l.length cc) = C9 at *
      clear hC9
      have e20 : N + 2 + 0 = N + 2 := rfl
      have e21 : N + 2 + 1 = N + 3 := rfl
      have e30 : N + 3 + 0 = N + 3 := rfl
      have e31 : N + 3 + 1 = N + 4 := rfl
      have e40 : N + 4 + 0 = N + 4 := rfl
      have e41 : N + 4 + 1 = N + 5 := rfl
      have e50 : N + 5 + 0 = N + 5 := rfl
      have e51 : N + 5 + 1 = N + 6 := rfl
      have e60 : N + 6 + 0 = N + 6 := rfl
      have e61 : N + 6 + 1 = N + 7 := rfl
      have e70 : N + 7 + 0 = N + 7 := rfl
      have e71 : N + 7 + 1 = N + 8 := rfl
      have e80 : N + 8 + 0 = N + 8 := rfl
      have e81 : N + 8 + 1 = N + 9 := rfl
      have e90 : N + 9 + 0 = N + 9 := rfl
      have e91 : N + 9 + 1 = N + 10 := rfl
      have e100 : N + 10 + 0 = N + 10 := rfl
      have e101 : N + 10 + 1 = N + 11 := rfl
      have e110 : N + 11 + 0 = N + 11 := rfl
      have e111 : N + 11 + 1 = N + 12 := rfl
      have e120 : N + 12 + 0 = N + 12 := rfl
      have e121 : N + 12 + 1 = N + 13 := rfl
      have e130 : N + 13 + 0 = N + 13 := rfl
      have e131 : N + 13 + 1 = N + 14 := rfl
      simp only [c8, G0, Nat.reduceAdd]
      simp only [↓R0, R1, simprocAttr, -Int.reduceAbs, setR_length, zlit, rdS, nwL, al, fi, xs, xc, lv, k1, k2, k3, l9, t9, g9, c9, lc, tc, zlen, zok, zst, ztk, zsl, pst, pok, plen, ptk, psl, fst, fok, flen, ftk, fsl, mF, cF, newH0, newH1, newH2, a_two, b_call2', e20, e21, e30, e31, e40, e41, e50, e51, e60, e61, e70, e71, e80, e81, e90, e91, e100, e101, e110, e111, e120, e121, e130, e131, if_true, Nat.one_ne_zero, if_false, Bool.not_true, Bool.not_false, bl, ln, ga, gb, gc, okk, v1, v2, v3, mA, kA]
      refine lp_step ?_
      simp only [↓R0, R1, simprocAttr, -Int.reduceAbs, setR_length, zlit, rdS, nwL, al, fi, xs, xc, lv, k1, k2, k3, l9, t9, g9, c9, lc, tc, zlen, zok, zst, ztk, zsl, pst, pok, plen, ptk, psl, fst, fok, flen, ftk, fsl, mF, cF, newH0, newH1, newH2, a_two, b_call2', e20, e21, e30, e31, e40, e41, e50, e51, e60, e61, e70, e71, e80, e81, e90, e91, e100, e101, e110, e111, e120, e121, e130, e131, if_true, Nat.one_ne_zero, if_false, Bool.not_true, Bool.not_false, bl, ln, ga, gb, gc, okk, v1, v2, v3, mA, kA]
      refine lp_step ?_
      simp only [↓R0, R1, simprocAttr, -Int.reduceAbs, setR_length, zlit, rdS, nwL, al, fi, xs, xc, lv, k1, k2, k3, l9, t9, g9, c9, lc, tc, zlen, zok, zst, ztk, zsl, pst, pok, plen, ptk, psl, fst, fok, flen, ftk, fsl, mF, cF, newH0, newH1, newH2, a_two, b_call2', e20, e21, e30, e31, e40, e41, e50, e51, e60, e61, e70, e71, e80, e81, e90, e91, e100, e101, e110, e111, e120, e121, e130, e131, if_true, Nat.one_ne_zero, if_false, Bool.not_true, Bool.not_false, bl, ln, ga, gb, gc, okk, v1, v2, v3, mA, kA]
      refine lp_step ?_
      simp only [↓R0, R1, simprocAttr, -Int.reduceAbs, setR_length, zlit, rdS, nwL, al, fi, xs, xc, lv, k1, k2, k3, l9, t9, g9, c9, lc, tc, zlen, zok, zst, ztk, zsl, pst, pok, plen, ptk, psl, fst, fok, flen, ftk, fsl, mF, cF, newH0, newH1, newH2, a_two, b_call2', e20, e21, e30, e31, e40, e41, e50, e51, e60, e61, e70, e71, e80, e81, e90, e91, e100, e101, e110, e111, e120, e121, e130, e131, if_true, Nat.one_ne_zero, if_false, Bool.not_true, Bool.not_false, bl, ln, ga, gb, gc, okk, v1, v2, v3, mA, kA]
      refine lp_step ?_
      simp only [↓R0, R1, simprocAttr, -Int.reduceAbs, setR_length, zlit, rdS, nwL, al, fi, xs, xc, lv, k1, k2, k3, l9, t9, g9, c9, lc, tc, zlen, zok, zst, ztk, zsl, pst, pok, plen, ptk, psl, fst, fok, flen, ftk, fsl, mF, cF, newH0, newH1, newH2, a_two, b_call2', e20, e21, e30, e31, e40, e41, e50, e51, e60, e61, e70, e71, e80, e81, e90, e91, e100, e101, e110, e111, e120, e121, e130, e131, if_true, Nat.one_ne_zero, if_false, Bool.not_true, Bool.not_false, bl, ln, ga, gb, gc, okk, v1, v2, v3, mA, kA]
      refine lp_parts (fun n tm hp nx => ∃ (i M : Nat), n + i = l.length ∧ tmget tm 48 = .slice a l.length cc ∧ tmget tm 49 = .int .i64 l.length ∧ tmget tm 50 = .int .i64 i ∧ tmget tm 2 = .pointer (some ⟨N + 0, 0, none⟩) ∧
          hget hp (N + 0) = some ⟨28, 9, true, C9⟩ ∧ Ext N h hp ∧ N + 10 ≤ M ∧ nx = M + 0) ?_ l.length
        ⟨0, N + 10, by omega, ?_, ?_, ?_, ?_, ?_, ?_, Nat.le_refl _, rfl⟩
      rotate_left
      all_goals first | (simp only [↓R0, R1, simprocAttr, -Int.reduceAbs, xs, xc]; done) | (simp only [↓R0, R1, simprocAttr, -Int.reduceAbs, xs, xc]; rfl) | skip
      rintro n tm hp nx ⟨i, M, hn, tA, tB, tC', t2, b0, hh, hM, hnx⟩
      rw [hnx]
      clear hnx nx
      have xM := fun j b hp => ext_ge (show N ≤ M by omega) j b h hp
      have M0 : ∀ j, (M + j = N + 0) = False := fun j => eq_false (by omega)
      have Q0 : ∀ j, (N + 0 = M + j) = False := fun j => eq_false (by omega)
      have R0x : ∀ d, (N = M + d) = False := fun d => eq_false (by omega)
      have R9x : (N = M) = False := eq_false (by omega)
      by_cases c1 : i < l.length
      · obtain ⟨k, off, blk, ea, hb, q1, q2⟩ := vert_at hx' c1
        subst ea
        have hk := hN _ _ hb
        have hbb : hget hp k = some blk := by rw [hh k hk]; exact hb
        have nk : ∀ j, (M + j = k) = False := fun j => eq_false (by omega)
        have c1' : ((i : Int) < (l.length : Int)) = True := eq_true (by omega)
        have w1 : IntKind.i64.wrap ((i : Int) + 1) = ((i + 1 : Nat) : Int) := by rw [i64_in _ (by omega)]; omega
        have k5i : ∀ {hp : Heap}, Ext N h hp → spCls [.agg ⟨C9⟩, .agg ⟨(ptAt l i).cells⟩] hp = some (.int .i64 0) := fun hh => k5 hh c1
        generalize ptAt l i = A at *
        have aA := A.len8; have oA := A.ok8; have tA8 := A.tk8
        have stA : setR [.bool false, .string ⟨⟨[]⟩⟩, .bool false, .string ⟨⟨[]⟩⟩, .bool false, .string ⟨⟨[]⟩⟩, .bool false, .string ⟨⟨[]⟩⟩] 0 A.cells = A.cells := rfl
        simp only [↓R0, R1, simprocAttr, -Int.reduceAbs, rdS, tA, tB, tC', t2, b0, c1, c1', hbb, nk, q1, q2, w1, k5i, hh, xM, aA, oA, tA8, stA, l9, t9, M0, Q0, R0x, R9x]
        exact ⟨n - 1, by omega, i + 1, M + 1, by omega, rfl, by omega, rfl⟩
      · have e : i = l.length := by omega
        subst e
        have c1' : ((l.length : Int) < (l.length : Int)) = False := eq_false (by omega)
        obtain ⟨k, off, blk, ea, hb, q1, q2⟩ := vert_at hx' (show 0 < l.length by omega)
        subst ea
        obtain ⟨k', off', blk', ea', hb', r1, r2⟩ := vert_at hx' (show 2 < l.length by omega)
        cases ea'
        rw [hb] at hb'; cases hb'
        have hk := hN _ _ hb
        have hbb : hget hp k = some blk := by rw [hh k hk]; exact hb
        have nk : ∀ j, (M + j = k) = False := fun j => eq_false (by omega)
        have p0 : (0 < l.length) = True := eq_true (by omega)
        have p2 : (2 < l.length) = True := eq_true (by omega)
        have p0' : ((0 : Int) < (l.length : Int)) = True := eq_true (by omega)
        have p2' : ((2 : Int) < (l.length : Int)) = True := eq_true (by omega)
        have f0 := (ptAt l 0).len8; have g0 := (ptAt l 0).tk8
        have f2 := (ptAt l 2).len8; have g2 := (ptAt l 2).tk8
        generalize ptAt l 0 = V0 at *
        generalize ptAt l 2 = V2 at *
        have M00 : M + 0 + 0 = M + 0 := rfl
        have M10 : M + 1 + 0 = M + 1 := rfl
        simp only [↓R0, R1, simprocAttr, -Int.reduceAbs, rdS, nwL, tA, tB, tC', t2, b0, c1', hbb, nk, q1, q2, r1, r2, p0, p2, p0', p2', f0, g0, f2, g2, k2, k3, k4, k6, md, hf, ins, hh, xM, l9, t9, c9, plen, ptk, flen, ftk, psl, lX, tX, newH0, newH1, M00, M10, M0, Q0, R0x, R9x, Fin, isEnd, resL, res1]
        refine ⟨_, rfl, rfl, fun q hq => ?_⟩
        have nb : ∀ j, (M + j = q) = False := fun j => eq_false (by omega)
        simp only [↓R0, R1, simprocAttr, -Int.reduceAbs, nb]
        exact hh q hq
  · by_cases hB : anyP c l 1 l.length
    · have nB := prt_ne (by decide) hB
      have mB := pos_gt (List.length_pos_iff.2 nB)
      have kB : ∀ {hp : Heap} {k : Nat}, hget hp k = some ⟨41, 8, false, ptsC (prt c l 1)⟩ → spPchk [.agg ⟨pc9 P (pSl k (prt c l 1).length)⟩] hp = some (.int .i64 0) := fun {hp k} hk => pchk_of (poly_at hk nB rfl) ((prt_split s s2.1).sz.le (by omega)) (prt_chk s.2 (.inl rfl) hB)
      rw [nl_B hA hB] at k1
      generalize ptsC (prt c l 1) = cB at *
      generalize (prt c l 1).length = nnB at *
      generalize ptsC (flipL l) = cG at *
      generalize (flipL l).length = nnF at *
      have bl := bld27 Pt.dflt P (flipP P) (.slice none 0 0) (pSl (N + 2) nnB) (pSl (N + 5) nnF)
      have ln := len27 Pt.dflt P (flipP P) (.slice none 0 0) (pSl (N + 2) nnB) (pSl (N + 5) nnF)
      have ga := g27a Pt.dflt P (flipP P) (.slice none 0 0) (pSl (N + 2) nnB) (pSl (N + 5) nnF)
      have gb := g27b Pt.dflt P (flipP P) (.slice none 0 0) (pSl (N + 2) nnB) (pSl (N + 5) nnF)
      have gc := g27c Pt.dflt P (flipP P) (.slice none 0 0) (pSl (N + 2) nnB) (pSl (N + 5) nnF)
      have okk : (pc9 Pt.dflt (.slice none 0 0) ++ pc9 P (pSl (N + 2) nnB) ++ pc9 (flipP P) (pSl (N + 5) nnF)).all okCell = true := rfl
      rw [← z9_dflt] at bl ln ga gb gc okk
      rw [zlit] at bl
      generalize z9 ++ pc9 P (pSl (N + 2) nnB) ++ pc9 (flipP P) (pSl (N + 5) nnF) = L27 at *
      generalize c.cells = CC at *
      generalize hC9 : pc9 P (.slice a l.length cc) = C9 at *
      clear hC9
      have e20 : N + 2 + 0 = N + 2 := rfl
      have e21 : N + 2 + 1 = N + 3 := rfl
      have e30 : N + 3 + 0 = N + 3 := rfl
      have e31 : N + 3 + 1 = N + 4 := rfl
      have e40 : N + 4 + 0 = N + 4 := rfl
      have e41 : N + 4 + 1 = N + 5 := rfl
      have e50 : N + 5 + 0 = N + 5 := rfl
      have e51 : N + 5 + 1 = N + 6 := rfl
      have e60 : N + 6 + 0 = N + 6 := rfl
      have e61 : N + 6 + 1 = N + 7 := rfl
      have e70 : N + 7 + 0 = N + 7 := rfl
      have e71 : N + 7 + 1 = N + 8 := rfl
      have e80 : N + 8 + 0 = N + 8 := rfl
      have e81 : N + 8 + 1 = N + 9 := rfl
      have e90 : N + 9 + 0 = N + 9 := rfl
      have e91 : N + 9 + 1 = N + 10 := rfl
      have e100 : N + 10 + 0 = N + 10 := rfl
      have e101 : N + 10 + 1 = N + 11 := rfl
      have e110 : N + 11 + 0 = N + 11 := rfl
      have e111 : N + 11 + 1 = N + 12 := rfl
      have e120 : N + 12 + 0 = N + 12 := rfl
      have e121 : N + 12 + 1 = N + 13 := rfl
      have e130 : N + 13 + 0 = N + 13 := rfl
      have e131 : N + 13 + 1 = N + 14 := rfl
      simp only [c8, G0, Nat.reduceAdd]
      simp only [↓R0, R1, simprocAttr, -Int.reduceAbs, setR_length, zlit, rdS, nwL, al, fi, xs, xc, lv, k1, k2, k3, l9, t9, g9, c9, lc, tc, zlen, zok, zst, ztk, zsl, pst, pok, plen, ptk, psl, fst, fok, flen, ftk, fsl, mF, cF, newH0, newH1, newH2, a_two, b_call2', e20, e21, e30, e31, e40, e41, e50, e51, e60, e61, e70, e71, e80, e81, e90, e91, e100, e101, e110, e111, e120, e121, e130, e131, if_true, Nat.one_ne_zero, if_false, Bool.not_true, Bool.not_false, bl, ln, ga, gb, gc, okk, v1, v2, v3, mB, kB]
      refine lp_step ?_
      simp only [↓R0, R1, simprocAttr, -Int.reduceAbs, setR_length, zlit, rdS, nwL, al, fi, xs, xc, lv, k1, k2, k3, l9, t9, g9, c9, lc, tc, zlen, zok, zst, ztk, zsl, pst, pok, plen, ptk, psl, fst, fok, flen, ftk, fsl, mF, cF, newH0, newH1, newH2, a_two, b_call2', e20, e21, e30, e31, e40, e41, e50, e51, e60, e61, e70, e71, e80, e81, e90, e91, e100, e101, e110, e111, e120, e121, e130, e131, if_true, Nat.one_ne_zero, if_false, Bool.not_true, Bool.not_false, bl, ln, ga, gb, gc, okk, v1, v2, v3, mB, kB]
      refine lp_step ?_
      simp only [↓R0, R1, simprocAttr, -Int.reduceAbs, setR_length, zlit, rdS, nwL, al, fi, xs, xc, lv, k1, k2, k3, l9, t9, g9, c9, lc, tc, zlen, zok, zst, ztk, zsl, pst, pok, plen, ptk, psl, fst, fok, flen, ftk, fsl, mF, cF, newH0, newH1, newH2, a_two, b_call2', e20, e21, e30, e31, e40, e41, e50, e51, e60, e61, e70, e71, e80, e81, e90, e91, e100, e101, e110, e111, e120, e121, e130, e131, if_true, Nat.one_ne_zero, if_false, Bool.not_true, Bool.not_false, bl, ln, ga, gb, gc, okk, v1, v2, v3, mB, kB]
      refine lp_step ?_
      simp only [↓R0, R1, simprocAttr, -Int.reduceAbs, setR_length, zlit, rdS, nwL, al, fi, xs, xc, lv, k1, k2, k3, l9, t9, g9, c9, lc, tc, zlen, zok, zst, ztk, zsl, pst, pok, plen, ptk, psl, fst, fok, flen, ftk, fsl, mF, cF, newH0, newH1, newH2, a_two, b_call2', e20, e21, e30, e31, e40, e41, e50, e51, e60, e61, e70, e71, e80, e81, e90, e91, e100, e101, e110, e111, e120, e121, e130, e131, if_true, Nat.one_ne_zero, if_false, Bool.not_true, Bool.not_false, bl, ln, ga, gb, gc, okk, v1, v2, v3, mB, kB]
      refine lp_step ?_
      simp only [↓R0, R1, simprocAttr, -Int.reduceAbs, setR_length, zlit, rdS, nwL, al, fi, xs, xc, lv, k1, k2, k3, l9, t9, g9, c9, lc, tc, zlen, zok, zst, ztk, zsl, pst, pok, plen, ptk, psl, fst, fok, flen, ftk, fsl, mF, cF, newH0, newH1, newH2, a_two, b_call2', e20, e21, e30, e31, e40, e41, e50, e51, e60, e61, e70, e71, e80, e81, e90, e91, e100, e101, e110, e111, e120, e121, e130, e131, if_true, Nat.one_ne_zero, if_false, Bool.not_true, Bool.not_false, bl, ln, ga, gb, gc, okk, v1, v2, v3, mB, kB]
      refine lp_parts (fun n tm hp nx => ∃ (i M : Nat), n + i = l.length ∧ tmget tm 48 = .slice a l.length cc ∧ tmget tm 49 = .int .i64 l.length ∧ tmget tm 50 = .int .i64 i ∧ tmget tm 2 = .pointer (some ⟨N + 0, 0, none⟩) ∧
          hget hp (N + 0) = some ⟨28, 9, true, C9⟩ ∧ Ext N h hp ∧ N + 10 ≤ M ∧ nx = M + 0) ?_ l.length
        ⟨0, N + 10, by omega, ?_, ?_, ?_, ?_, ?_, ?_, Nat.le_refl _, rfl⟩
      rotate_left
      all_goals first | (simp only [↓R0, R1, simprocAttr, -Int.reduceAbs, xs, xc]; done) | (simp only [↓R0, R1, simprocAttr, -Int.reduceAbs, xs, xc]; rfl) | skip
      rintro n tm hp nx ⟨i, M, hn, tA, tB, tC', t2, b0, hh, hM, hnx⟩
      rw [hnx]
      clear hnx nx
      have xM := fun j b hp => ext_ge (show N ≤ M by omega) j b h hp
      have M0 : ∀ j, (M + j = N + 0) = False := fun j => eq_false (by omega)
      have Q0 : ∀ j, (N + 0 = M + j) = False := fun j => eq_false (by omega)
      have R0x : ∀ d, (N = M + d) = False := fun d => eq_false (by omega)
      have R9x : (N = M) = False := eq_false (by omega)
      by_cases c1 : i < l.length
      · obtain ⟨k, off, blk, ea, hb, q1, q2⟩ := vert_at hx' c1
        subst ea
        have hk := hN _ _ hb
        have hbb : hget hp k = some blk := by rw [hh k hk]; exact hb
        have nk : ∀ j, (M + j = k) = False := fun j => eq_false (by omega)
        have c1' : ((i : Int) < (l.length : Int)) = True := eq_true (by omega)
        have w1 : IntKind.i64.wrap ((i : Int) + 1) = ((i + 1 : Nat) : Int) := by rw [i64_in _ (by omega)]; omega
        have k5i : ∀ {hp : Heap}, Ext N h hp → spCls [.agg ⟨C9⟩, .agg ⟨(ptAt l i).cells⟩] hp = some (.int .i64 0) := fun hh => k5 hh c1
        generalize ptAt l i = A at *
        have aA := A.len8; have oA := A.ok8; have tA8 := A.tk8
        have stA : setR [.bool false, .string ⟨⟨[]⟩⟩, .bool false, .string ⟨⟨[]⟩⟩, .bool false, .string ⟨⟨[]⟩⟩, .bool false, .string ⟨⟨[]⟩⟩] 0 A.cells = A.cells := rfl
        simp only [↓R0, R1, simprocAttr, -Int.reduceAbs, rdS, tA, tB, tC', t2, b0, c1, c1', hbb, nk, q1, q2, w1, k5i, hh, xM, aA, oA, tA8, stA, l9, t9, M0, Q0, R0x, R9x]
        exact ⟨n - 1, by omega, i + 1, M + 1, by omega, rfl, by omega, rfl⟩
      · have e : i = l.length := by omega
        subst e
        have c1' : ((l.length : Int) < (l.length : Int)) = False := eq_false (by omega)
        obtain ⟨k, off, blk, ea, hb, q1, q2⟩ := vert_at hx' (show 0 < l.length by omega)
        subst ea
        obtain ⟨k', off', blk', ea', hb', r1, r2⟩ := vert_at hx' (show 2 < l.length by omega)
        cases ea'
        rw [hb] at hb'; cases hb'
        have hk := hN _ _ hb
        have hbb : hget hp k = some blk := by rw [hh k hk]; exact hb
        have nk : ∀ j, (M + j = k) = False := fun j => eq_false (by omega)
        have p0 : (0 < l.length) = True := eq_true (by omega)
        have p2 : (2 < l.length) = True := eq_true (by omega)
        have p0' : ((0 : Int) < (l.length : Int)) = True := eq_true (by omega)
        have p2' : ((2 : Int) < (l.length : Int)) = True := eq_true (by omega)
        have f0 := (ptAt l 0).len8; have g0 := (ptAt l 0).tk8
        have f2 := (ptAt l 2).len8; have g2 := (ptAt l 2).tk8
        generalize ptAt l 0 = V0 at *
        generalize ptAt l 2 = V2 at *
        have M00 : M + 0 + 0 = M + 0 := rfl
        have M10 : M + 1 + 0 = M + 1 := rfl
        simp only [↓R0, R1, simprocAttr, -Int.reduceAbs, rdS, nwL, tA, tB, tC', t2, b0, c1', hbb, nk, q1, q2, r1, r2, p0, p2, p0', p2', f0, g0, f2, g2, k2, k3, k4, k6, md, hf, ins, hh, xM, l9, t9, c9, plen, ptk, flen, ftk, psl, lX, tX, newH0, newH1, M00, M10, M0, Q0, R0x, R9x, Fin, isEnd, resL, res1]
        refine ⟨_, rfl, rfl, fun q hq => ?_⟩
        have nb : ∀ j, (M + j = q) = False := fun j => eq_false (by omega)
        simp only [↓R0, R1, simprocAttr, -Int.reduceAbs, nb]
        exact hh q hq
    · rw [nl_0 hA hB] at k1
      generalize ptsC (flipL l) = cG at *
      generalize (flipL l).length = nnF at *
      have bl := bld27 Pt.dflt Pt.dflt (flipP P) (.slice none 0 0) (.slice none 0 0) (pSl (N + 4) nnF)
      have ln := len27 Pt.dflt Pt.dflt (flipP P) (.slice none 0 0) (.slice none 0 0) (pSl (N + 4) nnF)
      have ga := g27a Pt.dflt Pt.dflt (flipP P) (.slice none 0 0) (.slice none 0 0) (pSl (N + 4) nnF)
      have gb := g27b Pt.dflt Pt.dflt (flipP P) (.slice none 0 0) (.slice none 0 0) (pSl (N + 4) nnF)
      have gc := g27c Pt.dflt Pt.dflt (flipP P) (.slice none 0 0) (.slice none 0 0) (pSl (N + 4) nnF)
      have okk : (pc9 Pt.dflt (.slice none 0 0) ++ pc9 Pt.dflt (.slice none 0 0) ++ pc9 (flipP P) (pSl (N + 4) nnF)).all okCell = true := rfl
      rw [← z9_dflt] at bl ln ga gb gc okk
      rw [zlit] at bl
      generalize z9 ++ z9 ++ pc9 (flipP P) (pSl (N + 4) nnF) = L27 at *
      generalize c.cells = CC at *
      generalize hC9 : pc9 P (.slice a l.length cc) = C9 at *
      clear hC9
      have e20 : N + 2 + 0 = N + 2 := rfl
      have e21 : N + 2 + 1 = N + 3 := rfl
      have e30 : N + 3 + 0 = N + 3 := rfl
      have e31 : N + 3 + 1 = N + 4 := rfl
      have e40 : N + 4 + 0 = N + 4 := rfl
      have e41 : N + 4 + 1 = N + 5 := rfl
      have e50 : N + 5 + 0 = N + 5 := rfl
      have e51 : N + 5 + 1 = N + 6 := rfl
      have e60 : N + 6 + 0 = N + 6 := rfl
      have e61 : N + 6 + 1 = N + 7 := rfl
      have e70 : N + 7 + 0 = N + 7 := rfl
      have e71 : N + 7 + 1 = N + 8 := rfl
      have e80 : N + 8 + 0 = N + 8 := rfl
      have e81 : N + 8 + 1 = N + 9 := rfl
      have e90 : N + 9 + 0 = N + 9 := rfl
      have e91 : N + 9 + 1 = N + 10 := rfl
      have e100 : N + 10 + 0 = N + 10 := rfl
      have e101 : N + 10 + 1 = N + 11 := rfl
      have e110 : N + 11 + 0 = N + 11 := rfl
      have e111 : N + 11 + 1 = N + 12 := rfl
      have e120 : N + 12 + 0 = N + 12 := rfl
      have e121 : N + 12 + 1 = N + 13 := rfl
      have e130 : N + 13 + 0 = N + 13 := rfl
      have e131 : N + 13 + 1 = N + 14 := rfl
      simp only [c8, G0, Nat.reduceAdd]
      simp only [↓R0, R1, simprocAttr, -Int.reduceAbs, setR_length, zlit, rdS, nwL, al, fi, xs, xc, lv, k1, k2, k3, l9, t9, g9, c9, lc, tc, zlen, zok, zst, ztk, zsl, pst, pok, plen, ptk, psl, fst, fok, flen, ftk, fsl, mF, cF, newH0, newH1, newH2, a_two, b_call2', e20, e21, e30, e31, e40, e41, e50, e51, e60, e61, e70, e71, e80, e81, e90, e91, e100, e101, e110, e111, e120, e121, e130, e131, if_true, Nat.one_ne_zero, if_false, Bool.not_true, Bool.not_false, bl, ln, ga, gb, gc, okk, v1, v2, v3]
      refine lp_step ?_
      simp only [↓R0, R1, simprocAttr, -Int.reduceAbs, setR_length, zlit, rdS, nwL, al, fi, xs, xc, lv, k1, k2, k3, l9, t9, g9, c9, lc, tc, zlen, zok, zst, ztk, zsl, pst, pok, plen, ptk, psl, fst, fok, flen, ftk, fsl, mF, cF, newH0, newH1, newH2, a_two, b_call2', e20, e21, e30, e31, e40, e41, e50, e51, e60, e61, e70, e71, e80, e81, e90, e91, e100, e101, e110, e111, e120, e121, e130, e131, if_true, Nat.one_ne_zero, if_false, Bool.not_true, Bool.not_false, bl, ln, ga, gb, gc, okk, v1, v2, v3]
      refine lp_step ?_
      simp only [↓R0, R1, simprocAttr, -Int.reduceAbs, setR_length, zlit, rdS, nwL, al, fi, xs, xc, lv, k1, k2, k3, l9, t9, g9, c9, lc, tc, zlen, zok, zst, ztk, zsl, pst, pok, plen, ptk, psl, fst, fok, flen, ftk, fsl, mF, cF, newH0, newH1, newH2, a_two, b_call2', e20, e21, e30, e31, e40, e41, e50, e51, e60, e61, e70, e71, e80, e81, e90, e91, e100, e101, e110, e111, e120, e121, e130, e131, if_true, Nat.one_ne_zero, if_false, Bool.not_true, Bool.not_false, bl, ln, ga, gb, gc, okk, v1, v2, v3]
      refine lp_step ?_
      simp only [↓R0, R1, simprocAttr, -Int.reduceAbs, setR_length, zlit, rdS, nwL, al, fi, xs, xc, lv, k1, k2, k3, l9, t9, g9, c9, lc, tc, zlen, zok, zst, ztk, zsl, pst, pok, plen, ptk, psl, fst, fok, flen, ftk, fsl, mF, cF, newH0, newH1, newH2, a_two, b_call2', e20, e21, e30, e31, e40, e41, e50, e51, e60, e61, e70, e71, e80, e81, e90, e91, e100, e101, e110, e111, e120, e121, e130, e131, if_true, Nat.one_ne_zero, if_false, Bool.not_true, Bool.not_false, bl, ln, ga, gb, gc, okk, v1, v2, v3]
      refine lp_step ?_
      simp only [↓R0, R1, simprocAttr, -Int.reduceAbs, setR_length, zlit, rdS, nwL, al, fi, xs, xc, lv, k1, k2, k3, l9, t9, g9, c9, lc, tc, zlen, zok, zst, ztk, zsl, pst, pok, plen, ptk, psl, fst, fok, flen, ftk, fsl, mF, cF, newH0, newH1, newH2, a_two, b_call2', e20, e21, e30, e31, e40, e41, e50, e51, e60, e61, e70, e71, e80, e81, e90, e91, e100, e101, e110, e111, e120, e121, e130, e131, if_true, Nat.one_ne_zero, if_false, Bool.not_true, Bool.not_false, bl, ln, ga, gb, gc, okk, v1, v2, v3]
      refine lp_parts (fun n tm hp nx => ∃ (i M : Nat), n + i = l.length ∧ tmget tm 48 = .slice a l.length cc ∧ tmget tm 49 = .int .i64 l.length ∧ tmget tm 50 = .int .i64 i ∧ tmget tm 2 = .pointer (some ⟨N + 0, 0, none⟩) ∧
          hget hp (N + 0) = some ⟨28, 9, true, C9⟩ ∧ Ext N h hp ∧ N + 9 ≤ M ∧ nx = M + 0) ?_ l.length
        ⟨0, N + 9, by omega, ?_, ?_, ?_, ?_, ?_, ?_, Nat.le_refl _, rfl⟩
      rotate_left
      all_goals first | (simp only [↓R0, R1, simprocAttr, -Int.reduceAbs, xs, xc]; done) | (simp only [↓R0, R1, simprocAttr, -Int.reduceAbs, xs, xc]; rfl) | skip
      rintro n tm hp nx ⟨i, M, hn, tA, tB, tC', t2, b0, hh, hM, hnx⟩
      rw [hnx]
      clear hnx nx
      have xM := fun j b hp => ext_ge (show N ≤ M by omega) j b h hp
      have M0 : ∀ j, (M + j = N + 0) = False := fun j => eq_false (by omega)
      have Q0 : ∀ j, (N + 0 = M + j) = False := fun j => eq_false (by omega)
      have R0x : ∀ d, (N = M + d) = False := fun d => eq_false (by omega)
      have R9x : (N = M) = False := eq_false (by omega)
      by_cases c1 : i < l.length
      · obtain ⟨k, off, blk, ea, hb, q1, q2⟩ := vert_at hx' c1
        subst ea
        have hk := hN _ _ hb
        have hbb : hget hp k = some blk := by rw [hh k hk]; exact hb
        have nk : ∀ j, (M + j = k) = False := fun j => eq_false (by omega)
        have c1' : ((i : Int) < (l.length : Int)) = True := eq_true (by omega)
        have w1 : IntKind.i64.wrap ((i : Int) + 1) = ((i + 1 : Nat) : Int) := by rw [i64_in _ (by omega)]; omega
        have k5i : ∀ {hp : Heap}, Ext N h hp → spCls [.agg ⟨C9⟩, .agg ⟨(ptAt l i).cells⟩] hp = some (.int .i64 0) := fun hh => k5 hh c1
        generalize ptAt l i = A at *
        have aA := A.len8; have oA := A.ok8; have tA8 := A.tk8
        have stA : setR [.bool false, .string ⟨⟨[]⟩⟩, .bool false, .string ⟨⟨[]⟩⟩, .bool false, .string ⟨⟨[]⟩⟩, .bool false, .string ⟨⟨[]⟩⟩] 0 A.cells = A.cells := rfl
        simp only [↓R0, R1, simprocAttr, -Int.reduceAbs, rdS, tA, tB, tC', t2, b0, c1, c1', hbb, nk, q1, q2, w1, k5i, hh, xM, aA, oA, tA8, stA, l9, t9, M0, Q0, R0x, R9x]
        exact ⟨n - 1, by omega, i + 1, M + 1, by omega, rfl, by omega, rfl⟩
      · have e : i = l.length := by omega
        subst e
        have c1' : ((l.length : Int) < (l.length : Int)) = False := eq_false (by omega)
        obtain ⟨k, off, blk, ea, hb, q1, q2⟩ := vert_at hx' (show 0 < l.length by omega)
        subst ea
        obtain ⟨k', off', blk', ea', hb', r1, r2⟩ := vert_at hx' (show 2 < l.length by omega)
        cases ea'
        rw [hb] at hb'; cases hb'
        have hk := hN _ _ hb
        have hbb : hget hp k = some blk := by rw [hh k hk]; exact hb
        have nk : ∀ j, (M + j = k) = False := fun j => eq_false (by omega)
        have p0 : (0 < l.length) = True := eq_true (by omega)
        have p2 : (2 < l.length) = True := eq_true (by omega)
        have p0' : ((0 : Int) < (l.length : Int)) = True := eq_true (by omega)
        have p2' : ((2 : Int) < (l.length : Int)) = True := eq_true (by omega)
        have f0 := (ptAt l 0).len8; have g0 := (ptAt l 0).tk8
        have f2 := (ptAt l 2).len8; have g2 := (ptAt l 2).tk8
        generalize ptAt l 0 = V0 at *
        generalize ptAt l 2 = V2 at *
        have M00 : M + 0 + 0 = M + 0 := rfl
        have M10 : M + 1 + 0 = M + 1 := rfl
        simp only [↓R0, R1, simprocAttr, -Int.reduceAbs, rdS, nwL, tA, tB, tC', t2, b0, c1', hbb, nk, q1, q2, r1, r2, p0, p2, p0', p2', f0, g0, f2, g2, k2, k3, k4, k6, md, hf, ins, hh, xM, l9, t9, c9, plen, ptk, flen, ftk, psl, lX, tX, newH0, newH1, M00, M10, M0, Q0, R0x, R9x, Fin, isEnd, resL, res1]
        refine ⟨_, rfl, rfl, fun q hq => ?_⟩
        have nb : ∀ j, (M + j = q) = False := fun j => eq_false (by omega)
        simp only [↓R0, R1, simprocAttr, -Int.reduceAbs, nb]
        exact hh q hq
end Go.Eng
end
section
set_option linter.unusedVariables false
set_option linter.unusedSimpArgs false
set_option linter.unusedSectionVars false
namespace Go.Eng.K
open Go.Eng
inductive Ki where
  | b | i (k : IntKind) | s
def kiFs (ty : TypeId → Option (List Ki)) (P : Program) : List Field → Nat → Option (List Ki)
  | [], _ => some []
  | f :: r, off =>
    if f.name ≠ "_" ∧ f.offset = off then
      match ty f.type, szOf P f.type with
      | some ks, some n => if ks.length = n then (kiFs ty P r (off + n)).map (ks ++ ·) else none
      | _, _ => none
    else none
def kiTy (P : Program) : Nat → TypeId → Option (List Ki)
  | 0, _ => none
  | d + 1, t =>
    match P.underlying t with
    | some .bool => some [.b]
    | some (.int k) => some [.i k]
    | some .string => some [.s]
    | some (.struct fs) => if P.stoodInHeld t then none else kiFs (kiTy P d) P fs.toList 0
    | some (.array len e) => match kiTy P d e, szOf P e with
      | some ks, some n => if ks.length = n then some (List.replicate len ks).flatten else none
      | _, _ => none
    | _ => none
def kmatch : List Ki → List Value → Prop
  | [], [] => True
  | .b :: ks, .bool _ :: r => kmatch ks r
  | .i k :: ks, .int k' n :: r => (k' = k ∧ (Lit.int k n).wf = true) ∧ kmatch ks r
  | .s :: ks, .string s :: r => s.size ≤ maxLen ∧ kmatch ks r
  | _, _ => False
theorem kmatch_append : ∀ {ks ks' : List Ki} {cs cs' : List Value}, kmatch ks cs → kmatch ks' cs' → kmatch (ks ++ ks') (cs ++ cs')
  | [], _, [], _, _, h => h
  | [], _, _ :: _, _, h, _ => h.elim
  | .b :: ks, ks', cs, cs', h, h' => by
    match cs, h with
    | .bool _ :: r, h => exact kmatch_append (ks := ks) h h'
  | .i k :: ks, ks', cs, cs', h, h' => by
    match cs, h with
    | .int _ _ :: r, h => exact ⟨h.1, kmatch_append (ks := ks) h.2 h'⟩
  | .s :: ks, ks', cs, cs', h, h' => by
    match cs, h with
    | .string _ :: r, h => exact ⟨h.1, kmatch_append (ks := ks) h.2 h'⟩
section
variable {H : Type} {enc : TypeId × Value → H} {P : Program}
theorem cellsOf_sz {t : TypeId} {n : Nat} (h : szOf P t = some n) : P.cellsOf t = n := by
  unfold Program.cellsOf; unfold szOf at h; rw [h]; rfl
def Plain (P : Program) (enc : TypeId × Value → H) (fuel : Nat) (t : TypeId) (ks : List Ki) : Prop :=
  ∀ (w : World) (base : Nat) (spare : Nat → Bool) (held : Bool) (cs : List Value) (x : DataW H × List MemPlace), DataW.trod enc P w base spare held fuel t cs = some x →
    kmatch ks cs ∧ x.2 = [] ∧ ∀ w' base' spare' held', DataW.trod enc P w' base' spare' held' fuel t cs = some x
theorem plain_fields {fuel : Nat} {ty : TypeId → Option (List Ki)} (hty : ∀ t ks n, ty t = some ks → szOf P t = some n → ks.length = n → Plain P enc fuel t ks) :
    ∀ (fs : List Field) (off : Nat) (ks : List Ki), kiFs ty P fs off = some ks → ∀ (w : World) (base : Nat) (spare : Nat → Bool) (held : Bool) (cs : List Value) (xs : List (DataW H × List MemPlace)),
      (fs.mapM fun f => DataW.trod enc P w base spare held fuel f.type ((cs.drop f.offset).take (P.cellsOf f.type))) = some xs → cs.length = off + ks.length →
      kmatch ks (cs.drop off) ∧ xs.flatMap (·.2) = [] ∧ ∀ w' base' spare' held', (fs.mapM fun f => DataW.trod enc P w' base' spare' held' fuel f.type ((cs.drop f.offset).take (P.cellsOf f.type))) = some xs
  | [], off, ks, h, w, base, spare, held, cs, xs, hm, hl => by
    simp only [kiFs, Option.some.injEq] at h
    subst h
    simp only [List.mapM_nil, Option.pure_def, Option.some.injEq] at hm
    subst hm
    simp only [List.length_nil, Nat.add_zero] at hl
    rw [List.drop_eq_nil_of_le (by omega)]
    exact ⟨trivial, rfl, fun _ _ _ _ => rfl⟩
  | f :: r, off, ks, h, w, base, spare, held, cs, xs, hm, hl => by
    simp only [kiFs] at h
    split at h
    case isFalse => cases h
    rename_i hc
    obtain ⟨_, hoff⟩ := hc
    split at h
    case h_2 => cases h
    rename_i ks0 n hk hn
    split at h
    case isFalse => cases h
    rename_i hlen
    rw [Option.map_eq_some_iff] at h
    obtain ⟨ks1, h1, rfl⟩ := h
    have hsz := cellsOf_sz hn
    simp only [List.mapM_cons, Option.bind_eq_bind, Option.bind_eq_some_iff, Option.pure_def, Option.some.injEq] at hm
    obtain ⟨y, hy, ys, hys, rfl⟩ := hm
    have hp := hty f.type ks0 n hk hn hlen w base spare held _ y hy
    obtain ⟨p1, p2, p3⟩ := hp
    simp only [List.length_append] at hl
    obtain ⟨q1, q2, q3⟩ := plain_fields hty r (off + n) ks1 h1 w base spare held cs ys hys (by omega)
    rw [hoff, hsz] at p1
    refine ⟨?_, ?_, ?_⟩
    · have e : cs.drop off = (cs.drop off).take n ++ cs.drop (off + n) := by
        rw [← List.drop_drop, List.take_append_drop]
      rw [e]
      exact kmatch_append p1 q1
    · simp only [List.flatMap_cons, p2, q2, List.nil_append]
    · intro w' base' spare' held'
      simp only [List.mapM_cons, Option.bind_eq_bind, Option.bind_eq_some_iff, Option.pure_def, Option.some.injEq]
      exact ⟨y, p3 w' base' spare' held', ys, q3 w' base' spare' held', rfl⟩
theorem plain_elems {fuel : Nat} {e : TypeId} {ks : List Ki} {n : Nat} (hn : szOf P e = some n) (hl : ks.length = n) (he : Plain P enc fuel e ks) :
    ∀ (m i0 : Nat) (w : World) (base : Nat) (spare : Nat → Bool) (held : Bool) (cs : List Value) (xs : List (DataW H × List MemPlace)),
      ((List.range' i0 m).mapM fun i => DataW.trod enc P w base spare held fuel e ((cs.drop (i * P.cellsOf e)).take (P.cellsOf e))) = some xs → cs.length = (i0 + m) * n →
      kmatch (List.replicate m ks).flatten (cs.drop (i0 * n)) ∧ xs.flatMap (·.2) = [] ∧ ∀ w' base' spare' held', ((List.range' i0 m).mapM fun i => DataW.trod enc P w' base' spare' held' fuel e ((cs.drop (i * P.cellsOf e)).take (P.cellsOf e))) = some xs
  | 0, i0, w, base, spare, held, cs, xs, hm, hlen => by
    simp only [List.range'_zero, List.mapM_nil, Option.pure_def, Option.some.injEq] at hm
    subst hm
    simp only [Nat.add_zero] at hlen
    rw [List.drop_eq_nil_of_le (by omega)]
    exact ⟨trivial, rfl, fun _ _ _ _ => by simp⟩
  | m + 1, i0, w, base, spare, held, cs, xs, hm, hlen => by
    have hsz := cellsOf_sz hn
    simp only [List.range'_succ, List.mapM_cons, Option.bind_eq_bind, Option.bind_eq_some_iff, Option.pure_def, Option.some.injEq] at hm
    obtain ⟨y, hy, ys, hys, rfl⟩ := hm
    obtain ⟨p1, p2, p3⟩ := he w base spare held _ y hy
    obtain ⟨q1, q2, q3⟩ := plain_elems hn hl he m (i0 + 1) w base spare held cs ys hys (by rw [hlen]; congr 1; omega)
    rw [hsz] at p1
    refine ⟨?_, ?_, ?_⟩
    · rw [List.replicate_succ, List.flatten_cons]
      have e : cs.drop (i0 * n) = (cs.drop (i0 * n)).take n ++ cs.drop ((i0 + 1) * n) := by
        rw [Nat.succ_mul, ← List.drop_drop, List.take_append_drop]
      rw [e]
      exact kmatch_append p1 q1
    · simp only [List.flatMap_cons, p2, q2, List.nil_append]
    · intro w' base' spare' held'
      simp only [List.range'_succ, List.mapM_cons, Option.bind_eq_bind, Option.bind_eq_some_iff, Option.pure_def, Option.some.injEq]
      exact ⟨y, p3 w' base' spare' held', ys, q3 w' base' spare' held', rfl⟩
theorem plain_ty : ∀ (fuel d : Nat) (t : TypeId) (ks : List Ki) (n : Nat), kiTy P d t = some ks → szOf P t = some n → ks.length = n → Plain P enc fuel t ks
  | 0, d, t, ks, n, h, hn, hl => by intro w base spare held cs x hx; simp [DataW.trod] at hx
  | fuel + 1, 0, t, ks, n, h, hn, hl => by simp [kiTy] at h
  | fuel + 1, d + 1, t, ks, n, h, hn, hl => by
    intro w base spare held cs x hx
    unfold kiTy at h
    unfold DataW.trod at hx ⊢
    split at h
    · rename_i hu
      cases h
      rw [hu] at hx ⊢
      match cs, hx with
      | [.bool b], hx => simp only [Option.some.injEq] at hx; subst hx; exact ⟨trivial, rfl, fun _ _ _ _ => rfl⟩
    · rename_i k hu
      cases h
      rw [hu] at hx ⊢
      match cs, hx with
      | [.int k' m], hx =>
        simp only at hx
        split at hx
        · rename_i hc
          simp only [Option.some.injEq] at hx; subst hx
          exact ⟨⟨hc, trivial⟩, rfl, fun _ _ _ _ => by simp only; rw [if_pos hc]⟩
        · cases hx
    · rename_i hu
      cases h
      rw [hu] at hx ⊢
      match cs, hx with
      | [.string s], hx =>
        simp only at hx
        split at hx
        · rename_i hc
          simp only [Option.some.injEq] at hx; subst hx
          exact ⟨⟨hc, trivial⟩, rfl, fun _ _ _ _ => by simp only; rw [if_pos hc]⟩
        · cases hx
    · rename_i fs hu
      split at h
      · cases h
      rw [hu] at hx ⊢
      simp only at hx ⊢
      split at hx
      case isFalse => cases hx
      rename_i hlen
      rw [Option.map_eq_some_iff] at hx
      obtain ⟨xs, hxs, rfl⟩ := hx
      rw [cellsOf_sz hn, ← hl] at hlen
      obtain ⟨p1, p2, p3⟩ := plain_fields (fuel := fuel) (fun t ks n h1 h2 h3 => plain_ty fuel d t ks n h1 h2 h3) fs.toList 0 ks h w base spare held cs xs hxs (by omega)
      refine ⟨by simpa using p1, p2, fun w' base' spare' held' => ?_⟩
      rw [if_pos (by rw [cellsOf_sz hn, ← hl, hlen]), p3]; rfl
    · rename_i len e hu
      split at h
      case h_2 => cases h
      rename_i ks0 m hk hm
      split at h
      case isFalse => cases h
      rename_i hlm
      simp only [Option.some.injEq] at h
      subst h
      rw [hu] at hx ⊢
      simp only at hx ⊢
      split at hx
      case isFalse => cases hx
      rename_i hlen
      rw [Option.map_eq_some_iff] at hx
      obtain ⟨xs, hxs, rfl⟩ := hx
      rw [cellsOf_sz hn, ← hl] at hlen
      rw [List.range_eq_range'] at hxs
      have hfl : ((List.replicate len ks0).flatten).length = len * m := by rw [List.length_flatten]; simp [hlm]
      obtain ⟨p1, p2, p3⟩ := plain_elems hm hlm (plain_ty fuel d e ks0 m hk hm hlm) len 0 w base spare held cs xs hxs (by rw [hlen, hfl, Nat.zero_add])
      refine ⟨by simpa using p1, p2, fun w' base' spare' held' => ?_⟩
      rw [if_pos (by rw [cellsOf_sz hn, ← hl, hlen]), List.range_eq_range', p3]; rfl
    · cases h
theorem trod_plain {w : World} {t : TypeId} {v : Value} {d : DataW H} {ps : List MemPlace} {ks : List Ki} {n : Nat} {base : Nat} {spare : Nat → Bool} {held : Bool}
    (hf : kiTy P 20 t = some ks) (hs : szOf P t = some n) (hl : ks.length = n) (h : DataW.Trod enc P w base spare held t v d ps) :
    kmatch ks v.cells.toList ∧ ps = [] ∧ ∀ w' base' spare' held', DataW.Trod enc P w' base' spare' held' t v d ps := by
  obtain ⟨fuel, h⟩ := h
  obtain ⟨p1, p2, p3⟩ := plain_ty fuel 20 t ks n hf hs hl w base spare held _ _ h
  exact ⟨p1, p2, fun w' base' spare' held' => ⟨fuel, p3 w' base' spare' held'⟩⟩
end
theorem agg_of {v : Value} {cs : List Value} (h : v.cells.toList = cs) (h2 : 2 ≤ cs.length) : v = .agg ⟨cs⟩ := by
  rw [vcells_eq] at h
  cases v <;> simp [vcells] at h <;> subst h <;> first | rfl | simp at h2
end Go.Eng.K
end
section
set_option linter.unusedVariables false
set_option linter.unusedSimpArgs false
set_option linter.unusedSectionVars false
namespace Go.Eng.K
open Go.Eng
theorem vr_ex (β : Emb) : ∀ v : Value, ∃ a, VR β a v := by
  have key : ∀ (n : Nat) (v : Value), SizeOf.sizeOf v < n → ∃ a, VR β a v := by
    intro n
    induction n with
    | zero => intro v h; omega
    | succ n ih =>
      intro v h
      have list : ∀ l : List Value, (∀ x ∈ l, SizeOf.sizeOf x < n) → ∃ bs, VRs β bs l := by
        intro l
        induction l with
        | nil => intro _; exact ⟨[], .nil⟩
        | cons x r ihl =>
          intro hx
          obtain ⟨a, ha⟩ := ih x (hx x (List.mem_cons_self ..))
          obtain ⟨bs, hs⟩ := ihl (fun y hy => hx y (List.mem_cons_of_mem _ hy))
          exact ⟨a :: bs, .cons _ _ _ _ ha hs⟩
      by_cases ho : okCell v = true
      · exact ⟨.chan none, .junk none v ho⟩
      · match v, ho, h with
        | .agg ⟨l⟩, _, h =>
          obtain ⟨bs, hs⟩ := list l (fun x hx => by
            have := List.sizeOf_lt_of_mem hx
            simp only [Value.agg.sizeOf_spec, Array.mk.sizeOf_spec] at h
            omega)
          exact ⟨.agg ⟨bs⟩, .agg _ _ hs⟩
        | .tuple ⟨l⟩, _, h =>
          obtain ⟨bs, hs⟩ := list l (fun x hx => by
            have := List.sizeOf_lt_of_mem hx
            simp only [Value.tuple.sizeOf_spec, Array.mk.sizeOf_spec] at h
            omega)
          exact ⟨.tuple ⟨bs⟩, .tup _ _ hs⟩
  exact fun v => key (SizeOf.sizeOf v + 1) v (Nat.lt_succ_self _)
def mirE (W : World) : Emb := fun k => if k < W.heap.size then some ⟨k, 0, []⟩ else none
open Classical in
noncomputable def absV (W : World) (v : Value) : Value :=
  match v with
  | .slice (some a) len cap =>
    if len = 0 then .slice (some ⟨0, 0, some 1⟩) 0 0
    else if a.spot = none ∧ a.block < W.heap.size then .slice (some a) len cap
    else Classical.choose (vr_ex (mirE W) (.slice (some a) len cap))
  | v => if isBase v = true then v else Classical.choose (vr_ex (mirE W) v)
theorem absV_vr (W : World) (v : Value) : VR (mirE W) (absV W v) v := by
  unfold absV
  split
  · rename_i a len cap
    split
    · rename_i h; subst h; exact .sle _ _
    · split
      · rename_i h
        obtain ⟨b, off, s⟩ := a
        obtain ⟨h1, h2⟩ := h
        simp only at h1 h2
        subst h1
        exact VR.sl b off len cap ⟨b, 0, []⟩ (by unfold mirE; rw [if_pos h2])
      · exact Classical.choose_spec (vr_ex (mirE W) _)
  · split
    · rename_i h; exact .base _ h
    · exact Classical.choose_spec (vr_ex (mirE W) _)
theorem absV_base {W : World} {v : Value} (h : isBase v = true) : absV W v = v := by
  unfold absV
  split
  · simp [isBase] at h
  · rw [if_pos h]
theorem absV_map (W : World) : ∀ l : List Value, VRs (mirE W) (l.map (absV W)) l
  | [] => .nil
  | v :: r => .cons _ _ _ _ (absV_vr W v) (absV_map W r)
theorem absV_bases {W : World} : ∀ {l : List Value}, l.all isBase = true → l.map (absV W) = l
  | [], _ => rfl
  | v :: r, h => by
    simp only [List.all_cons, Bool.and_eq_true] at h
    rw [List.map_cons, absV_base h.1, absV_bases h.2]
noncomputable def mirB (W : World) (b : Nat) : Option Blk :=
  match W.heap[b]? with
  | some (.cells c elem _) => some ⟨elem, 0, true, c.toList.map (absV W)⟩
  | _ => none
noncomputable def mirror (W : World) : Heap := (List.range W.heap.size).map fun b => (b, mirB W b)
theorem hget_map {f : Nat → Option Blk} {k : Nat} : ∀ (l : List Nat), hget (l.map fun b => (b, f b)) k = if k ∈ l then f k else none
  | [] => rfl
  | b :: r => by
    simp only [List.map_cons, hget]
    by_cases e : b = k
    · subst e; simp
    · rw [if_neg e, hget_map r]
      simp [Ne.symm e]
theorem mir_get (W : World) (k : Nat) : hget (mirror W) k = mirB W k := by
  unfold mirror
  rw [hget_map]
  by_cases h : k < W.heap.size
  · rw [if_pos (List.mem_range.2 h)]
  · rw [if_neg (by simpa using h)]
    unfold mirB
    rw [Array.getElem?_eq_none (by omega)]
theorem mir_blk {W : World} {k : Nat} {blk : Blk} (h : hget (mirror W) k = some blk) : k < W.heap.size ∧ ∃ C fr, W.heap[k]? = some (.cells ⟨C⟩ blk.elem fr) ∧ blk.sz = 0 ∧ blk.cells = C.map (absV W) := by
  rw [mir_get] at h
  unfold mirB at h
  split at h
  · rename_i c elem fr hk
    cases h
    refine ⟨?_, c.toList, fr, hk, rfl, rfl⟩
    rcases Nat.lt_or_ge k W.heap.size with h | h
    · exact h
    · rw [Array.getElem?_eq_none h] at hk; cases hk
  · cases h
theorem mir_wr {W : World} {k : Nat} : ¬ wr (mirror W) k := fun ⟨blk, h1, h2⟩ => by
  obtain ⟨_, C, fr, _, h3, _⟩ := mir_blk h1
  exact h2 h3
theorem mir_rel (W : World) : Rel (mirE W) (mirror W) W := by
  refine ⟨fun k blk hk => ?_, fun k k' L L' _ b => absurd b mir_wr, fun k L h => ?_⟩
  · obtain ⟨h1, C, fr, h2, h3, h4⟩ := mir_blk hk
    refine ⟨⟨k, 0, []⟩, C, fr, by unfold mirE; rw [if_pos h1], by simpa using h2, fun h => absurd h3 h, by rw [h4]; exact absV_map W C, by simp, fun _ => rfl⟩
  · unfold mirE at h
    split at h
    · rename_i hk; cases h; exact hk
    · cases h
theorem mir_calls {P : Program} {f : Nat} {S : List Value → Heap → Nat → Option Out} (hS : SpecOK P f S) {W : World} {aargs args : List Value} {v : Value} (h : S aargs (mirror W) W.heap.size = some (v, [], 0))
    (ha : VRs (mirE W) aargs args) (hv : isBase v = true) :
    Calls P f ⟨args⟩ W fun e W' => e = .returned v ∧ W'.os = W.os ∧ W'.output = W.output ∧ ∀ b, b < W.heap.size → W'.heap[b]? = W.heap[b]? := by
  have h := hS.ok aargs (mirror W) W.heap.size (v, [], 0) h (mirE W) W args ha (mir_rel W) (fun k h1 h2 => by simp only at h2; omega)
    ⟨W.heap.size, fun k hk => by
      rcases Nat.lt_or_ge k W.heap.size with h | h
      · exact h
      · exact absurd (by unfold mirE; rw [if_neg (by omega)]) hk⟩
  refine h.mono ?_
  rintro e W' ⟨β', v', he, hvr, hrel, hfr, _⟩
  exact ⟨by rw [he, hvr.base_left hv], hfr.os, hfr.out, fun b hb => hfr.keep b hb (fun k L hk => absurd hk mir_wr)⟩
theorem kept_of {W W' : World} (h1 : W'.os = W.os) (h2 : W'.output = W.output) (h3 : ∀ b, b < W.heap.size → W'.heap[b]? = W.heap[b]?) : W.keptBut W' (fun _ => False) := by
  refine ⟨h1, h2, fun i hi => ?_⟩
  rw [h3 i hi]
  cases W.heap[i]? with
  | none => rfl
  | some o =>
    cases o with
    | cells c t fr => exact ⟨rfl, rfl, rfl, fun _ _ => rfl⟩
    | map es cl => exact .inr ⟨rfl, rfl⟩
    | _ => rfl
section
variable {H : Type} {enc : TypeId × Value → H} {P : Program}
theorem trodAll_old {W W' : World} (hs : ∀ b, b < W.heap.size → W'.heap[b]? = W.heap[b]?) {base : Nat} {sp : Nat → Bool} {held : Bool} :
    ∀ {ts : List TypeId} {vs : List Value} {ds : List (DataW H)} {ps : List MemPlace}, DataW.TrodAll enc P W base sp held ts vs ds ps → DataW.TrodAll enc P W' base sp held ts vs ds ps
  | [], [], [], _, h => h
  | t :: ts, v :: vs, d :: ds, ps, ⟨p, q, ⟨n, h1⟩, h2, e⟩ => by
    have lt := DataW.trod_lt n _ _ _ h1
    refine ⟨p, q, ⟨n, DataW.trod_carry n _ _ _ h1 (fun x hx => ?_)⟩, trodAll_old hs h2, e⟩
    have hb := lt x hx
    cases x with
    | cell b off => simp only [MemPlace.block] at hb; simp only [World.sameAt, World.cell?, hs b hb]
    | map b => simp only [MemPlace.block] at hb; simp only [World.sameAt, hs b hb]
  | [], [], _ :: _, _, h => h.elim
  | [], _ :: _, _, _, h => by cases h
  | _ :: _, [], _, _, h => by cases h
  | _ :: _, _ :: _, [], _, h => by cases h
theorem args_again {W W' : World} (hl : laidOutB P = true) (hm : mapsRowed P = true) (hz : ((List.range P.types.size).all fun t => match P.underlying t with | some (.slice e) => decide (0 < P.cellsOf e) | _ => true) = true)
    (hs : ∀ b, b < W.heap.size → W'.heap[b]? = W.heap[b]?) {ts : List TypeId} (ht : ts.all (fun t => decide (t < P.types.size)) = true) {vs : List Value} {ds : List (DataW H)} {ps : List MemPlace} (h : DataW.TrodAll enc P W 0 (fun _ => true) true ts vs ds ps) :
    DataW.TrodAll enc P W' 0 (fun b => decide (b < W.heap.size)) true ts vs ds ps := by
  refine DataW.TrodAll.respare (kids_rows hl hm) (slices_full_of P hz) (fun t h => of_decide_eq_true (List.all_eq_true.1 ht t h)) (trodAll_old hs h) (fun p hp => ?_)
  exact decide_eq_true (DataW.TrodAll.lt h p hp)
theorem mir_at {W : World} {a : Addr} {n : Nat} {cs : List Value} (hn : 0 < n) (h : W.cells? 0 a n = some cs) :
    a.spot = none ∧ a.block < W.heap.size ∧ ∃ blk, hget (mirror W) a.block = some blk ∧ a.off + n ≤ blk.cells.length ∧ (blk.cells.drop a.off).take n = cs.map (absV W) := by
  obtain ⟨_, hlen, hc⟩ := World.cells?_some h
  have h0 := hc 0 hn
  rw [List.getElem?_eq_getElem (by omega)] at h0
  have e0 : a.add 0 = a := rfl
  rw [e0] at h0
  unfold World.cell? at h0
  split at h0
  case h_2 => cases h0
  rename_i c elem fr hk
  split at h0
  case isTrue => cases h0
  rename_i hsp
  have hspot : a.spot = none := by cases h : a.spot with | none => rfl | some s => rw [h] at hsp; simp at hsp
  have hlt : a.block < W.heap.size := by
    rcases Nat.lt_or_ge a.block W.heap.size with h | h
    · exact h
    · rw [Array.getElem?_eq_none h] at hk; cases hk
  have cell : ∀ i, i < n → c.toList[a.off + i]? = cs[i]? := fun i hi => by
    have := hc i hi
    rw [← this]
    have ea : a.add i = ⟨a.block, a.off + i, none⟩ := by
      unfold Addr.add
      split
      · rename_i h0; subst h0; cases a; simp_all
      · rfl
    rw [ea]
    simp only [World.cell?, hk]
    simp
  have hle : a.off + n ≤ c.toList.length := by
    have := cell (n - 1) (by omega)
    rw [List.getElem?_eq_getElem (by omega : n - 1 < cs.length)] at this
    have := (List.getElem?_eq_some_iff.1 this).1
    omega
  refine ⟨hspot, hlt, ⟨elem, 0, true, c.toList.map (absV W)⟩, ?_, by simpa using hle, ?_⟩
  · rw [mir_get]; unfold mirB; rw [hk]
  · refine List.ext_getElem? fun i => ?_
    rw [List.getElem?_take]
    by_cases hi : i < n
    · rw [if_pos hi, List.getElem?_drop, List.getElem?_map, List.getElem?_map, cell i hi]
    · rw [if_neg hi, List.getElem?_eq_none (by simp; omega)]
theorem many_ex {α : Type} {sz : Nat} {dec : List Value → Option α} : ∀ (l : Nat) (cs : List Value), (∀ i, i < l → ∃ x, dec ((cs.drop (i * sz)).take sz) = some x) → ∃ xs, many sz dec l cs = some xs
  | 0, cs, _ => ⟨[], rfl⟩
  | l + 1, cs, h => by
    obtain ⟨x, hx⟩ := h 0 (by omega)
    simp only [Nat.zero_mul, List.drop_zero] at hx
    obtain ⟨xs, hxs⟩ := many_ex l (cs.drop sz) (fun i hi => by
      obtain ⟨y, hy⟩ := h (i + 1) (by omega)
      refine ⟨y, ?_⟩
      rw [List.drop_drop, ← hy, Nat.succ_mul, Nat.add_comm (i * sz) sz])
    refine ⟨x :: xs, ?_⟩
    unfold many
    simp only [hx, hxs]
theorem mir_list {W : World} {α : Type} {dec : List Value → Option α} {t e : TypeId} {n fuel : Nat} {held : Bool} {sv : Value} {x : DataW H × List MemPlace} (ht : P.underlying t = some (.slice e)) (hsz : P.cellsOf e = n) (hn : 0 < n)
    (h : DataW.trod enc P W 0 (fun _ => true) held fuel t [sv] = some x)
    (hdec : ∀ (m : Nat) (cs : List Value) (y : DataW H × List MemPlace), DataW.trod enc P W 0 (fun _ => true) held m e cs = some y → ∃ z, dec (cs.map (absV W)) = some z) :
    ∃ xs, listAt n dec (mirror W) (absV W sv) = some xs ∧ xs.length ≤ maxLen := by
  rcases Go.Deep.open_slice ht h with ⟨h1, _⟩ | ⟨a, len, cap, m, k, D, Pl, h1, _, hl, hm, hmm, _, hx⟩
  · simp only [List.cons.injEq, and_true] at h1
    subst h1
    exact ⟨[], by rw [absV_base rfl]; rfl, by simp⟩
  · simp only [List.cons.injEq, and_true] at h1
    subst h1
    simp only [if_true] at hmm
    subst hmm
    rw [hsz] at hx
    by_cases h0 : len = 0
    · subst h0
      exact ⟨[], by unfold absV; simp only [if_true]; rfl, by simp⟩
    · obtain ⟨c0, hc0, _⟩ := hx 0 (by omega)
      rw [Nat.zero_mul] at hc0
      obtain ⟨s1, s2, blk, s3, _, _⟩ := mir_at hn hc0
      have ev : absV W (.slice (some a) len m) = .slice (some a) len m := by unfold absV; simp only; rw [if_neg h0, if_pos ⟨s1, s2⟩]
      obtain ⟨b, off, sp⟩ := a
      replace s1 : sp = none := s1
      replace s3 : hget (mirror W) b = some blk := s3
      subst s1
      have cell : ∀ i, i < len → ∃ cs, off + i * n + n ≤ blk.cells.length ∧ (blk.cells.drop (off + i * n)).take n = cs.map (absV W) ∧ ∃ y, DataW.trod enc P W 0 (fun _ => true) held k e cs = some y := fun i hi => by
        obtain ⟨cs, hc, hy⟩ := hx i (by omega)
        obtain ⟨q1, q2, blk', q3, q4, q5⟩ := mir_at hn hc
        have ea : (⟨b, off, none⟩ : Addr).add (i * n) = ⟨b, off + i * n, none⟩ := add_none _ _ _
        rw [ea] at q3 q4 q5
        replace q3 : hget (mirror W) b = some blk' := q3
        replace q4 : off + i * n + n ≤ blk'.cells.length := q4
        replace q5 : (blk'.cells.drop (off + i * n)).take n = cs.map (absV W) := q5
        rw [s3] at q3; cases q3
        exact ⟨cs, q4, q5, _, hy⟩
      have hle : off + len * n ≤ blk.cells.length := by
        obtain ⟨_, q, _⟩ := cell (len - 1) (by omega)
        obtain ⟨l', rfl⟩ : ∃ l', len = l' + 1 := ⟨len - 1, by omega⟩
        simp only [Nat.add_sub_cancel] at q
        rw [Nat.succ_mul]; omega
      have la : lay n (mirror W) (.slice (some ⟨b, off, none⟩) len m) = some ((blk.cells.drop off).take (len * n)) := by
        obtain ⟨l', rfl⟩ : ∃ l', len = l' + 1 := ⟨len - 1, by omega⟩
        unfold lay
        simp only [s3]
        rw [if_pos ⟨hl, hle⟩]
      obtain ⟨xs, hxs⟩ := many_ex (sz := n) (dec := dec) len ((blk.cells.drop off).take (len * n)) (fun i hi => by
        obtain ⟨cs, q1, q2, y, q3⟩ := cell i hi
        obtain ⟨z, hz⟩ := hdec k cs y q3
        refine ⟨z, ?_⟩
        rw [List.drop_take, List.take_take, List.drop_drop]
        have : n ≤ len * n - i * n := by rw [← Nat.sub_mul]; exact Nat.le_mul_of_pos_left _ (by omega)
        rw [Nat.min_eq_left this, q2]
        exact hz)
      refine ⟨xs, ?_, ?_⟩
      · rw [ev]
        unfold listAt
        rw [la]
        exact hxs
      · rw [(many_get hxs).1]; omega
theorem kmatch_base : ∀ {ks : List Ki} {cs : List Value}, kmatch ks cs → cs.all isBase = true
  | [], [], _ => rfl
  | .b :: ks, cs, h => by
    match cs, h with
    | .bool _ :: r, h => simp only [List.all_cons, isBase, Bool.true_and]; exact kmatch_base (ks := ks) h
  | .i k :: ks, cs, h => by
    match cs, h with
    | .int _ _ :: r, h => simp only [List.all_cons, isBase, Bool.true_and]; exact kmatch_base (ks := ks) h.2
  | .s :: ks, cs, h => by
    match cs, h with
    | .string _ :: r, h => simp only [List.all_cons, isBase, Bool.true_and]; exact kmatch_base (ks := ks) h.2
end
end Go.Eng.K
end
section
set_option linter.unusedVariables false
set_option linter.unusedSimpArgs false
set_option linter.unusedSectionVars false
namespace Go.Eng.K
open Go.Eng
section
variable {H : Type} {enc : TypeId × Value → H} {P : Program}
theorem trod_struct {w : World} {base : Nat} {spare : Nat → Bool} {held : Bool} {fuel : Nat} {t : TypeId} {cs : List Value} {x : DataW H × List MemPlace} {fs : Array Field} (hu : P.underlying t = some (.struct fs))
    (h : DataW.trod enc P w base spare held fuel t cs = some x) :
    cs.length = P.cellsOf t ∧ ∃ fuel' xs, fs.toList.mapM (fun f => DataW.trod enc P w base spare held fuel' f.type ((cs.drop f.offset).take (P.cellsOf f.type))) = some xs ∧ x = (.agg (xs.map (·.1)), xs.flatMap (·.2)) := by
  cases fuel with
  | zero => simp [DataW.trod] at h
  | succ fuel =>
    unfold DataW.trod at h
    rw [hu] at h
    simp only at h
    split at h
    case isFalse => cases h
    rename_i hl
    rw [Option.map_eq_some_iff] at h
    obtain ⟨xs, hx, rfl⟩ := h
    exact ⟨hl, fuel, xs, hx, rfl⟩
theorem km_pt {cs : List Value} (h : kmatch [.b, .s, .b, .s, .b, .s, .b, .s] cs) : ∃ p : Pt, cs = p.cells := by
  match cs, h with
  | [.bool s1, .string ⟨⟨l1⟩⟩, .bool s2, .string ⟨⟨l2⟩⟩, .bool s3, .string ⟨⟨l3⟩⟩, .bool s4, .string ⟨⟨l4⟩⟩], _ => exact ⟨⟨s1, l1, s2, l2, s3, l3, s4, l4⟩, rfl⟩
theorem drop8 {l : List Value} (h : l.length = 9) : ∃ x, l = l.take 8 ++ [x] ∧ (l.drop 8).take 1 = [x] := by
  match l, h with
  | [a, b, c, d, e, f, g, i, j], _ => exact ⟨j, rfl, rfl⟩
theorem open_poly {W : World} {t tp tv te : TypeId} {n1 n2 g1 g2 q1 q2 : String} {b1 b2 b1' b2' : _} {v : Value} {d : DataW H} {ps : List MemPlace} (hu : P.underlying t = some (.struct #[⟨n1, tp, 0, b1, g1, q1, b1'⟩, ⟨n2, tv, 8, b2, g2, q2, b2'⟩]))
    (hk : kiTy P 20 tp = some [.b, .s, .b, .s, .b, .s, .b, .s]) (hsz : szOf P tp = some 8) (hc : P.cellsOf t = 9) (hv : P.underlying tv = some (.slice te)) (hcv : P.cellsOf tv = 1)
    (he : kiTy P 20 te = some [.b, .s, .b, .s, .b, .s, .b, .s]) (hse : szOf P te = some 8) (h : DataW.Trod enc P W 0 (fun _ => true) true t v d ps) :
    ∃ (p : Pt) (sv : Value) (l : List Pt), v = .agg ⟨p.cells ++ [sv]⟩ ∧ listAt 8 decP (mirror W) (absV W sv) = some l ∧ l.length ≤ maxLen := by
  obtain ⟨fuel, h⟩ := h
  obtain ⟨hl, fuel', xs, hx, _⟩ := trod_struct hu h
  rw [hc] at hl
  simp only [List.mapM_cons, List.mapM_nil, Option.bind_eq_bind, Option.bind_eq_some_iff, Option.pure_def, Option.some.injEq] at hx
  obtain ⟨y, hy, ys, ⟨z, hz, _⟩, _⟩ := hx
  have e8 : P.cellsOf tp = 8 := cellsOf_sz hsz
  rw [e8, List.drop_zero] at hy
  rw [hcv] at hz
  obtain ⟨x, ex, ex1⟩ := drop8 hl
  rw [ex1] at hz
  obtain ⟨km, _, _⟩ := plain_ty fuel' 20 tp _ 8 hk hsz rfl W 0 _ true _ y hy
  obtain ⟨p, ep⟩ := km_pt km
  rw [ep] at ex
  obtain ⟨l, hl1, hl2⟩ := mir_list (dec := decP) (n := 8) hv (cellsOf_sz hse) (by omega) hz (fun m cs y hy => by
    obtain ⟨km, _, _⟩ := plain_ty m 20 te _ 8 he hse rfl W 0 _ true _ y hy
    obtain ⟨q, eq⟩ := km_pt km
    rw [absV_bases (kmatch_base km), eq]
    exact ⟨q, rfl⟩)
  exact ⟨p, x, l, agg_of ex (by simp [Pt.cells]), hl1, hl2⟩
def strSum : List Value → Nat
  | [] => 0
  | .string s :: r => s.size + strSum r
  | _ :: r => strSum r
theorem strSum_append : ∀ a b : List Value, strSum (a ++ b) = strSum a + strSum b
  | [], b => by simp [strSum]
  | v :: a, b => by
    have := strSum_append a b
    cases v <;> simp only [List.cons_append, strSum, this] <;> omega
def sumL : List Nat → Nat
  | [] => 0
  | x :: r => x + sumL r
variable (bulk : DataW H → Nat) (b1 : ∀ b : List UInt8, b.length ≤ bulk (.lit (.string b))) (b2 : ∀ ps : List (DataW H), sumL (ps.map bulk) ≤ bulk (.agg ps))
theorem bulk_fields {fuel : Nat} {ty : TypeId → Option (List Ki)} (hty : ∀ (t : TypeId) (ks : List Ki) (n : Nat), ty t = some ks → szOf P t = some n → ks.length = n → ∀ (w : World) (base : Nat) (spare : Nat → Bool) (held : Bool) (cs : List Value) (x : DataW H × List MemPlace), DataW.trod enc P w base spare held fuel t cs = some x → strSum cs ≤ bulk x.1) :
    ∀ (fs : List Field) (off : Nat) (ks : List Ki), kiFs ty P fs off = some ks → ∀ (w : World) (base : Nat) (spare : Nat → Bool) (held : Bool) (cs : List Value) (xs : List (DataW H × List MemPlace)),
      (fs.mapM fun f => DataW.trod enc P w base spare held fuel f.type ((cs.drop f.offset).take (P.cellsOf f.type))) = some xs → cs.length = off + ks.length →
      strSum (cs.drop off) ≤ sumL ((xs.map (·.1)).map bulk)
  | [], off, ks, h, w, base, spare, held, cs, xs, hm, hl => by
    simp only [kiFs, Option.some.injEq] at h
    subst h
    simp only [List.length_nil, Nat.add_zero] at hl
    rw [List.drop_eq_nil_of_le (by omega)]
    exact Nat.zero_le _
  | f :: r, off, ks, h, w, base, spare, held, cs, xs, hm, hl => by
    simp only [kiFs] at h
    split at h
    case isFalse => cases h
    rename_i hc
    obtain ⟨_, hoff⟩ := hc
    split at h
    case h_2 => cases h
    rename_i ks0 n hk hn
    split at h
    case isFalse => cases h
    rename_i hlen
    rw [Option.map_eq_some_iff] at h
    obtain ⟨ks1, h1, rfl⟩ := h
    have hsz := cellsOf_sz hn
    simp only [List.mapM_cons, Option.bind_eq_bind, Option.bind_eq_some_iff, Option.pure_def, Option.some.injEq] at hm
    obtain ⟨y, hy, ys, hys, rfl⟩ := hm
    have hp := hty f.type ks0 n hk hn hlen w base spare held _ y hy
    simp only [List.length_append] at hl
    have q1 := bulk_fields hty r (off + n) ks1 h1 w base spare held cs ys hys (by omega)
    rw [hoff, hsz] at hp
    have e : cs.drop off = (cs.drop off).take n ++ cs.drop (off + n) := by
      rw [← List.drop_drop, List.take_append_drop]
    rw [e, strSum_append]
    simp only [List.map_cons, sumL]
    omega
theorem bulk_elems {fuel : Nat} {e : TypeId} {ks : List Ki} {n : Nat} (hn : szOf P e = some n) (hl : ks.length = n) (he : ∀ (w : World) (base : Nat) (spare : Nat → Bool) (held : Bool) (cs : List Value) (x : DataW H × List MemPlace), DataW.trod enc P w base spare held fuel e cs = some x → strSum cs ≤ bulk x.1) :
    ∀ (m i0 : Nat) (w : World) (base : Nat) (spare : Nat → Bool) (held : Bool) (cs : List Value) (xs : List (DataW H × List MemPlace)),
      ((List.range' i0 m).mapM fun i => DataW.trod enc P w base spare held fuel e ((cs.drop (i * P.cellsOf e)).take (P.cellsOf e))) = some xs → cs.length = (i0 + m) * n →
      strSum (cs.drop (i0 * n)) ≤ sumL ((xs.map (·.1)).map bulk)
  | 0, i0, w, base, spare, held, cs, xs, hm, hlen => by
    simp only [Nat.add_zero] at hlen
    rw [List.drop_eq_nil_of_le (by omega)]
    exact Nat.zero_le _
  | m + 1, i0, w, base, spare, held, cs, xs, hm, hlen => by
    have hsz := cellsOf_sz hn
    simp only [List.range'_succ, List.mapM_cons, Option.bind_eq_bind, Option.bind_eq_some_iff, Option.pure_def, Option.some.injEq] at hm
    obtain ⟨y, hy, ys, hys, rfl⟩ := hm
    have p1 := he w base spare held _ y hy
    have q1 := bulk_elems hn hl he m (i0 + 1) w base spare held cs ys hys (by rw [hlen]; congr 1; omega)
    rw [hsz] at p1
    have e : cs.drop (i0 * n) = (cs.drop (i0 * n)).take n ++ cs.drop ((i0 + 1) * n) := by
      rw [Nat.succ_mul, ← List.drop_drop, List.take_append_drop]
    rw [e, strSum_append]
    simp only [List.map_cons, sumL]
    omega
include b1 b2 in
theorem bulk_ty : ∀ (fuel d : Nat) (t : TypeId) (ks : List Ki) (n : Nat), kiTy P d t = some ks → szOf P t = some n → ks.length = n →
    ∀ (w : World) (base : Nat) (spare : Nat → Bool) (held : Bool) (cs : List Value) (x : DataW H × List MemPlace), DataW.trod enc P w base spare held fuel t cs = some x → strSum cs ≤ bulk x.1
  | 0, d, t, ks, n, h, hn, hl => by intro w base spare held cs x hx; simp [DataW.trod] at hx
  | fuel + 1, 0, t, ks, n, h, hn, hl => by simp [kiTy] at h
  | fuel + 1, d + 1, t, ks, n, h, hn, hl => by
    intro w base spare held cs x hx
    unfold kiTy at h
    unfold DataW.trod at hx
    split at h
    · rename_i hu
      rw [hu] at hx
      match cs, hx with
      | [.bool b], hx => exact Nat.zero_le _
    · rename_i k hu
      rw [hu] at hx
      match cs, hx with
      | [.int k' m], hx => exact Nat.zero_le _
    · rename_i hu
      rw [hu] at hx
      match cs, hx with
      | [.string s], hx =>
        simp only at hx
        split at hx
        · simp only [Option.some.injEq] at hx; subst hx
          exact Nat.le_trans (by simp [strSum]) (b1 _)
        · cases hx
    · rename_i fs hu
      split at h
      · cases h
      rw [hu] at hx
      simp only at hx
      split at hx
      case isFalse => cases hx
      rename_i hlen
      rw [Option.map_eq_some_iff] at hx
      obtain ⟨xs, hxs, rfl⟩ := hx
      rw [cellsOf_sz hn, ← hl] at hlen
      have p1 := bulk_fields bulk (fuel := fuel) (fun t ks n h1 h2 h3 => bulk_ty fuel d t ks n h1 h2 h3) fs.toList 0 ks h w base spare held cs xs hxs (by omega)
      exact Nat.le_trans (by simpa using p1) (b2 _)
    · rename_i len e hu
      split at h
      case h_2 => cases h
      rename_i ks0 m hk hm
      split at h
      case isFalse => cases h
      rename_i hlm
      simp only [Option.some.injEq] at h
      subst h
      rw [hu] at hx
      simp only at hx
      split at hx
      case isFalse => cases hx
      rename_i hlen
      rw [Option.map_eq_some_iff] at hx
      obtain ⟨xs, hxs, rfl⟩ := hx
      rw [cellsOf_sz hn, ← hl] at hlen
      rw [List.range_eq_range'] at hxs
      have hfl : ((List.replicate len ks0).flatten).length = len * m := by rw [List.length_flatten]; simp [hlm]
      have p1 := bulk_elems bulk hm hlm (bulk_ty fuel d e ks0 m hk hm hlm) len 0 w base spare held cs xs hxs (by rw [hlen, hfl, Nat.zero_add])
      exact Nat.le_trans (by simpa using p1) (b2 _)
    · cases h
include b1 b2 in
theorem trod_bulk {w : World} {t : TypeId} {v : Value} {d : DataW H} {ps : List MemPlace} {ks : List Ki} {n : Nat} {base : Nat} {spare : Nat → Bool} {held : Bool}
    (hf : kiTy P 20 t = some ks) (hs : szOf P t = some n) (hl : ks.length = n) (h : DataW.Trod enc P w base spare held t v d ps) : strSum v.cells.toList ≤ bulk d := by
  obtain ⟨fuel, h⟩ := h
  exact bulk_ty bulk b1 b2 fuel 20 t ks n hf hs hl w base spare held _ _ h
theorem pt_sum {p : Pt} {k : Nat} (h : strSum p.cells ≤ k) : p.sz k := by
  simp only [Pt.cells, strSum, ByteArray.size, List.size_toArray] at h
  exact ⟨by omega, by omega, by omega, by omega⟩
end
end Go.Eng.K
end
