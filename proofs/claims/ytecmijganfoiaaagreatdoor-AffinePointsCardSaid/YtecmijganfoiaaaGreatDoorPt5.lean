/-
  A part of the proof: the machine, the contracts of the functions and the plain laws, merged from smaller texts.
-/
import Derived.Test.YtecmijganfoiaaaGreatDoorPt4
import Derived.RowKit3
import Derived.ChangeSame
section
set_option linter.unusedVariables false
set_option linter.unusedSimpArgs false
set_option linter.unusedSectionVars false
set_option maxRecDepth 20000
namespace Go.Eng
open Go Go.Proofs Go.IntWalk
theorem mset0 (f : Nat → Rat) (x : Rat) : setR (mE f) 0 (rE x) = mE (upd f 0 x) := mE_set f x 0 (by decide)
theorem mset1 (f : Nat → Rat) (x : Rat) : setR (mE f) 3 (rE x) = mE (upd f 1 x) := mE_set f x 1 (by decide)
theorem mset2 (f : Nat → Rat) (x : Rat) : setR (mE f) 6 (rE x) = mE (upd f 2 x) := mE_set f x 2 (by decide)
theorem mset3 (f : Nat → Rat) (x : Rat) : setR (mE f) 9 (rE x) = mE (upd f 3 x) := mE_set f x 3 (by decide)
theorem mset4 (f : Nat → Rat) (x : Rat) : setR (mE f) 12 (rE x) = mE (upd f 4 x) := mE_set f x 4 (by decide)
theorem mset5 (f : Nat → Rat) (x : Rat) : setR (mE f) 15 (rE x) = mE (upd f 5 x) := mE_set f x 5 (by decide)
theorem mset6 (f : Nat → Rat) (x : Rat) : setR (mE f) 18 (rE x) = mE (upd f 6 x) := mE_set f x 6 (by decide)
theorem mset7 (f : Nat → Rat) (x : Rat) : setR (mE f) 21 (rE x) = mE (upd f 7 x) := mE_set f x 7 (by decide)
theorem mset8 (f : Nat → Rat) (x : Rat) : setR (mE f) 24 (rE x) = mE (upd f 8 x) := mE_set f x 8 (by decide)
theorem mset9 (f : Nat → Rat) (x : Rat) : setR (mE f) 27 (rE x) = mE (upd f 9 x) := mE_set f x 9 (by decide)
theorem mset10 (f : Nat → Rat) (x : Rat) : setR (mE f) 30 (rE x) = mE (upd f 10 x) := mE_set f x 10 (by decide)
theorem mset11 (f : Nat → Rat) (x : Rat) : setR (mE f) 33 (rE x) = mE (upd f 11 x) := mE_set f x 11 (by decide)
theorem comp_row (f g : Nat → Rat) (i k : Nat) (hi : i < 3) (hk : k < 4) : compM f g (4 * i + k) = (if k = 3 then f (4 * i + 3) else 0) + f (4 * i + 0) * g k + f (4 * i + 1) * g (4 + k) + f (4 * i + 2) * g (8 + k) := by
  unfold compM
  rw [show (4 * i + k) / 4 = i by omega, show (4 * i + k) % 4 = k by omega]
  simp only [dotN, atM, hi, if_true, show (0 : Nat) < 3 from by decide, show (1 : Nat) < 3 from by decide, show (2 : Nat) < 3 from by decide, show ¬ ((3 : Nat) < 3) from by decide, if_false, Nat.mul_zero, Nat.zero_add, Nat.mul_one, Nat.reduceMul]
  split <;> grind
def spR7After : List Value → Option Value
  | [.agg ⟨cs⟩, .agg ⟨ds⟩] => match mapOf cs, mapOf ds with
    | some p, some q => if mapOk 1048576 p ∧ mapOk 1048576 q then some (.agg ⟨mE (compM (fun i => (p i).v) (fun i => (q i).v))⟩) else none
    | _, _ => none
  | _ => none
def c34 : ICode :=
  (.seq (.reg [qq 2 (.box 29 36 (.t 0)), qq 3 (.box 29 36 (.t 1)), qq 4 (.alloc 29 36 [(.bool false), e0, e0, (.bool false), e0, e0, (.bool false), e0, e0, (.bool false), e0, e0, (.bool false), e0, e0, (.bool false), e0, e0, (.bool false), e0, e0, (.bool false), e0, e0, (.bool false), e0, e0, (.bool false), e0, e0, (.bool false), e0, e0, (.bool false), e0, e0])]) (.seq (.reg [qq 10 (.build [(.bool false), e0, e0, (.bool false), e0, e0, (.bool false), e0, e0, (.bool false), e0, e0, (.bool false), e0, e0, (.bool false), e0, e0, (.bool false), e0, e0, (.bool false), e0, e0, (.bool false), e0, e0, (.bool false), e0, e0, (.bool false), e0, e0, (.bool false), e0, e0] []), qq 5 (.alloc 29 36 [(.bool false), e0, e0, (.bool false), e0, e0, (.bool false), e0, e0, (.bool false), e0, e0, (.bool false), e0, e0, (.bool false), e0, e0, (.bool false), e0, e0, (.bool false), e0, e0, (.bool false), e0, e0, (.bool false), e0, e0, (.bool false), e0, e0, (.bool false), e0, e0]), qn (.store 36 (.t 5) (.t 10))]) (.seq (.seq (.reg [qq 6 (.mv (ci 0))]) (.block 0 (.loop (.seq (.seq (.reg [qq 11 (.mv (.t 6)), qq 12 (.bin .lss (.t 11) (ci 3))]) (.cond (.t 12) .skip (.exit 0))) (.seq (.block 1 (.seq (.reg [qq 7 (.mv (ci 0))]) (.block 2 (.loop (.seq (.seq (.reg [qq 15 (.mv (.t 7)), qq 16 (.bin .lss (.t 15) (ci 4))]) (.cond (.t 16) .skip (.exit 2))) (.seq (.block 3 (.seq (.reg [qq 19 (.call 44 [(ci 0)]), qq 8 (.alloc 23 3 [(.bool false), e0, e0]), qn (.store 3 (.t 8) (.t 19))]) (.seq (.seq (.reg [qq 20 (.mv (.t 7)), qq 21 (.bin .eql (.t 20) (ci 3))]) (.cond (.t 21) (.reg [qq 22 (.mv (.t 6)), qq 23 (.bin .mul (ci 4) (.t 22)), qq 24 (.bin .add (.t 23) (ci 3)), qq 25 (.ixarr 12 3 (.t 2) (.t 24)), qq 26 (.load true 3 (.t 25)), qq 27 (.call 47 [(.t 26)]), qn (.store 3 (.t 8) (.t 27))]) .skip)) (.seq (.seq (.reg [qq 9 (.mv (ci 0))]) (.block 4 (.loop (.seq (.seq (.reg [qq 28 (.mv (.t 9)), qq 29 (.bin .lss (.t 28) (ci 3))]) (.cond (.t 29) .skip (.exit 4))) (.seq (.block 5 (.dreg [qu 32 (.load true 3 (.t 8)), qu 33 (.mv (.t 6)), qu 34 (.bin .mul (ci 4) (.t 33)), qu 35 (.mv (.t 9)), qu 36 (.bin .add (.t 34) (.t 35)), qu 37 (.ixarr 12 3 (.t 2) (.t 36)), qu 38 (.load true 3 (.t 37)), qu 39 (.mv (.t 9)), qu 40 (.bin .mul (ci 4) (.t 39)), qu 41 (.mv (.t 7)), qu 42 (.bin .add (.t 40) (.t 41)), qu 43 (.ixarr 12 3 (.t 3) (.t 42)), qu 44 (.load true 3 (.t 43)), qu 45 (.call 85 [(.t 38), (.t 44)]), qu 46 (.call 84 [(.t 32), (.t 45)]), qm (.store 3 (.t 8) (.t 46))])) (.reg [qq 30 (.mv (.t 9)), qq 31 (.bin .add (.t 30) (ci 1)), qq 9 (.mv (.t 31))])))))) (.reg [qq 47 (.mv (.t 6)), qq 48 (.bin .mul (ci 4) (.t 47)), qq 49 (.mv (.t 7)), qq 50 (.bin .add (.t 48) (.t 49)), qq 51 (.load true 3 (.t 8)), qq 52 (.ixarr 12 3 (.t 5) (.t 50)), qn (.store 3 (.t 52) (.t 51))]))))) (.reg [qq 17 (.mv (.t 7)), qq 18 (.bin .add (.t 17) (ci 1)), qq 7 (.mv (.t 18))]))))))) (.reg [qq 13 (.mv (.t 6)), qq 14 (.bin .add (.t 13) (ci 1)), qq 6 (.mv (.t 14))])))))) (.seq (.reg [qq 53 (.load true 36 (.t 5)), qn (.store 36 (.t 4) (.t 53))]) .ret))))
theorem tr34 : trFun Tryz.prog 34 = some ⟨54, [.cell 4 true 36], c34⟩ := by kernel_rfl
set_option maxHeartbeats 40000000 in
theorem ok_r7After : SpecOK Tryz.prog 34 (flat spR7After) := by
  refine flat_run (env_cons ok_r7num (env_cons ok_r3Norm (env_cons ok_r3Mul (env_cons ok_r3Add (env_nil _))))) mixed tr34 ?_
  intro args v h N hG
  unfold spR7After at hG
  split at hG
  case h_2 => cases hG
  rename_i cs ds
  split at hG
  case h_2 => cases hG
  rename_i p q hp hq
  split at hG
  case isFalse => cases hG
  rename_i hl
  obtain ⟨ho, ho'⟩ := hl
  cases hG
  obtain ⟨l1, hat, o1⟩ := mapOf_spec hp
  have hop := mapOk_iff.1 ho
  obtain ⟨l2, hat', o2⟩ := mapOf_spec hq
  have hop' := mapOk_iff.1 ho'
  have t1 : cs.take 36 = cs := List.take_of_length_le (by omega)
  have t2 : ds.take 36 = ds := List.take_of_length_le (by omega)
  refine ⟨mE_base (compM (fun i => (p i).v) (fun i => (q i).v)), by simp, ?_⟩
  have a0 := hat 0 (by omega)
  have q0 := RC.raw (hop 0 (by omega))
  have b0 := hat' 0 (by omega)
  have k0 := RC.raw (hop' 0 (by omega))
  have a1 := hat 1 (by omega)
  have q1 := RC.raw (hop 1 (by omega))
  have b1 := hat' 1 (by omega)
  have k1 := RC.raw (hop' 1 (by omega))
  have a2 := hat 2 (by omega)
  have q2 := RC.raw (hop 2 (by omega))
  have b2 := hat' 2 (by omega)
  have k2 := RC.raw (hop' 2 (by omega))
  have a3 := hat 3 (by omega)
  have q3 := RC.raw (hop 3 (by omega))
  have b3 := hat' 3 (by omega)
  have k3 := RC.raw (hop' 3 (by omega))
  have a4 := hat 4 (by omega)
  have q4 := RC.raw (hop 4 (by omega))
  have b4 := hat' 4 (by omega)
  have k4 := RC.raw (hop' 4 (by omega))
  have a5 := hat 5 (by omega)
  have q5 := RC.raw (hop 5 (by omega))
  have b5 := hat' 5 (by omega)
  have k5 := RC.raw (hop' 5 (by omega))
  have a6 := hat 6 (by omega)
  have q6 := RC.raw (hop 6 (by omega))
  have b6 := hat' 6 (by omega)
  have k6 := RC.raw (hop' 6 (by omega))
  have a7 := hat 7 (by omega)
  have q7 := RC.raw (hop 7 (by omega))
  have b7 := hat' 7 (by omega)
  have k7 := RC.raw (hop' 7 (by omega))
  have a8 := hat 8 (by omega)
  have q8 := RC.raw (hop 8 (by omega))
  have b8 := hat' 8 (by omega)
  have k8 := RC.raw (hop' 8 (by omega))
  have a9 := hat 9 (by omega)
  have q9 := RC.raw (hop 9 (by omega))
  have b9 := hat' 9 (by omega)
  have k9 := RC.raw (hop' 9 (by omega))
  have a10 := hat 10 (by omega)
  have q10 := RC.raw (hop 10 (by omega))
  have b10 := hat' 10 (by omega)
  have k10 := RC.raw (hop' 10 (by omega))
  have a11 := hat 11 (by omega)
  have q11 := RC.raw (hop 11 (by omega))
  have b11 := hat' 11 (by omega)
  have k11 := RC.raw (hop' 11 (by omega))
  simp only [Nat.reduceMul, Nat.zero_mul, List.drop_zero] at a0 b0 a1 b1 a2 b2 a3 b3 a4 b4 a5 b5 a6 b6 a7 b7 a8 b8 a9 b9 a10 b10 a11 b11
  obtain ⟨F0, eF0⟩ : ∃ z, (fun i => (p i).v) 0 = z := ⟨_, rfl⟩
  obtain ⟨H0, eH0⟩ : ∃ z, (fun i => (q i).v) 0 = z := ⟨_, rfl⟩
  obtain ⟨F1, eF1⟩ : ∃ z, (fun i => (p i).v) 1 = z := ⟨_, rfl⟩
  obtain ⟨H1, eH1⟩ : ∃ z, (fun i => (q i).v) 1 = z := ⟨_, rfl⟩
  obtain ⟨F2, eF2⟩ : ∃ z, (fun i => (p i).v) 2 = z := ⟨_, rfl⟩
  obtain ⟨H2, eH2⟩ : ∃ z, (fun i => (q i).v) 2 = z := ⟨_, rfl⟩
  obtain ⟨F3, eF3⟩ : ∃ z, (fun i => (p i).v) 3 = z := ⟨_, rfl⟩
  obtain ⟨H3, eH3⟩ : ∃ z, (fun i => (q i).v) 3 = z := ⟨_, rfl⟩
  obtain ⟨F4, eF4⟩ : ∃ z, (fun i => (p i).v) 4 = z := ⟨_, rfl⟩
  obtain ⟨H4, eH4⟩ : ∃ z, (fun i => (q i).v) 4 = z := ⟨_, rfl⟩
  obtain ⟨F5, eF5⟩ : ∃ z, (fun i => (p i).v) 5 = z := ⟨_, rfl⟩
  obtain ⟨H5, eH5⟩ : ∃ z, (fun i => (q i).v) 5 = z := ⟨_, rfl⟩
  obtain ⟨F6, eF6⟩ : ∃ z, (fun i => (p i).v) 6 = z := ⟨_, rfl⟩
  obtain ⟨H6, eH6⟩ : ∃ z, (fun i => (q i).v) 6 = z := ⟨_, rfl⟩
  obtain ⟨F7, eF7⟩ : ∃ z, (fun i => (p i).v) 7 = z := ⟨_, rfl⟩
  obtain ⟨H7, eH7⟩ : ∃ z, (fun i => (q i).v) 7 = z := ⟨_, rfl⟩
  obtain ⟨F8, eF8⟩ : ∃ z, (fun i => (p i).v) 8 = z := ⟨_, rfl⟩
  obtain ⟨H8, eH8⟩ : ∃ z, (fun i => (q i).v) 8 = z := ⟨_, rfl⟩
  obtain ⟨F9, eF9⟩ : ∃ z, (fun i => (p i).v) 9 = z := ⟨_, rfl⟩
  obtain ⟨H9, eH9⟩ : ∃ z, (fun i => (q i).v) 9 = z := ⟨_, rfl⟩
  obtain ⟨F10, eF10⟩ : ∃ z, (fun i => (p i).v) 10 = z := ⟨_, rfl⟩
  obtain ⟨H10, eH10⟩ : ∃ z, (fun i => (q i).v) 10 = z := ⟨_, rfl⟩
  obtain ⟨F11, eF11⟩ : ∃ z, (fun i => (p i).v) 11 = z := ⟨_, rfl⟩
  obtain ⟨H11, eH11⟩ : ∃ z, (fun i => (q i).v) 11 = z := ⟨_, rfl⟩
  generalize ef : (fun i => (p i).v) = f at *
  generalize eg : (fun i => (q i).v) = g at *
  replace q0 : RC (p 0).cells F0 1048576 := by rw [← eF0, ← ef]; exact q0
  replace k0 : RC (q 0).cells H0 1048576 := by rw [← eH0, ← eg]; exact k0
  replace q1 : RC (p 1).cells F1 1048576 := by rw [← eF1, ← ef]; exact q1
  replace k1 : RC (q 1).cells H1 1048576 := by rw [← eH1, ← eg]; exact k1
  replace q2 : RC (p 2).cells F2 1048576 := by rw [← eF2, ← ef]; exact q2
  replace k2 : RC (q 2).cells H2 1048576 := by rw [← eH2, ← eg]; exact k2
  replace q3 : RC (p 3).cells F3 1048576 := by rw [← eF3, ← ef]; exact q3
  replace k3 : RC (q 3).cells H3 1048576 := by rw [← eH3, ← eg]; exact k3
  replace q4 : RC (p 4).cells F4 1048576 := by rw [← eF4, ← ef]; exact q4
  replace k4 : RC (q 4).cells H4 1048576 := by rw [← eH4, ← eg]; exact k4
  replace q5 : RC (p 5).cells F5 1048576 := by rw [← eF5, ← ef]; exact q5
  replace k5 : RC (q 5).cells H5 1048576 := by rw [← eH5, ← eg]; exact k5
  replace q6 : RC (p 6).cells F6 1048576 := by rw [← eF6, ← ef]; exact q6
  replace k6 : RC (q 6).cells H6 1048576 := by rw [← eH6, ← eg]; exact k6
  replace q7 : RC (p 7).cells F7 1048576 := by rw [← eF7, ← ef]; exact q7
  replace k7 : RC (q 7).cells H7 1048576 := by rw [← eH7, ← eg]; exact k7
  replace q8 : RC (p 8).cells F8 1048576 := by rw [← eF8, ← ef]; exact q8
  replace k8 : RC (q 8).cells H8 1048576 := by rw [← eH8, ← eg]; exact k8
  replace q9 : RC (p 9).cells F9 1048576 := by rw [← eF9, ← ef]; exact q9
  replace k9 : RC (q 9).cells H9 1048576 := by rw [← eH9, ← eg]; exact k9
  replace q10 : RC (p 10).cells F10 1048576 := by rw [← eF10, ← ef]; exact q10
  replace k10 : RC (q 10).cells H10 1048576 := by rw [← eH10, ← eg]; exact k10
  replace q11 : RC (p 11).cells F11 1048576 := by rw [← eF11, ← ef]; exact q11
  replace k11 : RC (q 11).cells H11 1048576 := by rw [← eH11, ← eg]; exact k11
  clear hat hop hat' hop' ho ho' hp hq ef eg
  generalize p 0 = A0 at *
  generalize q 0 = B0 at *
  generalize p 1 = A1 at *
  generalize q 1 = B1 at *
  generalize p 2 = A2 at *
  generalize q 2 = B2 at *
  generalize p 3 = A3 at *
  generalize q 3 = B3 at *
  generalize p 4 = A4 at *
  generalize q 4 = B4 at *
  generalize p 5 = A5 at *
  generalize q 5 = B5 at *
  generalize p 6 = A6 at *
  generalize q 6 = B6 at *
  generalize p 7 = A7 at *
  generalize q 7 = B7 at *
  generalize p 8 = A8 at *
  generalize q 8 = B8 at *
  generalize p 9 = A9 at *
  generalize q 9 = B9 at *
  generalize p 10 = A10 at *
  generalize q 10 = B10 at *
  generalize p 11 = A11 at *
  generalize q 11 = B11 at *
  have n0 := q3.norm (by omega)
  have p000 := q0.mul k0 (by omega) (by omega)
  have r000 := q0.rb.mul k0.rb (k := 2097154) (by omega)
  have s000 := (RC.rE (RB.zero)).add (RC.rE r000) (by omega) (by omega)
  have t000 := RB.add (RB.zero) r000 (k := 2097156) (by omega)
  have p001 := q1.mul k4 (by omega) (by omega)
  have r001 := q1.rb.mul k4.rb (k := 2097154) (by omega)
  have s001 := (RC.rE (t000)).add (RC.rE r001) (by omega) (by omega)
  have t001 := RB.add (t000) r001 (k := 4194311) (by omega)
  have p002 := q2.mul k8 (by omega) (by omega)
  have r002 := q2.rb.mul k8.rb (k := 2097154) (by omega)
  have s002 := (RC.rE (t001)).add (RC.rE r002) (by omega) (by omega)
  have t002 := RB.add (t001) r002 (k := 6291466) (by omega)
  have p010 := q0.mul k1 (by omega) (by omega)
  have r010 := q0.rb.mul k1.rb (k := 2097154) (by omega)
  have s010 := (RC.rE (RB.zero)).add (RC.rE r010) (by omega) (by omega)
  have t010 := RB.add (RB.zero) r010 (k := 2097156) (by omega)
  have p011 := q1.mul k5 (by omega) (by omega)
  have r011 := q1.rb.mul k5.rb (k := 2097154) (by omega)
  have s011 := (RC.rE (t010)).add (RC.rE r011) (by omega) (by omega)
  have t011 := RB.add (t010) r011 (k := 4194311) (by omega)
  have p012 := q2.mul k9 (by omega) (by omega)
  have r012 := q2.rb.mul k9.rb (k := 2097154) (by omega)
  have s012 := (RC.rE (t011)).add (RC.rE r012) (by omega) (by omega)
  have t012 := RB.add (t011) r012 (k := 6291466) (by omega)
  have p020 := q0.mul k2 (by omega) (by omega)
  have r020 := q0.rb.mul k2.rb (k := 2097154) (by omega)
  have s020 := (RC.rE (RB.zero)).add (RC.rE r020) (by omega) (by omega)
  have t020 := RB.add (RB.zero) r020 (k := 2097156) (by omega)
  have p021 := q1.mul k6 (by omega) (by omega)
  have r021 := q1.rb.mul k6.rb (k := 2097154) (by omega)
  have s021 := (RC.rE (t020)).add (RC.rE r021) (by omega) (by omega)
  have t021 := RB.add (t020) r021 (k := 4194311) (by omega)
  have p022 := q2.mul k10 (by omega) (by omega)
  have r022 := q2.rb.mul k10.rb (k := 2097154) (by omega)
  have s022 := (RC.rE (t021)).add (RC.rE r022) (by omega) (by omega)
  have t022 := RB.add (t021) r022 (k := 6291466) (by omega)
  have p030 := q0.mul k3 (by omega) (by omega)
  have r030 := q0.rb.mul k3.rb (k := 2097154) (by omega)
  have s030 := (RC.rE (q3.rb)).add (RC.rE r030) (by omega) (by omega)
  have t030 := RB.add (q3.rb) r030 (k := 3145732) (by omega)
  have p031 := q1.mul k7 (by omega) (by omega)
  have r031 := q1.rb.mul k7.rb (k := 2097154) (by omega)
  have s031 := (RC.rE (t030)).add (RC.rE r031) (by omega) (by omega)
  have t031 := RB.add (t030) r031 (k := 5242887) (by omega)
  have p032 := q2.mul k11 (by omega) (by omega)
  have r032 := q2.rb.mul k11.rb (k := 2097154) (by omega)
  have s032 := (RC.rE (t031)).add (RC.rE r032) (by omega) (by omega)
  have t032 := RB.add (t031) r032 (k := 7340042) (by omega)
  have n1 := q7.norm (by omega)
  have p100 := q4.mul k0 (by omega) (by omega)
  have r100 := q4.rb.mul k0.rb (k := 2097154) (by omega)
  have s100 := (RC.rE (RB.zero)).add (RC.rE r100) (by omega) (by omega)
  have t100 := RB.add (RB.zero) r100 (k := 2097156) (by omega)
  have p101 := q5.mul k4 (by omega) (by omega)
  have r101 := q5.rb.mul k4.rb (k := 2097154) (by omega)
  have s101 := (RC.rE (t100)).add (RC.rE r101) (by omega) (by omega)
  have t101 := RB.add (t100) r101 (k := 4194311) (by omega)
  have p102 := q6.mul k8 (by omega) (by omega)
  have r102 := q6.rb.mul k8.rb (k := 2097154) (by omega)
  have s102 := (RC.rE (t101)).add (RC.rE r102) (by omega) (by omega)
  have t102 := RB.add (t101) r102 (k := 6291466) (by omega)
  have p110 := q4.mul k1 (by omega) (by omega)
  have r110 := q4.rb.mul k1.rb (k := 2097154) (by omega)
  have s110 := (RC.rE (RB.zero)).add (RC.rE r110) (by omega) (by omega)
  have t110 := RB.add (RB.zero) r110 (k := 2097156) (by omega)
  have p111 := q5.mul k5 (by omega) (by omega)
  have r111 := q5.rb.mul k5.rb (k := 2097154) (by omega)
  have s111 := (RC.rE (t110)).add (RC.rE r111) (by omega) (by omega)
  have t111 := RB.add (t110) r111 (k := 4194311) (by omega)
  have p112 := q6.mul k9 (by omega) (by omega)
  have r112 := q6.rb.mul k9.rb (k := 2097154) (by omega)
  have s112 := (RC.rE (t111)).add (RC.rE r112) (by omega) (by omega)
  have t112 := RB.add (t111) r112 (k := 6291466) (by omega)
  have p120 := q4.mul k2 (by omega) (by omega)
  have r120 := q4.rb.mul k2.rb (k := 2097154) (by omega)
  have s120 := (RC.rE (RB.zero)).add (RC.rE r120) (by omega) (by omega)
  have t120 := RB.add (RB.zero) r120 (k := 2097156) (by omega)
  have p121 := q5.mul k6 (by omega) (by omega)
  have r121 := q5.rb.mul k6.rb (k := 2097154) (by omega)
  have s121 := (RC.rE (t120)).add (RC.rE r121) (by omega) (by omega)
  have t121 := RB.add (t120) r121 (k := 4194311) (by omega)
  have p122 := q6.mul k10 (by omega) (by omega)
  have r122 := q6.rb.mul k10.rb (k := 2097154) (by omega)
  have s122 := (RC.rE (t121)).add (RC.rE r122) (by omega) (by omega)
  have t122 := RB.add (t121) r122 (k := 6291466) (by omega)
  have p130 := q4.mul k3 (by omega) (by omega)
  have r130 := q4.rb.mul k3.rb (k := 2097154) (by omega)
  have s130 := (RC.rE (q7.rb)).add (RC.rE r130) (by omega) (by omega)
  have t130 := RB.add (q7.rb) r130 (k := 3145732) (by omega)
  have p131 := q5.mul k7 (by omega) (by omega)
  have r131 := q5.rb.mul k7.rb (k := 2097154) (by omega)
  have s131 := (RC.rE (t130)).add (RC.rE r131) (by omega) (by omega)
  have t131 := RB.add (t130) r131 (k := 5242887) (by omega)
  have p132 := q6.mul k11 (by omega) (by omega)
  have r132 := q6.rb.mul k11.rb (k := 2097154) (by omega)
  have s132 := (RC.rE (t131)).add (RC.rE r132) (by omega) (by omega)
  have t132 := RB.add (t131) r132 (k := 7340042) (by omega)
  have n2 := q11.norm (by omega)
  have p200 := q8.mul k0 (by omega) (by omega)
  have r200 := q8.rb.mul k0.rb (k := 2097154) (by omega)
  have s200 := (RC.rE (RB.zero)).add (RC.rE r200) (by omega) (by omega)
  have t200 := RB.add (RB.zero) r200 (k := 2097156) (by omega)
  have p201 := q9.mul k4 (by omega) (by omega)
  have r201 := q9.rb.mul k4.rb (k := 2097154) (by omega)
  have s201 := (RC.rE (t200)).add (RC.rE r201) (by omega) (by omega)
  have t201 := RB.add (t200) r201 (k := 4194311) (by omega)
  have p202 := q10.mul k8 (by omega) (by omega)
  have r202 := q10.rb.mul k8.rb (k := 2097154) (by omega)
  have s202 := (RC.rE (t201)).add (RC.rE r202) (by omega) (by omega)
  have t202 := RB.add (t201) r202 (k := 6291466) (by omega)
  have p210 := q8.mul k1 (by omega) (by omega)
  have r210 := q8.rb.mul k1.rb (k := 2097154) (by omega)
  have s210 := (RC.rE (RB.zero)).add (RC.rE r210) (by omega) (by omega)
  have t210 := RB.add (RB.zero) r210 (k := 2097156) (by omega)
  have p211 := q9.mul k5 (by omega) (by omega)
  have r211 := q9.rb.mul k5.rb (k := 2097154) (by omega)
  have s211 := (RC.rE (t210)).add (RC.rE r211) (by omega) (by omega)
  have t211 := RB.add (t210) r211 (k := 4194311) (by omega)
  have p212 := q10.mul k9 (by omega) (by omega)
  have r212 := q10.rb.mul k9.rb (k := 2097154) (by omega)
  have s212 := (RC.rE (t211)).add (RC.rE r212) (by omega) (by omega)
  have t212 := RB.add (t211) r212 (k := 6291466) (by omega)
  have p220 := q8.mul k2 (by omega) (by omega)
  have r220 := q8.rb.mul k2.rb (k := 2097154) (by omega)
  have s220 := (RC.rE (RB.zero)).add (RC.rE r220) (by omega) (by omega)
  have t220 := RB.add (RB.zero) r220 (k := 2097156) (by omega)
  have p221 := q9.mul k6 (by omega) (by omega)
  have r221 := q9.rb.mul k6.rb (k := 2097154) (by omega)
  have s221 := (RC.rE (t220)).add (RC.rE r221) (by omega) (by omega)
  have t221 := RB.add (t220) r221 (k := 4194311) (by omega)
  have p222 := q10.mul k10 (by omega) (by omega)
  have r222 := q10.rb.mul k10.rb (k := 2097154) (by omega)
  have s222 := (RC.rE (t221)).add (RC.rE r222) (by omega) (by omega)
  have t222 := RB.add (t221) r222 (k := 6291466) (by omega)
  have p230 := q8.mul k3 (by omega) (by omega)
  have r230 := q8.rb.mul k3.rb (k := 2097154) (by omega)
  have s230 := (RC.rE (q11.rb)).add (RC.rE r230) (by omega) (by omega)
  have t230 := RB.add (q11.rb) r230 (k := 3145732) (by omega)
  have p231 := q9.mul k7 (by omega) (by omega)
  have r231 := q9.rb.mul k7.rb (k := 2097154) (by omega)
  have s231 := (RC.rE (t230)).add (RC.rE r231) (by omega) (by omega)
  have t231 := RB.add (t230) r231 (k := 5242887) (by omega)
  have p232 := q10.mul k11 (by omega) (by omega)
  have r232 := q10.rb.mul k11.rb (k := 2097154) (by omega)
  have s232 := (RC.rE (t231)).add (RC.rE r232) (by omega) (by omega)
  have t232 := RB.add (t231) r232 (k := 7340042) (by omega)
  have w0 : IntKind.i64.wrap 0 = 0 := i64_in _ (by omega)
  have w1 : IntKind.i64.wrap 1 = 1 := i64_in _ (by omega)
  have w2 : IntKind.i64.wrap 2 = 2 := i64_in _ (by omega)
  have w3 : IntKind.i64.wrap 3 = 3 := i64_in _ (by omega)
  have w4 : IntKind.i64.wrap 4 = 4 := i64_in _ (by omega)
  have w5 : IntKind.i64.wrap 5 = 5 := i64_in _ (by omega)
  have w6 : IntKind.i64.wrap 6 = 6 := i64_in _ (by omega)
  have w7 : IntKind.i64.wrap 7 = 7 := i64_in _ (by omega)
  have w8 : IntKind.i64.wrap 8 = 8 := i64_in _ (by omega)
  have w9 : IntKind.i64.wrap 9 = 9 := i64_in _ (by omega)
  have w10 : IntKind.i64.wrap 10 = 10 := i64_in _ (by omega)
  have w11 : IntKind.i64.wrap 11 = 11 := i64_in _ (by omega)
  have w12 : IntKind.i64.wrap 12 = 12 := i64_in _ (by omega)
  have ez := mE_zero
  have lz := mE_len
  have oz := mE_ok
  have tz : ∀ f, (mE f).take 36 = mE f := fun f => List.take_of_length_le (by rw [lz]; omega)
  have sz : ∀ f g, setR (mE f) 0 (mE g) = mE g := fun f g => setR_all (mE g) (mE f) (by rw [lz, lz])
  simp only [c34, G0, Nat.reduceAdd]
  simp only [↓R0, R1, simprocAttr, -Int.reduceAbs, ← ez, l1, t1, o1, l2, t2, o2, lz, oz, tz, sz]
  refine lp_step ?_
  simp only [↓R0, R1, simprocAttr, -Int.reduceAbs, setR_length, l1, o1, l2, o2, cells_len, rE_len, rE_ok, st3, st3', tk3, lz, oz, num0, w0, w1, w2, w3, w4, w5, w6, w7, w8, w9, w10, w11, w12, mset0, mset1, mset2, mset3, mset4, mset5, mset6, mset7, mset8, mset9, mset10, mset11]
  refine lp_step ?_
  simp only [↓R0, R1, simprocAttr, -Int.reduceAbs, setR_length, l1, o1, l2, o2, cells_len, rE_len, rE_ok, st3, st3', tk3, lz, oz, num0, w0, w1, w2, w3, w4, w5, w6, w7, w8, w9, w10, w11, w12, mset0, mset1, mset2, mset3, mset4, mset5, mset6, mset7, mset8, mset9, mset10, mset11]
  refine lp_step ?_
  simp only [↓R0, R1, simprocAttr, -Int.reduceAbs, setR_length, l1, o1, l2, o2, cells_len, rE_len, rE_ok, st3, st3', tk3, lz, oz, num0, w0, w1, w2, w3, w4, w5, w6, w7, w8, w9, w10, w11, w12, mset0, mset1, mset2, mset3, mset4, mset5, mset6, mset7, mset8, mset9, mset10, mset11, a0, b0, p000, s000]
  refine lp_step ?_
  simp only [↓R0, R1, simprocAttr, -Int.reduceAbs, setR_length, l1, o1, l2, o2, cells_len, rE_len, rE_ok, st3, st3', tk3, lz, oz, num0, w0, w1, w2, w3, w4, w5, w6, w7, w8, w9, w10, w11, w12, mset0, mset1, mset2, mset3, mset4, mset5, mset6, mset7, mset8, mset9, mset10, mset11, a1, b4, p001, s001]
  refine lp_step ?_
  simp only [↓R0, R1, simprocAttr, -Int.reduceAbs, setR_length, l1, o1, l2, o2, cells_len, rE_len, rE_ok, st3, st3', tk3, lz, oz, num0, w0, w1, w2, w3, w4, w5, w6, w7, w8, w9, w10, w11, w12, mset0, mset1, mset2, mset3, mset4, mset5, mset6, mset7, mset8, mset9, mset10, mset11, a2, b8, p002, s002]
  refine lp_step ?_
  simp only [↓R0, R1, simprocAttr, -Int.reduceAbs, setR_length, l1, o1, l2, o2, cells_len, rE_len, rE_ok, st3, st3', tk3, lz, oz, num0, w0, w1, w2, w3, w4, w5, w6, w7, w8, w9, w10, w11, w12, mset0, mset1, mset2, mset3, mset4, mset5, mset6, mset7, mset8, mset9, mset10, mset11]
  refine lp_step ?_
  simp only [↓R0, R1, simprocAttr, -Int.reduceAbs, setR_length, l1, o1, l2, o2, cells_len, rE_len, rE_ok, st3, st3', tk3, lz, oz, num0, w0, w1, w2, w3, w4, w5, w6, w7, w8, w9, w10, w11, w12, mset0, mset1, mset2, mset3, mset4, mset5, mset6, mset7, mset8, mset9, mset10, mset11]
  refine lp_step ?_
  simp only [↓R0, R1, simprocAttr, -Int.reduceAbs, setR_length, l1, o1, l2, o2, cells_len, rE_len, rE_ok, st3, st3', tk3, lz, oz, num0, w0, w1, w2, w3, w4, w5, w6, w7, w8, w9, w10, w11, w12, mset0, mset1, mset2, mset3, mset4, mset5, mset6, mset7, mset8, mset9, mset10, mset11, a0, b1, p010, s010]
  refine lp_step ?_
  simp only [↓R0, R1, simprocAttr, -Int.reduceAbs, setR_length, l1, o1, l2, o2, cells_len, rE_len, rE_ok, st3, st3', tk3, lz, oz, num0, w0, w1, w2, w3, w4, w5, w6, w7, w8, w9, w10, w11, w12, mset0, mset1, mset2, mset3, mset4, mset5, mset6, mset7, mset8, mset9, mset10, mset11, a1, b5, p011, s011]
  refine lp_step ?_
  simp only [↓R0, R1, simprocAttr, -Int.reduceAbs, setR_length, l1, o1, l2, o2, cells_len, rE_len, rE_ok, st3, st3', tk3, lz, oz, num0, w0, w1, w2, w3, w4, w5, w6, w7, w8, w9, w10, w11, w12, mset0, mset1, mset2, mset3, mset4, mset5, mset6, mset7, mset8, mset9, mset10, mset11, a2, b9, p012, s012]
  refine lp_step ?_
  simp only [↓R0, R1, simprocAttr, -Int.reduceAbs, setR_length, l1, o1, l2, o2, cells_len, rE_len, rE_ok, st3, st3', tk3, lz, oz, num0, w0, w1, w2, w3, w4, w5, w6, w7, w8, w9, w10, w11, w12, mset0, mset1, mset2, mset3, mset4, mset5, mset6, mset7, mset8, mset9, mset10, mset11]
  refine lp_step ?_
  simp only [↓R0, R1, simprocAttr, -Int.reduceAbs, setR_length, l1, o1, l2, o2, cells_len, rE_len, rE_ok, st3, st3', tk3, lz, oz, num0, w0, w1, w2, w3, w4, w5, w6, w7, w8, w9, w10, w11, w12, mset0, mset1, mset2, mset3, mset4, mset5, mset6, mset7, mset8, mset9, mset10, mset11]
  refine lp_step ?_
  simp only [↓R0, R1, simprocAttr, -Int.reduceAbs, setR_length, l1, o1, l2, o2, cells_len, rE_len, rE_ok, st3, st3', tk3, lz, oz, num0, w0, w1, w2, w3, w4, w5, w6, w7, w8, w9, w10, w11, w12, mset0, mset1, mset2, mset3, mset4, mset5, mset6, mset7, mset8, mset9, mset10, mset11, a0, b2, p020, s020]
  refine lp_step ?_
  simp only [↓R0, R1, simprocAttr, -Int.reduceAbs, setR_length, l1, o1, l2, o2, cells_len, rE_len, rE_ok, st3, st3', tk3, lz, oz, num0, w0, w1, w2, w3, w4, w5, w6, w7, w8, w9, w10, w11, w12, mset0, mset1, mset2, mset3, mset4, mset5, mset6, mset7, mset8, mset9, mset10, mset11, a1, b6, p021, s021]
  refine lp_step ?_
  simp only [↓R0, R1, simprocAttr, -Int.reduceAbs, setR_length, l1, o1, l2, o2, cells_len, rE_len, rE_ok, st3, st3', tk3, lz, oz, num0, w0, w1, w2, w3, w4, w5, w6, w7, w8, w9, w10, w11, w12, mset0, mset1, mset2, mset3, mset4, mset5, mset6, mset7, mset8, mset9, mset10, mset11, a2, b10, p022, s022]
  refine lp_step ?_
  simp only [↓R0, R1, simprocAttr, -Int.reduceAbs, setR_length, l1, o1, l2, o2, cells_len, rE_len, rE_ok, st3, st3', tk3, lz, oz, num0, w0, w1, w2, w3, w4, w5, w6, w7, w8, w9, w10, w11, w12, mset0, mset1, mset2, mset3, mset4, mset5, mset6, mset7, mset8, mset9, mset10, mset11]
  refine lp_step ?_
  simp only [↓R0, R1, simprocAttr, -Int.reduceAbs, setR_length, l1, o1, l2, o2, cells_len, rE_len, rE_ok, st3, st3', tk3, lz, oz, num0, w0, w1, w2, w3, w4, w5, w6, w7, w8, w9, w10, w11, w12, mset0, mset1, mset2, mset3, mset4, mset5, mset6, mset7, mset8, mset9, mset10, mset11, a3, n0]
  refine lp_step ?_
  simp only [↓R0, R1, simprocAttr, -Int.reduceAbs, setR_length, l1, o1, l2, o2, cells_len, rE_len, rE_ok, st3, st3', tk3, lz, oz, num0, w0, w1, w2, w3, w4, w5, w6, w7, w8, w9, w10, w11, w12, mset0, mset1, mset2, mset3, mset4, mset5, mset6, mset7, mset8, mset9, mset10, mset11, a0, b3, p030, s030]
  refine lp_step ?_
  simp only [↓R0, R1, simprocAttr, -Int.reduceAbs, setR_length, l1, o1, l2, o2, cells_len, rE_len, rE_ok, st3, st3', tk3, lz, oz, num0, w0, w1, w2, w3, w4, w5, w6, w7, w8, w9, w10, w11, w12, mset0, mset1, mset2, mset3, mset4, mset5, mset6, mset7, mset8, mset9, mset10, mset11, a1, b7, p031, s031]
  refine lp_step ?_
  simp only [↓R0, R1, simprocAttr, -Int.reduceAbs, setR_length, l1, o1, l2, o2, cells_len, rE_len, rE_ok, st3, st3', tk3, lz, oz, num0, w0, w1, w2, w3, w4, w5, w6, w7, w8, w9, w10, w11, w12, mset0, mset1, mset2, mset3, mset4, mset5, mset6, mset7, mset8, mset9, mset10, mset11, a2, b11, p032, s032]
  refine lp_step ?_
  simp only [↓R0, R1, simprocAttr, -Int.reduceAbs, setR_length, l1, o1, l2, o2, cells_len, rE_len, rE_ok, st3, st3', tk3, lz, oz, num0, w0, w1, w2, w3, w4, w5, w6, w7, w8, w9, w10, w11, w12, mset0, mset1, mset2, mset3, mset4, mset5, mset6, mset7, mset8, mset9, mset10, mset11]
  refine lp_step ?_
  simp only [↓R0, R1, simprocAttr, -Int.reduceAbs, setR_length, l1, o1, l2, o2, cells_len, rE_len, rE_ok, st3, st3', tk3, lz, oz, num0, w0, w1, w2, w3, w4, w5, w6, w7, w8, w9, w10, w11, w12, mset0, mset1, mset2, mset3, mset4, mset5, mset6, mset7, mset8, mset9, mset10, mset11]
  refine lp_step ?_
  simp only [↓R0, R1, simprocAttr, -Int.reduceAbs, setR_length, l1, o1, l2, o2, cells_len, rE_len, rE_ok, st3, st3', tk3, lz, oz, num0, w0, w1, w2, w3, w4, w5, w6, w7, w8, w9, w10, w11, w12, mset0, mset1, mset2, mset3, mset4, mset5, mset6, mset7, mset8, mset9, mset10, mset11]
  refine lp_step ?_
  simp only [↓R0, R1, simprocAttr, -Int.reduceAbs, setR_length, l1, o1, l2, o2, cells_len, rE_len, rE_ok, st3, st3', tk3, lz, oz, num0, w0, w1, w2, w3, w4, w5, w6, w7, w8, w9, w10, w11, w12, mset0, mset1, mset2, mset3, mset4, mset5, mset6, mset7, mset8, mset9, mset10, mset11]
  refine lp_step ?_
  simp only [↓R0, R1, simprocAttr, -Int.reduceAbs, setR_length, l1, o1, l2, o2, cells_len, rE_len, rE_ok, st3, st3', tk3, lz, oz, num0, w0, w1, w2, w3, w4, w5, w6, w7, w8, w9, w10, w11, w12, mset0, mset1, mset2, mset3, mset4, mset5, mset6, mset7, mset8, mset9, mset10, mset11, a4, b0, p100, s100]
  refine lp_step ?_
  simp only [↓R0, R1, simprocAttr, -Int.reduceAbs, setR_length, l1, o1, l2, o2, cells_len, rE_len, rE_ok, st3, st3', tk3, lz, oz, num0, w0, w1, w2, w3, w4, w5, w6, w7, w8, w9, w10, w11, w12, mset0, mset1, mset2, mset3, mset4, mset5, mset6, mset7, mset8, mset9, mset10, mset11, a5, b4, p101, s101]
  refine lp_step ?_
  simp only [↓R0, R1, simprocAttr, -Int.reduceAbs, setR_length, l1, o1, l2, o2, cells_len, rE_len, rE_ok, st3, st3', tk3, lz, oz, num0, w0, w1, w2, w3, w4, w5, w6, w7, w8, w9, w10, w11, w12, mset0, mset1, mset2, mset3, mset4, mset5, mset6, mset7, mset8, mset9, mset10, mset11, a6, b8, p102, s102]
  refine lp_step ?_
  simp only [↓R0, R1, simprocAttr, -Int.reduceAbs, setR_length, l1, o1, l2, o2, cells_len, rE_len, rE_ok, st3, st3', tk3, lz, oz, num0, w0, w1, w2, w3, w4, w5, w6, w7, w8, w9, w10, w11, w12, mset0, mset1, mset2, mset3, mset4, mset5, mset6, mset7, mset8, mset9, mset10, mset11]
  refine lp_step ?_
  simp only [↓R0, R1, simprocAttr, -Int.reduceAbs, setR_length, l1, o1, l2, o2, cells_len, rE_len, rE_ok, st3, st3', tk3, lz, oz, num0, w0, w1, w2, w3, w4, w5, w6, w7, w8, w9, w10, w11, w12, mset0, mset1, mset2, mset3, mset4, mset5, mset6, mset7, mset8, mset9, mset10, mset11]
  refine lp_step ?_
  simp only [↓R0, R1, simprocAttr, -Int.reduceAbs, setR_length, l1, o1, l2, o2, cells_len, rE_len, rE_ok, st3, st3', tk3, lz, oz, num0, w0, w1, w2, w3, w4, w5, w6, w7, w8, w9, w10, w11, w12, mset0, mset1, mset2, mset3, mset4, mset5, mset6, mset7, mset8, mset9, mset10, mset11, a4, b1, p110, s110]
  refine lp_step ?_
  simp only [↓R0, R1, simprocAttr, -Int.reduceAbs, setR_length, l1, o1, l2, o2, cells_len, rE_len, rE_ok, st3, st3', tk3, lz, oz, num0, w0, w1, w2, w3, w4, w5, w6, w7, w8, w9, w10, w11, w12, mset0, mset1, mset2, mset3, mset4, mset5, mset6, mset7, mset8, mset9, mset10, mset11, a5, b5, p111, s111]
  refine lp_step ?_
  simp only [↓R0, R1, simprocAttr, -Int.reduceAbs, setR_length, l1, o1, l2, o2, cells_len, rE_len, rE_ok, st3, st3', tk3, lz, oz, num0, w0, w1, w2, w3, w4, w5, w6, w7, w8, w9, w10, w11, w12, mset0, mset1, mset2, mset3, mset4, mset5, mset6, mset7, mset8, mset9, mset10, mset11, a6, b9, p112, s112]
  refine lp_step ?_
  simp only [↓R0, R1, simprocAttr, -Int.reduceAbs, setR_length, l1, o1, l2, o2, cells_len, rE_len, rE_ok, st3, st3', tk3, lz, oz, num0, w0, w1, w2, w3, w4, w5, w6, w7, w8, w9, w10, w11, w12, mset0, mset1, mset2, mset3, mset4, mset5, mset6, mset7, mset8, mset9, mset10, mset11]
  refine lp_step ?_
  simp only [↓R0, R1, simprocAttr, -Int.reduceAbs, setR_length, l1, o1, l2, o2, cells_len, rE_len, rE_ok, st3, st3', tk3, lz, oz, num0, w0, w1, w2, w3, w4, w5, w6, w7, w8, w9, w10, w11, w12, mset0, mset1, mset2, mset3, mset4, mset5, mset6, mset7, mset8, mset9, mset10, mset11]
  refine lp_step ?_
  simp only [↓R0, R1, simprocAttr, -Int.reduceAbs, setR_length, l1, o1, l2, o2, cells_len, rE_len, rE_ok, st3, st3', tk3, lz, oz, num0, w0, w1, w2, w3, w4, w5, w6, w7, w8, w9, w10, w11, w12, mset0, mset1, mset2, mset3, mset4, mset5, mset6, mset7, mset8, mset9, mset10, mset11, a4, b2, p120, s120]
  refine lp_step ?_
  simp only [↓R0, R1, simprocAttr, -Int.reduceAbs, setR_length, l1, o1, l2, o2, cells_len, rE_len, rE_ok, st3, st3', tk3, lz, oz, num0, w0, w1, w2, w3, w4, w5, w6, w7, w8, w9, w10, w11, w12, mset0, mset1, mset2, mset3, mset4, mset5, mset6, mset7, mset8, mset9, mset10, mset11, a5, b6, p121, s121]
  refine lp_step ?_
  simp only [↓R0, R1, simprocAttr, -Int.reduceAbs, setR_length, l1, o1, l2, o2, cells_len, rE_len, rE_ok, st3, st3', tk3, lz, oz, num0, w0, w1, w2, w3, w4, w5, w6, w7, w8, w9, w10, w11, w12, mset0, mset1, mset2, mset3, mset4, mset5, mset6, mset7, mset8, mset9, mset10, mset11, a6, b10, p122, s122]
  refine lp_step ?_
  simp only [↓R0, R1, simprocAttr, -Int.reduceAbs, setR_length, l1, o1, l2, o2, cells_len, rE_len, rE_ok, st3, st3', tk3, lz, oz, num0, w0, w1, w2, w3, w4, w5, w6, w7, w8, w9, w10, w11, w12, mset0, mset1, mset2, mset3, mset4, mset5, mset6, mset7, mset8, mset9, mset10, mset11]
  refine lp_step ?_
  simp only [↓R0, R1, simprocAttr, -Int.reduceAbs, setR_length, l1, o1, l2, o2, cells_len, rE_len, rE_ok, st3, st3', tk3, lz, oz, num0, w0, w1, w2, w3, w4, w5, w6, w7, w8, w9, w10, w11, w12, mset0, mset1, mset2, mset3, mset4, mset5, mset6, mset7, mset8, mset9, mset10, mset11, a7, n1]
  refine lp_step ?_
  simp only [↓R0, R1, simprocAttr, -Int.reduceAbs, setR_length, l1, o1, l2, o2, cells_len, rE_len, rE_ok, st3, st3', tk3, lz, oz, num0, w0, w1, w2, w3, w4, w5, w6, w7, w8, w9, w10, w11, w12, mset0, mset1, mset2, mset3, mset4, mset5, mset6, mset7, mset8, mset9, mset10, mset11, a4, b3, p130, s130]
  refine lp_step ?_
  simp only [↓R0, R1, simprocAttr, -Int.reduceAbs, setR_length, l1, o1, l2, o2, cells_len, rE_len, rE_ok, st3, st3', tk3, lz, oz, num0, w0, w1, w2, w3, w4, w5, w6, w7, w8, w9, w10, w11, w12, mset0, mset1, mset2, mset3, mset4, mset5, mset6, mset7, mset8, mset9, mset10, mset11, a5, b7, p131, s131]
  refine lp_step ?_
  simp only [↓R0, R1, simprocAttr, -Int.reduceAbs, setR_length, l1, o1, l2, o2, cells_len, rE_len, rE_ok, st3, st3', tk3, lz, oz, num0, w0, w1, w2, w3, w4, w5, w6, w7, w8, w9, w10, w11, w12, mset0, mset1, mset2, mset3, mset4, mset5, mset6, mset7, mset8, mset9, mset10, mset11, a6, b11, p132, s132]
  refine lp_step ?_
  simp only [↓R0, R1, simprocAttr, -Int.reduceAbs, setR_length, l1, o1, l2, o2, cells_len, rE_len, rE_ok, st3, st3', tk3, lz, oz, num0, w0, w1, w2, w3, w4, w5, w6, w7, w8, w9, w10, w11, w12, mset0, mset1, mset2, mset3, mset4, mset5, mset6, mset7, mset8, mset9, mset10, mset11]
  refine lp_step ?_
  simp only [↓R0, R1, simprocAttr, -Int.reduceAbs, setR_length, l1, o1, l2, o2, cells_len, rE_len, rE_ok, st3, st3', tk3, lz, oz, num0, w0, w1, w2, w3, w4, w5, w6, w7, w8, w9, w10, w11, w12, mset0, mset1, mset2, mset3, mset4, mset5, mset6, mset7, mset8, mset9, mset10, mset11]
  refine lp_step ?_
  simp only [↓R0, R1, simprocAttr, -Int.reduceAbs, setR_length, l1, o1, l2, o2, cells_len, rE_len, rE_ok, st3, st3', tk3, lz, oz, num0, w0, w1, w2, w3, w4, w5, w6, w7, w8, w9, w10, w11, w12, mset0, mset1, mset2, mset3, mset4, mset5, mset6, mset7, mset8, mset9, mset10, mset11]
  refine lp_step ?_
  simp only [↓R0, R1, simprocAttr, -Int.reduceAbs, setR_length, l1, o1, l2, o2, cells_len, rE_len, rE_ok, st3, st3', tk3, lz, oz, num0, w0, w1, w2, w3, w4, w5, w6, w7, w8, w9, w10, w11, w12, mset0, mset1, mset2, mset3, mset4, mset5, mset6, mset7, mset8, mset9, mset10, mset11]
  refine lp_step ?_
  simp only [↓R0, R1, simprocAttr, -Int.reduceAbs, setR_length, l1, o1, l2, o2, cells_len, rE_len, rE_ok, st3, st3', tk3, lz, oz, num0, w0, w1, w2, w3, w4, w5, w6, w7, w8, w9, w10, w11, w12, mset0, mset1, mset2, mset3, mset4, mset5, mset6, mset7, mset8, mset9, mset10, mset11, a8, b0, p200, s200]
  refine lp_step ?_
  simp only [↓R0, R1, simprocAttr, -Int.reduceAbs, setR_length, l1, o1, l2, o2, cells_len, rE_len, rE_ok, st3, st3', tk3, lz, oz, num0, w0, w1, w2, w3, w4, w5, w6, w7, w8, w9, w10, w11, w12, mset0, mset1, mset2, mset3, mset4, mset5, mset6, mset7, mset8, mset9, mset10, mset11, a9, b4, p201, s201]
  refine lp_step ?_
  simp only [↓R0, R1, simprocAttr, -Int.reduceAbs, setR_length, l1, o1, l2, o2, cells_len, rE_len, rE_ok, st3, st3', tk3, lz, oz, num0, w0, w1, w2, w3, w4, w5, w6, w7, w8, w9, w10, w11, w12, mset0, mset1, mset2, mset3, mset4, mset5, mset6, mset7, mset8, mset9, mset10, mset11, a10, b8, p202, s202]
  refine lp_step ?_
  simp only [↓R0, R1, simprocAttr, -Int.reduceAbs, setR_length, l1, o1, l2, o2, cells_len, rE_len, rE_ok, st3, st3', tk3, lz, oz, num0, w0, w1, w2, w3, w4, w5, w6, w7, w8, w9, w10, w11, w12, mset0, mset1, mset2, mset3, mset4, mset5, mset6, mset7, mset8, mset9, mset10, mset11]
  refine lp_step ?_
  simp only [↓R0, R1, simprocAttr, -Int.reduceAbs, setR_length, l1, o1, l2, o2, cells_len, rE_len, rE_ok, st3, st3', tk3, lz, oz, num0, w0, w1, w2, w3, w4, w5, w6, w7, w8, w9, w10, w11, w12, mset0, mset1, mset2, mset3, mset4, mset5, mset6, mset7, mset8, mset9, mset10, mset11]
  refine lp_step ?_
  simp only [↓R0, R1, simprocAttr, -Int.reduceAbs, setR_length, l1, o1, l2, o2, cells_len, rE_len, rE_ok, st3, st3', tk3, lz, oz, num0, w0, w1, w2, w3, w4, w5, w6, w7, w8, w9, w10, w11, w12, mset0, mset1, mset2, mset3, mset4, mset5, mset6, mset7, mset8, mset9, mset10, mset11, a8, b1, p210, s210]
  refine lp_step ?_
  simp only [↓R0, R1, simprocAttr, -Int.reduceAbs, setR_length, l1, o1, l2, o2, cells_len, rE_len, rE_ok, st3, st3', tk3, lz, oz, num0, w0, w1, w2, w3, w4, w5, w6, w7, w8, w9, w10, w11, w12, mset0, mset1, mset2, mset3, mset4, mset5, mset6, mset7, mset8, mset9, mset10, mset11, a9, b5, p211, s211]
  refine lp_step ?_
  simp only [↓R0, R1, simprocAttr, -Int.reduceAbs, setR_length, l1, o1, l2, o2, cells_len, rE_len, rE_ok, st3, st3', tk3, lz, oz, num0, w0, w1, w2, w3, w4, w5, w6, w7, w8, w9, w10, w11, w12, mset0, mset1, mset2, mset3, mset4, mset5, mset6, mset7, mset8, mset9, mset10, mset11, a10, b9, p212, s212]
  refine lp_step ?_
  simp only [↓R0, R1, simprocAttr, -Int.reduceAbs, setR_length, l1, o1, l2, o2, cells_len, rE_len, rE_ok, st3, st3', tk3, lz, oz, num0, w0, w1, w2, w3, w4, w5, w6, w7, w8, w9, w10, w11, w12, mset0, mset1, mset2, mset3, mset4, mset5, mset6, mset7, mset8, mset9, mset10, mset11]
  refine lp_step ?_
  simp only [↓R0, R1, simprocAttr, -Int.reduceAbs, setR_length, l1, o1, l2, o2, cells_len, rE_len, rE_ok, st3, st3', tk3, lz, oz, num0, w0, w1, w2, w3, w4, w5, w6, w7, w8, w9, w10, w11, w12, mset0, mset1, mset2, mset3, mset4, mset5, mset6, mset7, mset8, mset9, mset10, mset11]
  refine lp_step ?_
  simp only [↓R0, R1, simprocAttr, -Int.reduceAbs, setR_length, l1, o1, l2, o2, cells_len, rE_len, rE_ok, st3, st3', tk3, lz, oz, num0, w0, w1, w2, w3, w4, w5, w6, w7, w8, w9, w10, w11, w12, mset0, mset1, mset2, mset3, mset4, mset5, mset6, mset7, mset8, mset9, mset10, mset11, a8, b2, p220, s220]
  refine lp_step ?_
  simp only [↓R0, R1, simprocAttr, -Int.reduceAbs, setR_length, l1, o1, l2, o2, cells_len, rE_len, rE_ok, st3, st3', tk3, lz, oz, num0, w0, w1, w2, w3, w4, w5, w6, w7, w8, w9, w10, w11, w12, mset0, mset1, mset2, mset3, mset4, mset5, mset6, mset7, mset8, mset9, mset10, mset11, a9, b6, p221, s221]
  refine lp_step ?_
  simp only [↓R0, R1, simprocAttr, -Int.reduceAbs, setR_length, l1, o1, l2, o2, cells_len, rE_len, rE_ok, st3, st3', tk3, lz, oz, num0, w0, w1, w2, w3, w4, w5, w6, w7, w8, w9, w10, w11, w12, mset0, mset1, mset2, mset3, mset4, mset5, mset6, mset7, mset8, mset9, mset10, mset11, a10, b10, p222, s222]
  refine lp_step ?_
  simp only [↓R0, R1, simprocAttr, -Int.reduceAbs, setR_length, l1, o1, l2, o2, cells_len, rE_len, rE_ok, st3, st3', tk3, lz, oz, num0, w0, w1, w2, w3, w4, w5, w6, w7, w8, w9, w10, w11, w12, mset0, mset1, mset2, mset3, mset4, mset5, mset6, mset7, mset8, mset9, mset10, mset11]
  refine lp_step ?_
  simp only [↓R0, R1, simprocAttr, -Int.reduceAbs, setR_length, l1, o1, l2, o2, cells_len, rE_len, rE_ok, st3, st3', tk3, lz, oz, num0, w0, w1, w2, w3, w4, w5, w6, w7, w8, w9, w10, w11, w12, mset0, mset1, mset2, mset3, mset4, mset5, mset6, mset7, mset8, mset9, mset10, mset11, a11, n2]
  refine lp_step ?_
  simp only [↓R0, R1, simprocAttr, -Int.reduceAbs, setR_length, l1, o1, l2, o2, cells_len, rE_len, rE_ok, st3, st3', tk3, lz, oz, num0, w0, w1, w2, w3, w4, w5, w6, w7, w8, w9, w10, w11, w12, mset0, mset1, mset2, mset3, mset4, mset5, mset6, mset7, mset8, mset9, mset10, mset11, a8, b3, p230, s230]
  refine lp_step ?_
  simp only [↓R0, R1, simprocAttr, -Int.reduceAbs, setR_length, l1, o1, l2, o2, cells_len, rE_len, rE_ok, st3, st3', tk3, lz, oz, num0, w0, w1, w2, w3, w4, w5, w6, w7, w8, w9, w10, w11, w12, mset0, mset1, mset2, mset3, mset4, mset5, mset6, mset7, mset8, mset9, mset10, mset11, a9, b7, p231, s231]
  refine lp_step ?_
  simp only [↓R0, R1, simprocAttr, -Int.reduceAbs, setR_length, l1, o1, l2, o2, cells_len, rE_len, rE_ok, st3, st3', tk3, lz, oz, num0, w0, w1, w2, w3, w4, w5, w6, w7, w8, w9, w10, w11, w12, mset0, mset1, mset2, mset3, mset4, mset5, mset6, mset7, mset8, mset9, mset10, mset11, a10, b11, p232, s232]
  refine lp_step ?_
  simp only [↓R0, R1, simprocAttr, -Int.reduceAbs, setR_length, l1, o1, l2, o2, cells_len, rE_len, rE_ok, st3, st3', tk3, lz, oz, num0, w0, w1, w2, w3, w4, w5, w6, w7, w8, w9, w10, w11, w12, mset0, mset1, mset2, mset3, mset4, mset5, mset6, mset7, mset8, mset9, mset10, mset11]
  refine lp_step ?_
  simp only [↓R0, R1, simprocAttr, -Int.reduceAbs, setR_length, l1, o1, l2, o2, cells_len, rE_len, rE_ok, st3, st3', tk3, lz, oz, num0, w0, w1, w2, w3, w4, w5, w6, w7, w8, w9, w10, w11, w12, mset0, mset1, mset2, mset3, mset4, mset5, mset6, mset7, mset8, mset9, mset10, mset11]
  refine lp_step ?_
  have fin : mE (upd (upd (upd (upd (upd (upd (upd (upd (upd (upd (upd (upd (fun _ => 0) 0 (0 + F0 * H0 + F1 * H4 + F2 * H8)) 1 (0 + F0 * H1 + F1 * H5 + F2 * H9)) 2 (0 + F0 * H2 + F1 * H6 + F2 * H10)) 3 (F3 + F0 * H3 + F1 * H7 + F2 * H11)) 4 (0 + F4 * H0 + F5 * H4 + F6 * H8)) 5 (0 + F4 * H1 + F5 * H5 + F6 * H9)) 6 (0 + F4 * H2 + F5 * H6 + F6 * H10)) 7 (F7 + F4 * H3 + F5 * H7 + F6 * H11)) 8 (0 + F8 * H0 + F9 * H4 + F10 * H8)) 9 (0 + F8 * H1 + F9 * H5 + F10 * H9)) 10 (0 + F8 * H2 + F9 * H6 + F10 * H10)) 11 (F11 + F8 * H3 + F9 * H7 + F10 * H11)) = mE (compM f g) := by
    refine mE_congr (each12 ?_ ?_ ?_ ?_ ?_ ?_ ?_ ?_ ?_ ?_ ?_ ?_)
    · have e := comp_row f g 0 0 (by decide) (by decide)
      simp only [Nat.reduceMul, Nat.reduceAdd, if_true, show (0 : Nat) = 3 ↔ False by decide, show (1 : Nat) = 3 ↔ False by decide, show (2 : Nat) = 3 ↔ False by decide, if_false, Nat.add_zero] at e
      rw [show (0 : Nat) = 0 from rfl, e, eF0, eF1, eF2, eH0, eH4, eH8]
      simp only [upd, show (0 : Nat) = 1 ↔ False by decide, show (0 : Nat) = 2 ↔ False by decide, show (0 : Nat) = 3 ↔ False by decide, show (0 : Nat) = 4 ↔ False by decide, show (0 : Nat) = 5 ↔ False by decide, show (0 : Nat) = 6 ↔ False by decide, show (0 : Nat) = 7 ↔ False by decide, show (0 : Nat) = 8 ↔ False by decide, show (0 : Nat) = 9 ↔ False by decide, show (0 : Nat) = 10 ↔ False by decide, show (0 : Nat) = 11 ↔ False by decide, if_false, if_true]
    · have e := comp_row f g 0 1 (by decide) (by decide)
      simp only [Nat.reduceMul, Nat.reduceAdd, if_true, show (0 : Nat) = 3 ↔ False by decide, show (1 : Nat) = 3 ↔ False by decide, show (2 : Nat) = 3 ↔ False by decide, if_false, Nat.add_zero] at e
      rw [show (1 : Nat) = 1 from rfl, e, eF0, eF1, eF2, eH1, eH5, eH9]
      simp only [upd, show (1 : Nat) = 2 ↔ False by decide, show (1 : Nat) = 3 ↔ False by decide, show (1 : Nat) = 4 ↔ False by decide, show (1 : Nat) = 5 ↔ False by decide, show (1 : Nat) = 6 ↔ False by decide, show (1 : Nat) = 7 ↔ False by decide, show (1 : Nat) = 8 ↔ False by decide, show (1 : Nat) = 9 ↔ False by decide, show (1 : Nat) = 10 ↔ False by decide, show (1 : Nat) = 11 ↔ False by decide, if_false, if_true]
    · have e := comp_row f g 0 2 (by decide) (by decide)
      simp only [Nat.reduceMul, Nat.reduceAdd, if_true, show (0 : Nat) = 3 ↔ False by decide, show (1 : Nat) = 3 ↔ False by decide, show (2 : Nat) = 3 ↔ False by decide, if_false, Nat.add_zero] at e
      rw [show (2 : Nat) = 2 from rfl, e, eF0, eF1, eF2, eH10, eH2, eH6]
      simp only [upd, show (2 : Nat) = 3 ↔ False by decide, show (2 : Nat) = 4 ↔ False by decide, show (2 : Nat) = 5 ↔ False by decide, show (2 : Nat) = 6 ↔ False by decide, show (2 : Nat) = 7 ↔ False by decide, show (2 : Nat) = 8 ↔ False by decide, show (2 : Nat) = 9 ↔ False by decide, show (2 : Nat) = 10 ↔ False by decide, show (2 : Nat) = 11 ↔ False by decide, if_false, if_true]
    · have e := comp_row f g 0 3 (by decide) (by decide)
      simp only [Nat.reduceMul, Nat.reduceAdd, if_true, show (0 : Nat) = 3 ↔ False by decide, show (1 : Nat) = 3 ↔ False by decide, show (2 : Nat) = 3 ↔ False by decide, if_false, Nat.add_zero] at e
      rw [show (3 : Nat) = 3 from rfl, e, eF0, eF1, eF2, eF3, eH11, eH3, eH7]
      simp only [upd, show (3 : Nat) = 4 ↔ False by decide, show (3 : Nat) = 5 ↔ False by decide, show (3 : Nat) = 6 ↔ False by decide, show (3 : Nat) = 7 ↔ False by decide, show (3 : Nat) = 8 ↔ False by decide, show (3 : Nat) = 9 ↔ False by decide, show (3 : Nat) = 10 ↔ False by decide, show (3 : Nat) = 11 ↔ False by decide, if_false, if_true]
    · have e := comp_row f g 1 0 (by decide) (by decide)
      simp only [Nat.reduceMul, Nat.reduceAdd, if_true, show (0 : Nat) = 3 ↔ False by decide, show (1 : Nat) = 3 ↔ False by decide, show (2 : Nat) = 3 ↔ False by decide, if_false, Nat.add_zero] at e
      rw [show (4 : Nat) = 4 from rfl, e, eF4, eF5, eF6, eH0, eH4, eH8]
      simp only [upd, show (4 : Nat) = 5 ↔ False by decide, show (4 : Nat) = 6 ↔ False by decide, show (4 : Nat) = 7 ↔ False by decide, show (4 : Nat) = 8 ↔ False by decide, show (4 : Nat) = 9 ↔ False by decide, show (4 : Nat) = 10 ↔ False by decide, show (4 : Nat) = 11 ↔ False by decide, if_false, if_true]
    · have e := comp_row f g 1 1 (by decide) (by decide)
      simp only [Nat.reduceMul, Nat.reduceAdd, if_true, show (0 : Nat) = 3 ↔ False by decide, show (1 : Nat) = 3 ↔ False by decide, show (2 : Nat) = 3 ↔ False by decide, if_false, Nat.add_zero] at e
      rw [show (5 : Nat) = 5 from rfl, e, eF4, eF5, eF6, eH1, eH5, eH9]
      simp only [upd, show (5 : Nat) = 6 ↔ False by decide, show (5 : Nat) = 7 ↔ False by decide, show (5 : Nat) = 8 ↔ False by decide, show (5 : Nat) = 9 ↔ False by decide, show (5 : Nat) = 10 ↔ False by decide, show (5 : Nat) = 11 ↔ False by decide, if_false, if_true]
    · have e := comp_row f g 1 2 (by decide) (by decide)
      simp only [Nat.reduceMul, Nat.reduceAdd, if_true, show (0 : Nat) = 3 ↔ False by decide, show (1 : Nat) = 3 ↔ False by decide, show (2 : Nat) = 3 ↔ False by decide, if_false, Nat.add_zero] at e
      rw [show (6 : Nat) = 6 from rfl, e, eF4, eF5, eF6, eH10, eH2, eH6]
      simp only [upd, show (6 : Nat) = 7 ↔ False by decide, show (6 : Nat) = 8 ↔ False by decide, show (6 : Nat) = 9 ↔ False by decide, show (6 : Nat) = 10 ↔ False by decide, show (6 : Nat) = 11 ↔ False by decide, if_false, if_true]
    · have e := comp_row f g 1 3 (by decide) (by decide)
      simp only [Nat.reduceMul, Nat.reduceAdd, if_true, show (0 : Nat) = 3 ↔ False by decide, show (1 : Nat) = 3 ↔ False by decide, show (2 : Nat) = 3 ↔ False by decide, if_false, Nat.add_zero] at e
      rw [show (7 : Nat) = 7 from rfl, e, eF4, eF5, eF6, eF7, eH11, eH3, eH7]
      simp only [upd, show (7 : Nat) = 8 ↔ False by decide, show (7 : Nat) = 9 ↔ False by decide, show (7 : Nat) = 10 ↔ False by decide, show (7 : Nat) = 11 ↔ False by decide, if_false, if_true]
    · have e := comp_row f g 2 0 (by decide) (by decide)
      simp only [Nat.reduceMul, Nat.reduceAdd, if_true, show (0 : Nat) = 3 ↔ False by decide, show (1 : Nat) = 3 ↔ False by decide, show (2 : Nat) = 3 ↔ False by decide, if_false, Nat.add_zero] at e
      rw [show (8 : Nat) = 8 from rfl, e, eF10, eF8, eF9, eH0, eH4, eH8]
      simp only [upd, show (8 : Nat) = 9 ↔ False by decide, show (8 : Nat) = 10 ↔ False by decide, show (8 : Nat) = 11 ↔ False by decide, if_false, if_true]
    · have e := comp_row f g 2 1 (by decide) (by decide)
      simp only [Nat.reduceMul, Nat.reduceAdd, if_true, show (0 : Nat) = 3 ↔ False by decide, show (1 : Nat) = 3 ↔ False by decide, show (2 : Nat) = 3 ↔ False by decide, if_false, Nat.add_zero] at e
      rw [show (9 : Nat) = 9 from rfl, e, eF10, eF8, eF9, eH1, eH5, eH9]
      simp only [upd, show (9 : Nat) = 10 ↔ False by decide, show (9 : Nat) = 11 ↔ False by decide, if_false, if_true]
    · have e := comp_row f g 2 2 (by decide) (by decide)
      simp only [Nat.reduceMul, Nat.reduceAdd, if_true, show (0 : Nat) = 3 ↔ False by decide, show (1 : Nat) = 3 ↔ False by decide, show (2 : Nat) = 3 ↔ False by decide, if_false, Nat.add_zero] at e
      rw [show (10 : Nat) = 10 from rfl, e, eF10, eF8, eF9, eH10, eH2, eH6]
      simp only [upd, show (10 : Nat) = 11 ↔ False by decide, if_false, if_true]
    · have e := comp_row f g 2 3 (by decide) (by decide)
      simp only [Nat.reduceMul, Nat.reduceAdd, if_true, show (0 : Nat) = 3 ↔ False by decide, show (1 : Nat) = 3 ↔ False by decide, show (2 : Nat) = 3 ↔ False by decide, if_false, Nat.add_zero] at e
      rw [show (11 : Nat) = 11 from rfl, e, eF10, eF11, eF8, eF9, eH11, eH3, eH7]
      simp only [upd, if_true, if_false, if_true]
  simp only [↓R0, R1, simprocAttr, -Int.reduceAbs, setR_length, l1, o1, l2, o2, cells_len, rE_len, rE_ok, st3, st3', tk3, lz, oz, num0, w0, w1, w2, w3, w4, w5, w6, w7, w8, w9, w10, w11, w12, mset0, mset1, mset2, mset3, mset4, mset5, mset6, mset7, mset8, mset9, mset10, mset11, fin, tz, sz, Fin, isEnd, resL, res1]
  exact ⟨_, rfl, rfl, fun k hk => by simp only [ne_nb hk, if_false]⟩
end Go.Eng
end
section
set_option linter.unusedVariables false
set_option linter.unusedSimpArgs false
set_option linter.unusedSectionVars false
set_option maxRecDepth 20000
namespace Go.Eng
open Go Go.Proofs Go.IntWalk
theorem MS.after {c d : List Value} {f g : Nat → Rat} (h : MS c f 1048576) (h' : MS d g 1048576) : spR7After [.agg ⟨c⟩, .agg ⟨d⟩] = some (.agg ⟨Go.Eng.mE (compM f g)⟩) := by
  obtain ⟨p, a, b, e⟩ := h
  obtain ⟨q, a', b', e'⟩ := h'
  unfold spR7After
  simp only [a, a']
  rw [if_pos ⟨b, b'⟩, mE_congr (compM_congr e e')]
end Go.Eng
end
section
set_option linter.unusedVariables false
set_option linter.unusedSimpArgs false
set_option linter.unusedSectionVars false
set_option maxRecDepth 20000
namespace Go.Eng
open Go Go.Proofs Go.IntWalk
theorem r3E_zero : r3E 0 0 0 = [.bool false, .string ⟨⟨[]⟩⟩, .string ⟨⟨[]⟩⟩, .bool false, .string ⟨⟨[]⟩⟩, .string ⟨⟨[]⟩⟩, .bool false, .string ⟨⟨[]⟩⟩, .string ⟨⟨[]⟩⟩] := by unfold r3E; rw [rE_zero]; rfl
theorem r3E_len (a b c : Rat) : (r3E a b c).length = 9 := rfl
theorem r3E_ok (a b c : Rat) : (r3E a b c).all okCell = true := rfl
theorem r3E_tk (a b c : Rat) : (r3E a b c).take 9 = r3E a b c := rfl
theorem r3E_st (a b c x y z : Rat) : setR (r3E x y z) 0 (r3E a b c) = r3E a b c := rfl
theorem r3E_g0 (a b c : Rat) : (r3E a b c).take 3 = rE a := rfl
theorem r3E_g1 (a b c : Rat) : ((r3E a b c).drop 3).take 3 = rE b := rfl
theorem r3E_g2 (a b c : Rat) : ((r3E a b c).drop 6).take 3 = rE c := rfl
theorem r3E_s0 (a b c x : Rat) : setR (r3E a b c) 0 (rE x) = r3E x b c := rfl
theorem r3E_s1 (a b c x : Rat) : setR (r3E a b c) 3 (rE x) = r3E a x c := rfl
theorem r3E_s2 (a b c x : Rat) : setR (r3E a b c) 6 (rE x) = r3E a b x := rfl
def spR7Back : List Value → Option Value
  | [.agg ⟨cs⟩] => match mapOf cs with
    | some p => if mapOk 1000 p then (if detM (fun i => (p i).v) = 0 then some (.tuple ⟨[.agg ⟨zmap⟩, .bool false]⟩) else some (.tuple ⟨[.agg ⟨mE (invM (fun i => (p i).v))⟩, .bool true]⟩)) else none
    | none => none
  | _ => none
theorem MS.back {c : List Value} {f : Nat → Rat} (h : MS c f 1000) : spR7Back [.agg ⟨c⟩] = if detM f = 0 then some (.tuple ⟨[.agg ⟨zmap⟩, .bool false]⟩) else some (.tuple ⟨[.agg ⟨Go.Eng.mE (invM f)⟩, .bool true]⟩) := by
  obtain ⟨p, a, b, e⟩ := h
  unfold spR7Back
  simp only [a]
  rw [if_pos b, detM_congr e, mE_congr (fun i _ => invM_congr e i)]
theorem MS.minor {c : List Value} {f : Nat → Rat} (h : MS c f 1048576) {i k : Nat} (hi : i < 3) (hk : k < 3) : spR7minor [.agg ⟨c⟩, .int .i64 (i : Int), .int .i64 (k : Int)] = some (.agg ⟨rE (minorM f i k)⟩) := by
  obtain ⟨p, a, b, e⟩ := h
  unfold spR7minor
  simp only [a]
  rw [if_pos ⟨⟨by omega, by omega, by omega, by omega⟩, b⟩]
  simp only [Int.toNat_natCast]
  rw [minorM_congr e]
theorem inv_row (f g : Nat → Rat) (D : Rat) (hD : detM f = D) (i : Nat) (hi : i < 3) (h0 : g (4 * i + 0) = minorM f 0 i / D) (h1 : g (4 * i + 1) = minorM f 1 i / D) (h2 : g (4 * i + 2) = minorM f 2 i / D) (h3 : g (4 * i + 3) = 0) :
    -appM g (f 3) (f 7) (f 11) i = invM f (4 * i + 3) := by
  rw [appM_row, h0, h1, h2, h3]
  unfold invM innM
  rw [if_neg (by omega), show (4 * i + 3) / 4 = i by omega]
  simp only [dotN]
  rw [if_neg (by omega), if_neg (by omega), if_neg (by omega), hD, show (4 * i + 0) % 4 = 0 by omega, show (4 * i + 1) % 4 = 1 by omega, show (4 * i + 2) % 4 = 2 by omega, show (4 * i + 0) / 4 = i by omega, show (4 * i + 1) / 4 = i by omega, show (4 * i + 2) / 4 = i by omega]
def c31 : ICode :=
  (.seq (.reg [qq 1 (.box 29 36 (.t 0)), qq 2 (.alloc 29 36 [(.bool false), e0, e0, (.bool false), e0, e0, (.bool false), e0, e0, (.bool false), e0, e0, (.bool false), e0, e0, (.bool false), e0, e0, (.bool false), e0, e0, (.bool false), e0, e0, (.bool false), e0, e0, (.bool false), e0, e0, (.bool false), e0, e0, (.bool false), e0, e0]), qq 3 (.mv (.c (.bool false)))]) (.seq (.reg [qq 10 (.load true 36 (.t 1)), qq 11 (.call 33 [(.t 10)]), qq 4 (.alloc 23 3 [(.bool false), e0, e0]), qn (.store 3 (.t 4) (.t 11))]) (.seq (.seq (.reg [qq 12 (.load true 3 (.t 4)), qq 13 (.call 77 [(.t 12)]), qq 14 (.bin .eql (.t 13) (ci 0))]) (.cond (.t 14) (.seq (.reg [qq 15 (.build [(.bool false), e0, e0, (.bool false), e0, e0, (.bool false), e0, e0, (.bool false), e0, e0, (.bool false), e0, e0, (.bool false), e0, e0, (.bool false), e0, e0, (.bool false), e0, e0, (.bool false), e0, e0, (.bool false), e0, e0, (.bool false), e0, e0, (.bool false), e0, e0] []), qn (.store 36 (.t 2) (.t 15)), qq 3 (.mv (.c (.bool false)))]) .ret) .skip)) (.seq (.reg [qq 16 (.call 35 []), qq 5 (.alloc 29 36 [(.bool false), e0, e0, (.bool false), e0, e0, (.bool false), e0, e0, (.bool false), e0, e0, (.bool false), e0, e0, (.bool false), e0, e0, (.bool false), e0, e0, (.bool false), e0, e0, (.bool false), e0, e0, (.bool false), e0, e0, (.bool false), e0, e0, (.bool false), e0, e0]), qn (.store 36 (.t 5) (.t 16))]) (.seq (.seq (.reg [qq 6 (.mv (ci 0))]) (.block 0 (.loop (.seq (.seq (.reg [qq 17 (.mv (.t 6)), qq 18 (.bin .lss (.t 17) (ci 3))]) (.cond (.t 18) .skip (.exit 0))) (.seq (.block 1 (.seq (.reg [qq 7 (.mv (ci 0))]) (.block 2 (.loop (.seq (.seq (.reg [qq 21 (.mv (.t 7)), qq 22 (.bin .lss (.t 21) (ci 3))]) (.cond (.t 22) .skip (.exit 2))) (.seq (.block 3 (.dreg [qu 26 (.mv (.t 6)), qu 27 (.bin .mul (ci 4) (.t 26)), qu 28 (.mv (.t 7)), qu 29 (.bin .add (.t 27) (.t 28)), qu 30 (.load true 36 (.t 1)), qu 31 (.mv (.t 7)), qu 32 (.mv (.t 6)), qu 33 (.call 79 [(.t 30), (.t 31), (.t 32)]), qv 34 [7] (.load true 3 (.t 4)), qu 35 (.call 78 [(.t 33), (.t 34)]), qu 25 (.mv (.t 35)), qu 36 (.ext (.t 25) 0), qu 37 (.ext (.t 25) 1), qu 38 (.ixarr 12 3 (.t 5) (.t 29)), qm (.store 3 (.t 38) (.t 36))])) (.reg [qq 23 (.mv (.t 7)), qq 24 (.bin .add (.t 23) (ci 1)), qq 7 (.mv (.t 24))]))))))) (.reg [qq 19 (.mv (.t 6)), qq 20 (.bin .add (.t 19) (ci 1)), qq 6 (.mv (.t 20))])))))) (.seq (.reg [qq 39 (.load true 36 (.t 5)), qq 40 (.ixarr 12 3 (.t 1) (ci 3)), qq 41 (.load true 3 (.t 40)), qq 42 (.ixarr 12 3 (.t 1) (ci 7)), qq 43 (.load true 3 (.t 42)), qq 44 (.ixarr 12 3 (.t 1) (ci 11)), qq 45 (.load true 3 (.t 44)), qq 46 (.build [(.bool false), e0, e0, (.bool false), e0, e0, (.bool false), e0, e0] [(0, 3, (.t 41)), (3, 3, (.t 43)), (6, 3, (.t 45))]), qq 47 (.call 80 [(.t 39), (.t 46)]), qq 8 (.alloc 25 9 [(.bool false), e0, e0, (.bool false), e0, e0, (.bool false), e0, e0]), qn (.store 9 (.t 8) (.t 47))]) (.seq (.seq (.reg [qq 9 (.mv (ci 0))]) (.block 4 (.loop (.seq (.seq (.reg [qq 48 (.mv (.t 9)), qq 49 (.bin .lss (.t 48) (ci 3))]) (.cond (.t 49) .skip (.exit 4))) (.seq (.block 5 (.reg [qq 52 (.mv (.t 9)), qq 53 (.bin .mul (ci 4) (.t 52)), qq 54 (.bin .add (.t 53) (ci 3)), qq 55 (.mv (.t 9)), qq 56 (.ixarr 3 3 (.t 8) (.t 55)), qq 57 (.load true 3 (.t 56)), qq 58 (.call 81 [(.t 57)]), qq 59 (.ixarr 12 3 (.t 5) (.t 54)), qn (.store 3 (.t 59) (.t 58))])) (.reg [qq 50 (.mv (.t 9)), qq 51 (.bin .add (.t 50) (ci 1)), qq 9 (.mv (.t 51))])))))) (.seq (.reg [qq 60 (.load true 36 (.t 5)), qn (.store 36 (.t 2) (.t 60)), qq 3 (.mv (.c (.bool true)))]) .ret))))))))
theorem tr31 : trFun Tryz.prog 31 = some ⟨61, [.cell 2 true 36, .t 3], c31⟩ := by kernel_rfl
set_option maxHeartbeats 40000000 in
theorem ok_r7Back : SpecOK Tryz.prog 31 (flat spR7Back) := by
  refine flat_run (env_cons ok_r7Det (env_cons ok_r3Sign (env_cons ok_r7Same (env_cons ok_r7minor (env_cons ok_r3Div (env_cons ok_r7Vec (env_cons ok_r3Neg (env_nil _)))))))) mixed tr31 ?_
  intro args v h N hG
  unfold spR7Back at hG
  split at hG
  case h_2 => cases hG
  rename_i cs
  split at hG
  case h_2 => cases hG
  rename_i p hp
  split at hG
  case isFalse => cases hG
  rename_i ho
  obtain ⟨l1, hat, o1⟩ := mapOf_spec hp
  have hop := mapOk_iff.1 ho
  have hM : MS cs (fun i => (p i).v) 1000 := MS.of hp ho
  have t1 : cs.take 36 = cs := List.take_of_length_le (by omega)
  have a3 := hat 3 (by omega)
  have a7 := hat 7 (by omega)
  have a11 := hat 11 (by omega)
  simp only [Nat.reduceMul] at a3 a7 a11
  have q3 := hop 3 (by omega)
  have q7 := hop 7 (by omega)
  have q11 := hop 11 (by omega)
  obtain ⟨f, ef⟩ : ∃ f, (fun i => (p i).v) = f := ⟨_, rfl⟩
  have e3 : (p 3).v = f 3 := by rw [← ef]
  have e7 : (p 7).v = f 7 := by rw [← ef]
  have e11 : (p 11).v = f 11 := by rw [← ef]
  rw [ef] at hM hG
  clear hat hop ho hp ef
  generalize p 3 = A3 at *
  generalize p 7 = A7 at *
  generalize p 11 = A11 at *
  have rb := hM.rb
  have de := (hM.le (k := 1048576) (by omega)).det
  have rd := (detM_RB rb).le (k := 100000) (by omega)
  have sg := r3Sign_rE rd (by omega)
  have sid : spAid [] = some (.agg ⟨mE idM⟩) := rfl
  have w0 : IntKind.i64.wrap 0 = 0 := i64_in _ (by omega)
  have w1 : IntKind.i64.wrap 1 = 1 := i64_in _ (by omega)
  have w2 : IntKind.i64.wrap 2 = 2 := i64_in _ (by omega)
  have w3 : IntKind.i64.wrap 3 = 3 := i64_in _ (by omega)
  have w4 : IntKind.i64.wrap 4 = 4 := i64_in _ (by omega)
  have w5 : IntKind.i64.wrap 5 = 5 := i64_in _ (by omega)
  have w6 : IntKind.i64.wrap 6 = 6 := i64_in _ (by omega)
  have w7 : IntKind.i64.wrap 7 = 7 := i64_in _ (by omega)
  have w8 : IntKind.i64.wrap 8 = 8 := i64_in _ (by omega)
  have w9 : IntKind.i64.wrap 9 = 9 := i64_in _ (by omega)
  have w10 : IntKind.i64.wrap 10 = 10 := i64_in _ (by omega)
  have w11 : IntKind.i64.wrap 11 = 11 := i64_in _ (by omega)
  have w12 : IntKind.i64.wrap 12 = 12 := i64_in _ (by omega)
  have ez := mE_zero
  have lz := mE_len
  have oz := mE_ok
  have tz : ∀ f, (mE f).take 36 = mE f := fun f => List.take_of_length_le (by rw [lz]; omega)
  have sz : ∀ f g, setR (mE f) 0 (mE g) = mE g := fun f g => setR_all (mE g) (mE f) (by rw [lz, lz])
  by_cases h0 : detM f = 0
  · rw [if_pos h0] at hG
    cases hG
    refine ⟨rfl, by simp, ?_⟩
    have s0 : (detM f).num.sign = 0 := by rw [h0]; rfl
    rw [s0] at sg
    have zm : zmap = mE (fun _ => 0) := by rw [ez]; rfl
    rw [zm]
    simp only [c31, G0, Nat.reduceAdd]
    simp only [↓R0, R1, simprocAttr, -Int.reduceAbs, ← ez, l1, t1, o1, lz, oz, tz, sz, de, sg, rE_len, rE_ok, st3, st3', tk3, Fin, isEnd, resL, res1]
    exact ⟨_, rfl, rfl, fun k hk => by simp only [ne_nb hk, if_false]⟩
  rw [if_neg h0] at hG
  cases hG
  refine ⟨by
    have := mE_base (invM f)
    show (List.all [Value.agg ⟨mE (invM f)⟩, .bool true] flatV) = true
    simp only [List.all_cons, List.all_nil, Bool.and_true, Bool.and_eq_true]
    exact ⟨this, rfl⟩, by simp, ?_⟩
  have s0 : ((detM f).num.sign = 0) = False := eq_false (fun e => h0 (Rat.num_eq_zero.1 (Int.sign_eq_zero_iff_zero.1 e)))
  generalize (detM f).num.sign = sn at *
  obtain ⟨D, hD⟩ : ∃ D, detM f = D := ⟨_, rfl⟩
  rw [hD] at de rd sg h0
  have m00 : spR7minor [.agg ⟨cs⟩, .int .i64 0, .int .i64 0] = some (.agg ⟨rE (minorM f 0 0)⟩) := (hM.le (by omega)).minor (i := 0) (k := 0) (by omega) (by omega)
  have b00 := minorM_RB rb 0 0
  have d00 := (RC.rE b00).div (RC.rE rd) (by omega) (by omega) h0
  have B00 := b00.div rd (k := 110000) (by omega) (by omega)
  have m01 : spR7minor [.agg ⟨cs⟩, .int .i64 1, .int .i64 0] = some (.agg ⟨rE (minorM f 1 0)⟩) := (hM.le (by omega)).minor (i := 1) (k := 0) (by omega) (by omega)
  have b01 := minorM_RB rb 1 0
  have d01 := (RC.rE b01).div (RC.rE rd) (by omega) (by omega) h0
  have B01 := b01.div rd (k := 110000) (by omega) (by omega)
  have m02 : spR7minor [.agg ⟨cs⟩, .int .i64 2, .int .i64 0] = some (.agg ⟨rE (minorM f 2 0)⟩) := (hM.le (by omega)).minor (i := 2) (k := 0) (by omega) (by omega)
  have b02 := minorM_RB rb 2 0
  have d02 := (RC.rE b02).div (RC.rE rd) (by omega) (by omega) h0
  have B02 := b02.div rd (k := 110000) (by omega) (by omega)
  have m10 : spR7minor [.agg ⟨cs⟩, .int .i64 0, .int .i64 1] = some (.agg ⟨rE (minorM f 0 1)⟩) := (hM.le (by omega)).minor (i := 0) (k := 1) (by omega) (by omega)
  have b10 := minorM_RB rb 0 1
  have d10 := (RC.rE b10).div (RC.rE rd) (by omega) (by omega) h0
  have B10 := b10.div rd (k := 110000) (by omega) (by omega)
  have m11 : spR7minor [.agg ⟨cs⟩, .int .i64 1, .int .i64 1] = some (.agg ⟨rE (minorM f 1 1)⟩) := (hM.le (by omega)).minor (i := 1) (k := 1) (by omega) (by omega)
  have b11 := minorM_RB rb 1 1
  have d11 := (RC.rE b11).div (RC.rE rd) (by omega) (by omega) h0
  have B11 := b11.div rd (k := 110000) (by omega) (by omega)
  have m12 : spR7minor [.agg ⟨cs⟩, .int .i64 2, .int .i64 1] = some (.agg ⟨rE (minorM f 2 1)⟩) := (hM.le (by omega)).minor (i := 2) (k := 1) (by omega) (by omega)
  have b12 := minorM_RB rb 2 1
  have d12 := (RC.rE b12).div (RC.rE rd) (by omega) (by omega) h0
  have B12 := b12.div rd (k := 110000) (by omega) (by omega)
  have m20 : spR7minor [.agg ⟨cs⟩, .int .i64 0, .int .i64 2] = some (.agg ⟨rE (minorM f 0 2)⟩) := (hM.le (by omega)).minor (i := 0) (k := 2) (by omega) (by omega)
  have b20 := minorM_RB rb 0 2
  have d20 := (RC.rE b20).div (RC.rE rd) (by omega) (by omega) h0
  have B20 := b20.div rd (k := 110000) (by omega) (by omega)
  have m21 : spR7minor [.agg ⟨cs⟩, .int .i64 1, .int .i64 2] = some (.agg ⟨rE (minorM f 1 2)⟩) := (hM.le (by omega)).minor (i := 1) (k := 2) (by omega) (by omega)
  have b21 := minorM_RB rb 1 2
  have d21 := (RC.rE b21).div (RC.rE rd) (by omega) (by omega) h0
  have B21 := b21.div rd (k := 110000) (by omega) (by omega)
  have m22 : spR7minor [.agg ⟨cs⟩, .int .i64 2, .int .i64 2] = some (.agg ⟨rE (minorM f 2 2)⟩) := (hM.le (by omega)).minor (i := 2) (k := 2) (by omega) (by omega)
  have b22 := minorM_RB rb 2 2
  have d22 := (RC.rE b22).div (RC.rE rd) (by omega) (by omega) h0
  have B22 := b22.div rd (k := 110000) (by omega) (by omega)
  obtain ⟨X00, x00⟩ : ∃ z, minorM f 0 0 / D = z := ⟨_, rfl⟩
  rw [x00] at d00 B00
  obtain ⟨X01, x01⟩ : ∃ z, minorM f 1 0 / D = z := ⟨_, rfl⟩
  rw [x01] at d01 B01
  obtain ⟨X02, x02⟩ : ∃ z, minorM f 2 0 / D = z := ⟨_, rfl⟩
  rw [x02] at d02 B02
  obtain ⟨X10, x10⟩ : ∃ z, minorM f 0 1 / D = z := ⟨_, rfl⟩
  rw [x10] at d10 B10
  obtain ⟨X11, x11⟩ : ∃ z, minorM f 1 1 / D = z := ⟨_, rfl⟩
  rw [x11] at d11 B11
  obtain ⟨X12, x12⟩ : ∃ z, minorM f 2 1 / D = z := ⟨_, rfl⟩
  rw [x12] at d12 B12
  obtain ⟨X20, x20⟩ : ∃ z, minorM f 0 2 / D = z := ⟨_, rfl⟩
  rw [x20] at d20 B20
  obtain ⟨X21, x21⟩ : ∃ z, minorM f 1 2 / D = z := ⟨_, rfl⟩
  rw [x21] at d21 B21
  obtain ⟨X22, x22⟩ : ∃ z, minorM f 2 2 / D = z := ⟨_, rfl⟩
  rw [x22] at d22 B22
  obtain ⟨g, hg⟩ : ∃ g, (upd (upd (upd (upd (upd (upd (upd (upd (upd idM 0 X00) 1 X01) 2 X02) 4 X10) 5 X11) 6 X12) 8 X20) 9 X21) 10 X22) = g := ⟨_, rfl⟩
  have g0 : g 0 = X00 := by rw [← hg]; rfl
  have g1 : g 1 = X01 := by rw [← hg]; rfl
  have g2 : g 2 = X02 := by rw [← hg]; rfl
  have g3 : g 3 = 0 := by rw [← hg]; rfl
  have g4 : g 4 = X10 := by rw [← hg]; rfl
  have g5 : g 5 = X11 := by rw [← hg]; rfl
  have g6 : g 6 = X12 := by rw [← hg]; rfl
  have g7 : g 7 = 0 := by rw [← hg]; rfl
  have g8 : g 8 = X20 := by rw [← hg]; rfl
  have g9 : g 9 = X21 := by rw [← hg]; rfl
  have g10 : g 10 = X22 := by rw [← hg]; rfl
  have g11 : g 11 = 0 := by rw [← hg]; rfl
  have gb : ∀ i, i < 12 → RB (g i) 110000 := each12 (by rw [g0]; exact B00) (by rw [g1]; exact B01) (by rw [g2]; exact B02) (by rw [g3]; exact RB.zero.le (by omega)) (by rw [g4]; exact B10) (by rw [g5]; exact B11) (by rw [g6]; exact B12) (by rw [g7]; exact RB.zero.le (by omega)) (by rw [g8]; exact B20) (by rw [g9]; exact B21) (by rw [g10]; exact B22) (by rw [g11]; exact RB.zero.le (by omega))
  have ve : spR7Vec [.agg ⟨mE g⟩, .agg ⟨rqs [A3, A7, A11]⟩] = some (.agg ⟨r3E (appM g (f 3) (f 7) (f 11) 0) (appM g (f 3) (f 7) (f 11) 1) (appM g (f 3) (f 7) (f 11) 2)⟩) := by
    have hg := MS.mE gb
    obtain ⟨P, a, b, e⟩ := hg.le (k := 1048576) (by omega)
    unfold spR7Vec
    simp only [a, ratsOf_rqs]
    rw [if_pos ⟨b, q3.le (by omega), q7.le (by omega), q11.le (by omega)⟩, appM_congr e _ _ _ (n := 0) (by omega), appM_congr e _ _ _ (n := 1) (by omega), appM_congr e _ _ _ (n := 2) (by omega), e3, e7, e11]
  have f3b : RB (f 3) 1001 := by rw [← e3]; exact q3.rb
  have f7b : RB (f 7) 1001 := by rw [← e7]; exact q7.rb
  have f11b : RB (f 11) 1001 := by rw [← e11]; exact q11.rb
  have vb := fun n hn => appM_RB (n := n) gb f3b f7b f11b (by omega) hn
  have r0 := inv_row f g D hD 0 (by omega) (by rw [x00]; exact g0) (by rw [x01]; exact g1) (by rw [x02]; exact g2) g3
  have r1 := inv_row f g D hD 1 (by omega) (by rw [x10]; exact g4) (by rw [x11]; exact g5) (by rw [x12]; exact g6) g7
  have r2 := inv_row f g D hD 2 (by omega) (by rw [x20]; exact g8) (by rw [x21]; exact g9) (by rw [x22]; exact g10) g11
  have n0 := (RC.rE (vb 0 (by omega))).neg (by omega)
  have n1 := (RC.rE (vb 1 (by omega))).neg (by omega)
  have n2 := (RC.rE (vb 2 (by omega))).neg (by omega)
  generalize appM g (f 3) (f 7) (f 11) 0 = V0 at *
  generalize appM g (f 3) (f 7) (f 11) 1 = V1 at *
  generalize appM g (f 3) (f 7) (f 11) 2 = V2 at *
  have fin : mE (upd (upd (upd g 3 (-V0)) 7 (-V1)) 11 (-V2)) = mE (invM f) := by
    refine mE_congr (each12 ?_ ?_ ?_ ?_ ?_ ?_ ?_ ?_ ?_ ?_ ?_ ?_)
    · show g 0 = invM f 0
      rw [g0, ← x00, ← hD]; rfl
    · show g 1 = invM f 1
      rw [g1, ← x01, ← hD]; rfl
    · show g 2 = invM f 2
      rw [g2, ← x02, ← hD]; rfl
    · exact r0
    · show g 4 = invM f 4
      rw [g4, ← x10, ← hD]; rfl
    · show g 5 = invM f 5
      rw [g5, ← x11, ← hD]; rfl
    · show g 6 = invM f 6
      rw [g6, ← x12, ← hD]; rfl
    · exact r1
    · show g 8 = invM f 8
      rw [g8, ← x20, ← hD]; rfl
    · show g 9 = invM f 9
      rw [g9, ← x21, ← hD]; rfl
    · show g 10 = invM f 10
      rw [g10, ← x22, ← hD]; rfl
    · exact r2
  have bld : setR (setR (setR [.bool false, .string ⟨⟨[]⟩⟩, .string ⟨⟨[]⟩⟩, .bool false, .string ⟨⟨[]⟩⟩, .string ⟨⟨[]⟩⟩, .bool false, .string ⟨⟨[]⟩⟩, .string ⟨⟨[]⟩⟩] 0 A3.cells) 3 A7.cells) 6 A11.cells = rqs [A3, A7, A11] := rfl
  have zr := r3E_zero
  rw [← zr] at bld
  clear f3b f7b f11b e3 e7 e11 q3 q7 q11 hM rb gb vb
  simp only [c31, G0, Nat.reduceAdd]
  simp only [↓R0, R1, simprocAttr, -Int.reduceAbs, ← ez, l1, t1, o1, lz, oz, tz, sz, de, sg, s0, sid, rE_len, rE_ok, st3, st3', tk3]
  refine lp_step ?_
  simp only [↓R0, R1, simprocAttr, -Int.reduceAbs, setR_length, l1, t1, o1, cells_len, rE_len, rE_ok, st3, st3', tk3, lz, oz, tz, sz, w0, w1, w2, w3, w4, w5, w6, w7, w8, w9, w10, w11, w12, mset0, mset1, mset2, mset3, mset4, mset5, mset6, mset7, mset8, mset9, mset10, mset11, r3E_len, r3E_ok, r3E_tk, r3E_st, r3E_g0, r3E_g1, r3E_g2, r3E_s0, r3E_s1, r3E_s2]
  refine lp_step ?_
  simp only [↓R0, R1, simprocAttr, -Int.reduceAbs, setR_length, l1, t1, o1, cells_len, rE_len, rE_ok, st3, st3', tk3, lz, oz, tz, sz, w0, w1, w2, w3, w4, w5, w6, w7, w8, w9, w10, w11, w12, mset0, mset1, mset2, mset3, mset4, mset5, mset6, mset7, mset8, mset9, mset10, mset11, r3E_len, r3E_ok, r3E_tk, r3E_st, r3E_g0, r3E_g1, r3E_g2, r3E_s0, r3E_s1, r3E_s2, m00, d00]
  refine lp_step ?_
  simp only [↓R0, R1, simprocAttr, -Int.reduceAbs, setR_length, l1, t1, o1, cells_len, rE_len, rE_ok, st3, st3', tk3, lz, oz, tz, sz, w0, w1, w2, w3, w4, w5, w6, w7, w8, w9, w10, w11, w12, mset0, mset1, mset2, mset3, mset4, mset5, mset6, mset7, mset8, mset9, mset10, mset11, r3E_len, r3E_ok, r3E_tk, r3E_st, r3E_g0, r3E_g1, r3E_g2, r3E_s0, r3E_s1, r3E_s2, m01, d01]
  refine lp_step ?_
  simp only [↓R0, R1, simprocAttr, -Int.reduceAbs, setR_length, l1, t1, o1, cells_len, rE_len, rE_ok, st3, st3', tk3, lz, oz, tz, sz, w0, w1, w2, w3, w4, w5, w6, w7, w8, w9, w10, w11, w12, mset0, mset1, mset2, mset3, mset4, mset5, mset6, mset7, mset8, mset9, mset10, mset11, r3E_len, r3E_ok, r3E_tk, r3E_st, r3E_g0, r3E_g1, r3E_g2, r3E_s0, r3E_s1, r3E_s2, m02, d02]
  refine lp_step ?_
  simp only [↓R0, R1, simprocAttr, -Int.reduceAbs, setR_length, l1, t1, o1, cells_len, rE_len, rE_ok, st3, st3', tk3, lz, oz, tz, sz, w0, w1, w2, w3, w4, w5, w6, w7, w8, w9, w10, w11, w12, mset0, mset1, mset2, mset3, mset4, mset5, mset6, mset7, mset8, mset9, mset10, mset11, r3E_len, r3E_ok, r3E_tk, r3E_st, r3E_g0, r3E_g1, r3E_g2, r3E_s0, r3E_s1, r3E_s2]
  refine lp_step ?_
  simp only [↓R0, R1, simprocAttr, -Int.reduceAbs, setR_length, l1, t1, o1, cells_len, rE_len, rE_ok, st3, st3', tk3, lz, oz, tz, sz, w0, w1, w2, w3, w4, w5, w6, w7, w8, w9, w10, w11, w12, mset0, mset1, mset2, mset3, mset4, mset5, mset6, mset7, mset8, mset9, mset10, mset11, r3E_len, r3E_ok, r3E_tk, r3E_st, r3E_g0, r3E_g1, r3E_g2, r3E_s0, r3E_s1, r3E_s2]
  refine lp_step ?_
  simp only [↓R0, R1, simprocAttr, -Int.reduceAbs, setR_length, l1, t1, o1, cells_len, rE_len, rE_ok, st3, st3', tk3, lz, oz, tz, sz, w0, w1, w2, w3, w4, w5, w6, w7, w8, w9, w10, w11, w12, mset0, mset1, mset2, mset3, mset4, mset5, mset6, mset7, mset8, mset9, mset10, mset11, r3E_len, r3E_ok, r3E_tk, r3E_st, r3E_g0, r3E_g1, r3E_g2, r3E_s0, r3E_s1, r3E_s2, m10, d10]
  refine lp_step ?_
  simp only [↓R0, R1, simprocAttr, -Int.reduceAbs, setR_length, l1, t1, o1, cells_len, rE_len, rE_ok, st3, st3', tk3, lz, oz, tz, sz, w0, w1, w2, w3, w4, w5, w6, w7, w8, w9, w10, w11, w12, mset0, mset1, mset2, mset3, mset4, mset5, mset6, mset7, mset8, mset9, mset10, mset11, r3E_len, r3E_ok, r3E_tk, r3E_st, r3E_g0, r3E_g1, r3E_g2, r3E_s0, r3E_s1, r3E_s2, m11, d11]
  refine lp_step ?_
  simp only [↓R0, R1, simprocAttr, -Int.reduceAbs, setR_length, l1, t1, o1, cells_len, rE_len, rE_ok, st3, st3', tk3, lz, oz, tz, sz, w0, w1, w2, w3, w4, w5, w6, w7, w8, w9, w10, w11, w12, mset0, mset1, mset2, mset3, mset4, mset5, mset6, mset7, mset8, mset9, mset10, mset11, r3E_len, r3E_ok, r3E_tk, r3E_st, r3E_g0, r3E_g1, r3E_g2, r3E_s0, r3E_s1, r3E_s2, m12, d12]
  refine lp_step ?_
  simp only [↓R0, R1, simprocAttr, -Int.reduceAbs, setR_length, l1, t1, o1, cells_len, rE_len, rE_ok, st3, st3', tk3, lz, oz, tz, sz, w0, w1, w2, w3, w4, w5, w6, w7, w8, w9, w10, w11, w12, mset0, mset1, mset2, mset3, mset4, mset5, mset6, mset7, mset8, mset9, mset10, mset11, r3E_len, r3E_ok, r3E_tk, r3E_st, r3E_g0, r3E_g1, r3E_g2, r3E_s0, r3E_s1, r3E_s2]
  refine lp_step ?_
  simp only [↓R0, R1, simprocAttr, -Int.reduceAbs, setR_length, l1, t1, o1, cells_len, rE_len, rE_ok, st3, st3', tk3, lz, oz, tz, sz, w0, w1, w2, w3, w4, w5, w6, w7, w8, w9, w10, w11, w12, mset0, mset1, mset2, mset3, mset4, mset5, mset6, mset7, mset8, mset9, mset10, mset11, r3E_len, r3E_ok, r3E_tk, r3E_st, r3E_g0, r3E_g1, r3E_g2, r3E_s0, r3E_s1, r3E_s2]
  refine lp_step ?_
  simp only [↓R0, R1, simprocAttr, -Int.reduceAbs, setR_length, l1, t1, o1, cells_len, rE_len, rE_ok, st3, st3', tk3, lz, oz, tz, sz, w0, w1, w2, w3, w4, w5, w6, w7, w8, w9, w10, w11, w12, mset0, mset1, mset2, mset3, mset4, mset5, mset6, mset7, mset8, mset9, mset10, mset11, r3E_len, r3E_ok, r3E_tk, r3E_st, r3E_g0, r3E_g1, r3E_g2, r3E_s0, r3E_s1, r3E_s2, m20, d20]
  refine lp_step ?_
  simp only [↓R0, R1, simprocAttr, -Int.reduceAbs, setR_length, l1, t1, o1, cells_len, rE_len, rE_ok, st3, st3', tk3, lz, oz, tz, sz, w0, w1, w2, w3, w4, w5, w6, w7, w8, w9, w10, w11, w12, mset0, mset1, mset2, mset3, mset4, mset5, mset6, mset7, mset8, mset9, mset10, mset11, r3E_len, r3E_ok, r3E_tk, r3E_st, r3E_g0, r3E_g1, r3E_g2, r3E_s0, r3E_s1, r3E_s2, m21, d21]
  refine lp_step ?_
  simp only [↓R0, R1, simprocAttr, -Int.reduceAbs, setR_length, l1, t1, o1, cells_len, rE_len, rE_ok, st3, st3', tk3, lz, oz, tz, sz, w0, w1, w2, w3, w4, w5, w6, w7, w8, w9, w10, w11, w12, mset0, mset1, mset2, mset3, mset4, mset5, mset6, mset7, mset8, mset9, mset10, mset11, r3E_len, r3E_ok, r3E_tk, r3E_st, r3E_g0, r3E_g1, r3E_g2, r3E_s0, r3E_s1, r3E_s2, m22, d22]
  refine lp_step ?_
  simp only [↓R0, R1, simprocAttr, -Int.reduceAbs, setR_length, l1, t1, o1, cells_len, rE_len, rE_ok, st3, st3', tk3, lz, oz, tz, sz, w0, w1, w2, w3, w4, w5, w6, w7, w8, w9, w10, w11, w12, mset0, mset1, mset2, mset3, mset4, mset5, mset6, mset7, mset8, mset9, mset10, mset11, r3E_len, r3E_ok, r3E_tk, r3E_st, r3E_g0, r3E_g1, r3E_g2, r3E_s0, r3E_s1, r3E_s2]
  refine lp_step ?_
  simp only [↓R0, R1, simprocAttr, -Int.reduceAbs, setR_length, l1, t1, o1, cells_len, rE_len, rE_ok, st3, st3', tk3, lz, oz, tz, sz, w0, w1, w2, w3, w4, w5, w6, w7, w8, w9, w10, w11, w12, mset0, mset1, mset2, mset3, mset4, mset5, mset6, mset7, mset8, mset9, mset10, mset11, r3E_len, r3E_ok, r3E_tk, r3E_st, r3E_g0, r3E_g1, r3E_g2, r3E_s0, r3E_s1, r3E_s2, hg, ← zr, a3, a7, a11, bld, ve]
  refine lp_step ?_
  simp only [↓R0, R1, simprocAttr, -Int.reduceAbs, setR_length, l1, t1, o1, cells_len, rE_len, rE_ok, st3, st3', tk3, lz, oz, tz, sz, w0, w1, w2, w3, w4, w5, w6, w7, w8, w9, w10, w11, w12, mset0, mset1, mset2, mset3, mset4, mset5, mset6, mset7, mset8, mset9, mset10, mset11, r3E_len, r3E_ok, r3E_tk, r3E_st, r3E_g0, r3E_g1, r3E_g2, r3E_s0, r3E_s1, r3E_s2, n0]
  refine lp_step ?_
  simp only [↓R0, R1, simprocAttr, -Int.reduceAbs, setR_length, l1, t1, o1, cells_len, rE_len, rE_ok, st3, st3', tk3, lz, oz, tz, sz, w0, w1, w2, w3, w4, w5, w6, w7, w8, w9, w10, w11, w12, mset0, mset1, mset2, mset3, mset4, mset5, mset6, mset7, mset8, mset9, mset10, mset11, r3E_len, r3E_ok, r3E_tk, r3E_st, r3E_g0, r3E_g1, r3E_g2, r3E_s0, r3E_s1, r3E_s2, n1]
  refine lp_step ?_
  simp only [↓R0, R1, simprocAttr, -Int.reduceAbs, setR_length, l1, t1, o1, cells_len, rE_len, rE_ok, st3, st3', tk3, lz, oz, tz, sz, w0, w1, w2, w3, w4, w5, w6, w7, w8, w9, w10, w11, w12, mset0, mset1, mset2, mset3, mset4, mset5, mset6, mset7, mset8, mset9, mset10, mset11, r3E_len, r3E_ok, r3E_tk, r3E_st, r3E_g0, r3E_g1, r3E_g2, r3E_s0, r3E_s1, r3E_s2, n2]
  refine lp_step ?_
  simp only [↓R0, R1, simprocAttr, -Int.reduceAbs, setR_length, l1, t1, o1, cells_len, rE_len, rE_ok, st3, st3', tk3, lz, oz, tz, sz, w0, w1, w2, w3, w4, w5, w6, w7, w8, w9, w10, w11, w12, mset0, mset1, mset2, mset3, mset4, mset5, mset6, mset7, mset8, mset9, mset10, mset11, r3E_len, r3E_ok, r3E_tk, r3E_st, r3E_g0, r3E_g1, r3E_g2, r3E_s0, r3E_s1, r3E_s2, fin, Fin, isEnd, resL, res1]
  exact ⟨_, rfl, rfl, fun k hk => by simp only [ne_nb hk, if_false]⟩
end Go.Eng
end
section
set_option linter.unusedVariables false
set_option linter.unusedSimpArgs false
set_option linter.unusedSectionVars false
namespace Go.Eng
end Go.Eng
end
section
set_option linter.unusedVariables false
set_option linter.unusedSimpArgs false
set_option linter.unusedSectionVars false
set_option maxRecDepth 20000
namespace Go.Eng
open Go Go.Proofs Go.IntWalk
end Go.Eng
end
section
set_option linter.unusedVariables false
set_option linter.unusedSimpArgs false
set_option linter.unusedSectionVars false
set_option maxRecDepth 20000
namespace Go.Eng
open Go Go.Proofs Go.IntWalk
theorem grd3 {P Q R : Prop} [Decidable P] [Decidable Q] [Decidable R] (h : ¬ (P ∧ Q ∧ R)) :
    (IntKind.i64.wrap (IntKind.i64.wrap ((if P then (0 : Int) else 1) + (if Q then 0 else 1)) + (if R then 0 else 1)) > 0) = True := by
  by_cases p : P <;> by_cases q : Q <;> by_cases r : R <;> simp only [p, q, r, if_true, if_false] <;> first | decide | exact absurd ⟨p, q, r⟩ h
theorem MS.point {c : List Value} {f : Nat → Rat} {x y z : Rat} {i : Nat} (h : MS c f 1048576) (hx : RB x i) (hy : RB y i) (hz : RB z i) (hi : 1 ≤ i) (h3 : 3 * i ≤ 65536) :
    spR7Point [.agg ⟨c⟩, .agg ⟨mkE x y z⟩] = some (.agg ⟨mkE (appM f x y z 0) (appM f x y z 1) (appM f x y z 2)⟩) := by
  obtain ⟨p, a, b, e⟩ := h
  obtain ⟨P, eP, cP, ok, e1, e2, e3⟩ := Pt.of_coords hx hy hz hi h3
  rw [eP]
  unfold spR7Point Pt.cells
  simp only [a]
  rw [if_pos ⟨b, ok.1.1, ok.1.2.1, ok.1.2.2.1, ok.1.2.2.2⟩]
  have w : pW P.w = P.w := pW_of (by have := ok.2; omega)
  rw [show sv P.s4 P.l4 = P.w from rfl, w, show sv P.s1 P.l1 = P.x from rfl, show sv P.s2 P.l2 = P.y from rfl, show sv P.s3 P.l3 = P.z from rfl, e1, e2, e3]
  rw [appM_congr e _ _ _ (n := 0) (by omega), appM_congr e _ _ _ (n := 1) (by omega), appM_congr e _ _ _ (n := 2) (by omega)]
def spLPts : List Value → Option Value
  | [.agg ⟨ca⟩, .agg ⟨cb⟩, .agg ⟨[.bool s1, .string ⟨⟨l1⟩⟩, .bool s2, .string ⟨⟨l2⟩⟩, .bool s3, .string ⟨⟨l3⟩⟩, .bool s4, .string ⟨⟨l4⟩⟩]⟩] => match mapOf ca, mapOf cb with
    | some _, some _ => some (.bool true)
    | _, _ => none
  | _ => none
def c6 : ICode :=
  (.seq (.reg [qq 3 (.box 29 36 (.t 0)), qq 4 (.box 29 36 (.t 1)), qq 5 (.box 39 8 (.t 2)), qq 6 (.mv (.c (.bool false)))]) (.seq (.seq (.dreg [qu 11 (.load true 36 (.t 3)), qu 12 (.call 18 [(.t 11)]), qv 13 [1] (.load true 36 (.t 4)), qu 14 (.call 18 [(.t 13)]), qu 15 (.bin .add (.t 12) (.t 14)), qv 16 [1, 3] (.load true 8 (.t 5)), qu 17 (.call 19 [(.t 16)]), qu 18 (.bin .add (.t 15) (.t 17)), qu 19 (.bin .gtr (.t 18) (ci 0))]) (.cond (.t 19) (.seq (.reg [qq 20 (.call 11 []), qq 6 (.mv (.t 20))]) .ret) .skip)) (.seq (.reg [qq 21 (.load true 8 (.t 5)), qq 22 (.call 20 [(.t 21)]), qn (.store 8 (.t 5) (.t 22))]) (.seq (.reg [qq 24 (.load true 36 (.t 3)), qq 25 (.call 30 [(.t 24)]), qq 23 (.mv (.t 25)), qq 26 (.ext (.t 23) 0), qq 27 (.ext (.t 23) 1), qq 7 (.alloc 29 36 [(.bool false), e0, e0, (.bool false), e0, e0, (.bool false), e0, e0, (.bool false), e0, e0, (.bool false), e0, e0, (.bool false), e0, e0, (.bool false), e0, e0, (.bool false), e0, e0, (.bool false), e0, e0, (.bool false), e0, e0, (.bool false), e0, e0, (.bool false), e0, e0]), qn (.store 36 (.t 7) (.t 26)), qq 8 (.mv (.t 27))]) (.seq (.reg [qq 29 (.load true 36 (.t 3)), qq 30 (.call 31 [(.t 29)]), qq 28 (.mv (.t 30)), qq 31 (.ext (.t 28) 0), qq 32 (.ext (.t 28) 1), qq 9 (.alloc 29 36 [(.bool false), e0, e0, (.bool false), e0, e0, (.bool false), e0, e0, (.bool false), e0, e0, (.bool false), e0, e0, (.bool false), e0, e0, (.bool false), e0, e0, (.bool false), e0, e0, (.bool false), e0, e0, (.bool false), e0, e0, (.bool false), e0, e0, (.bool false), e0, e0]), qn (.store 36 (.t 9) (.t 31)), qq 10 (.mv (.t 32))]) (.seq (.dreg [qu 33 (.load true 36 (.t 3)), qu 34 (.load true 8 (.t 5)), qu 35 (.call 21 [(.t 33), (.t 34)]), qv 36 [2] (.load true 36 (.t 3)), qv 37 [2] (.load true 8 (.t 5)), qu 38 (.call 32 [(.t 36), (.t 37)]), qu 39 (.eqa false [.b, .s, .b, .s, .b, .s, .b, .s] (.t 35) (.t 38)), qu 40 (.mv (.t 39)), ⟨(some 41), (some (40, true)), [], (.load true 36 (.t 3))⟩, ⟨(some 42), (some (40, true)), [], (.call 22 [(.t 41)])⟩, ⟨(some 43), (some (40, true)), [9], (.load true 36 (.t 3))⟩, ⟨(some 44), (some (40, true)), [], (.call 33 [(.t 43)])⟩, ⟨(some 45), (some (40, true)), [], (.eqa false [.b, .s, .s] (.t 42) (.t 44))⟩, qu 46 (.pick (.t 40) (.t 45) (.c (.bool false))), qu 47 (.mv (.t 46)), ⟨(some 48), (some (47, true)), [], (.load true 36 (.t 7))⟩, ⟨(some 49), (some (47, true)), [], (.load true 36 (.t 9))⟩, ⟨(some 50), (some (47, true)), [], (.eqa false [.b, .s, .s, .b, .s, .s, .b, .s, .s, .b, .s, .s, .b, .s, .s, .b, .s, .s, .b, .s, .s, .b, .s, .s, .b, .s, .s, .b, .s, .s, .b, .s, .s, .b, .s, .s] (.t 48) (.t 49))⟩, qu 51 (.pick (.t 47) (.t 50) (.c (.bool false))), qu 52 (.mv (.t 51)), ⟨(some 53), (some (52, true)), [], (.mv (.t 8))⟩, ⟨(some 54), (some (52, true)), [], (.mv (.t 10))⟩, ⟨(some 55), (some (52, true)), [], (.eqb false (.t 53) (.t 54))⟩, qu 56 (.pick (.t 52) (.t 55) (.c (.bool false))), qu 57 (.mv (.t 56)), ⟨(some 58), (some (57, true)), [], (.load true 36 (.t 3))⟩, ⟨(some 59), (some (57, true)), [], (.load true 36 (.t 4))⟩, ⟨(some 60), (some (57, true)), [], (.call 16 [(.t 58), (.t 59)])⟩, ⟨(some 61), (some (57, true)), [27], (.load true 36 (.t 3))⟩, ⟨(some 62), (some (57, true)), [27], (.load true 36 (.t 4))⟩, ⟨(some 63), (some (57, true)), [], (.call 34 [(.t 61), (.t 62)])⟩, ⟨(some 64), (some (57, true)), [], (.eqa false [.b, .s, .s, .b, .s, .s, .b, .s, .s, .b, .s, .s, .b, .s, .s, .b, .s, .s, .b, .s, .s, .b, .s, .s, .b, .s, .s, .b, .s, .s, .b, .s, .s, .b, .s, .s] (.t 60) (.t 63))⟩, qu 65 (.pick (.t 57) (.t 64) (.c (.bool false))), qu 66 (.mv (.t 65)), ⟨(some 67), (some (66, true)), [], (.call 17 [])⟩, ⟨(some 68), (some (66, true)), [], (.call 35 [])⟩, ⟨(some 69), (some (66, true)), [], (.eqa false [.b, .s, .s, .b, .s, .s, .b, .s, .s, .b, .s, .s, .b, .s, .s, .b, .s, .s, .b, .s, .s, .b, .s, .s, .b, .s, .s, .b, .s, .s, .b, .s, .s, .b, .s, .s] (.t 67) (.t 68))⟩, qu 70 (.pick (.t 66) (.t 69) (.c (.bool false))), qu 71 (.mv (.t 70)), ⟨(some 72), (some (71, true)), [], (.call 11 [])⟩, qu 73 (.pick (.t 71) (.t 72) (.c (.bool false))), qu 6 (.mv (.t 73))]) .ret))))))
theorem tr6 : trFun Tryz.prog 6 = some ⟨74, [.t 6], c6⟩ := by kernel_rfl
set_option maxHeartbeats 4000000 in
theorem ok_LPts : SpecOK Tryz.prog 6 (flat spLPts) := by
  refine flat_run (env_cons ok_r7Great (env_cons ok_r4Great (env_cons ok_LAaw (env_cons ok_r4Norm (env_cons ok_Ainv (env_cons ok_r7Back (env_cons ok_Aapp (env_cons ok_r7Point (env_cons ok_Adet (env_cons ok_r7Det (env_cons ok_Acomp (env_cons ok_r7After (env_cons ok_Aid (env_cons ok_r7Same (env_nil _))))))))))))))) mixed tr6 ?_
  intro args v h N hG
  unfold spLPts at hG
  split at hG
  case h_2 => cases hG
  rename_i ca cb s1 l1 s2 l2 s3 l3 s4 l4
  split at hG
  case h_2 => cases hG
  rename_i pa pb ha hb
  cases hG
  refine ⟨rfl, by simp, ?_⟩
  have ga := r7Great_of ha
  have gb := r7Great_of hb
  have gx : spR4Great [.agg ⟨[.bool s1, .string ⟨⟨l1⟩⟩, .bool s2, .string ⟨⟨l2⟩⟩, .bool s3, .string ⟨⟨l3⟩⟩, .bool s4, .string ⟨⟨l4⟩⟩]⟩] = some (.int .i64 (if l1.length ≤ 6 ∧ l2.length ≤ 6 ∧ l3.length ≤ 6 ∧ l4.length ≤ 6 then 0 else 1)) := rfl
  have la := (mapOf_spec ha).1
  have lb := (mapOf_spec hb).1
  have oa := (mapOf_spec ha).2.2
  have ob := (mapOf_spec hb).2.2
  have ta : ca.take 36 = ca := List.take_of_length_le (by omega)
  have tb : cb.take 36 = cb := List.take_of_length_le (by omega)
  have aw : spLAaw [] = some (.bool true) := rfl
  by_cases G : mapOk 6 pa ∧ mapOk 6 pb ∧ (l1.length ≤ 6 ∧ l2.length ≤ 6 ∧ l3.length ≤ 6 ∧ l4.length ≤ 6)
  case neg =>
    have gg := grd3 G
    generalize (if mapOk 6 pa then (0 : Int) else 1) = g1 at *
    generalize (if mapOk 6 pb then (0 : Int) else 1) = g2 at *
    generalize (if l1.length ≤ 6 ∧ l2.length ≤ 6 ∧ l3.length ≤ 6 ∧ l4.length ≤ 6 then (0 : Int) else 1) = g4 at *
    simp only [c6, G0, Nat.reduceAdd]
    simp only [↓R0, R1, simprocAttr, -Int.reduceAbs, la, lb, ta, tb, ga, gb, gx, gg, aw, Fin, isEnd, resL, res1, iE, rE]
    exact ⟨_, rfl, rfl, fun k hk => by simp only [ne_nb hk, if_false]⟩
  obtain ⟨Ga, Gb, Gx⟩ := G
  rw [if_pos Ga] at ga
  rw [if_pos Gb] at gb
  rw [if_pos Gx] at gx
  obtain ⟨x, y, z, nx, _, bx, by', bz⟩ := r4Norm_mk (s1 := s1) (s2 := s2) (s3 := s3) (s4 := s4) Gx.1 Gx.2.1 Gx.2.2.1 Gx.2.2.2
  have ma := MS.of ha Ga
  have mb := MS.of hb Gb
  generalize (fun i => (pa i).v) = a at *
  generalize (fun i => (pb i).v) = b at *
  have f1 := (ma.le (k := 1048576) (by omega)).app bx by' bz (by omega) (by omega)
  have f2 := (ma.le (k := 1048576) (by omega)).point bx by' bz (by omega) (by omega)
  have f3 := (ma.le (k := 1048576) (by omega)).comp (mb.le (k := 1048576) (by omega))
  have f4 := (ma.le (k := 1048576) (by omega)).after (mb.le (k := 1048576) (by omega))
  have f5 := (ma.le (k := 1048576) (by omega)).det
  have f6 := (ma.le (k := 1048576) (by omega)).inv
  have f7 := (ma.le (k := 1000) (by omega)).back
  have sid : spAid [] = some (.agg ⟨mE idM⟩) := rfl
  have lz := mE_len
  have oz := mE_ok
  have tz : ∀ f, (mE f).take 36 = mE f := fun f => List.take_of_length_le (by rw [lz]; omega)
  have sz : ∀ f g, setR (mE f) 0 (mE g) = mE g := fun f g => setR_all (mE g) (mE f) (by rw [lz, lz])
  have ez := mE_zero
  have zm : zmap = mE (fun _ => 0) := by rw [ez]; rfl
  rw [zm] at f6 f7
  have sx : setR [.bool s1, .string ⟨⟨l1⟩⟩, .bool s2, .string ⟨⟨l2⟩⟩, .bool s3, .string ⟨⟨l3⟩⟩, .bool s4, .string ⟨⟨l4⟩⟩] 0 (mkE x y z) = mkE x y z := setR_all _ _ rfl
  have lx : (mkE x y z).length = 8 := rfl
  have ox : (mkE x y z).all okCell = true := rfl
  have tx : (mkE x y z).take 8 = mkE x y z := rfl
  have cq1 := ceq_mkE (appM a x y z 0) (appM a x y z 1) (appM a x y z 2)
  have cq2 := ceq_mE' (compM a b)
  have cq3 := ceq_rE (detM a)
  have cq4 := ceq_mE' (invM a)
  have cq5 := ceq_mE' (fun _ => 0)
  have cq6 := ceq_mE' idM
  generalize mkE (appM a x y z 0) (appM a x y z 1) (appM a x y z 2) = X1 at *
  generalize mkE x y z = X0 at *
  generalize rE (detM a) = D2 at *
  have gg : (IntKind.i64.wrap (IntKind.i64.wrap ((0 : Int) + 0) + 0) > 0) = False := by decide
  by_cases h0 : detM a = 0
  · rw [if_pos h0] at f6 f7
    simp only [c6, G0, Nat.reduceAdd]
    simp only [↓R0, R1, simprocAttr, -Int.reduceAbs, ← ez, la, lb, oa, ob, ta, tb, ga, gb, gx, gg, aw, nx, lx, ox, tx, sx, f1, f2, f3, f4, f5, f6, f7, sid, lz, oz, tz, sz, cq1, cq2, cq3, cq4, cq5, cq6, Fin, isEnd, resL, res1]
    exact ⟨_, rfl, rfl, fun k hk => by simp only [ne_nb hk, if_false]⟩
  · rw [if_neg h0] at f6 f7
    simp only [c6, G0, Nat.reduceAdd]
    simp only [↓R0, R1, simprocAttr, -Int.reduceAbs, ← ez, la, lb, oa, ob, ta, tb, ga, gb, gx, gg, aw, nx, lx, ox, tx, sx, f1, f2, f3, f4, f5, f6, f7, sid, lz, oz, tz, sz, cq1, cq2, cq3, cq4, cq5, cq6, Fin, isEnd, resL, res1]
    exact ⟨_, rfl, rfl, fun k hk => by simp only [ne_nb hk, if_false]⟩
end Go.Eng
end
section
set_option linter.unusedVariables false
set_option linter.unusedSimpArgs false
set_option linter.unusedSectionVars false
namespace Go.Eng.K
open Go.Eng
inductive Ki where
  | b | i (k : IntKind) | s
def kiFs (ty : TypeId → Option (List Ki)) (P : Program) : List Field → Nat → Option (List Ki)
  | [], _ => some []
  | f :: r, off =>
    if f.name ≠ "_" ∧ f.offset = off then
      match ty f.type, szOf P f.type with
      | some ks, some n => if ks.length = n then (kiFs ty P r (off + n)).map (ks ++ ·) else none
      | _, _ => none
    else none
def kiTy (P : Program) : Nat → TypeId → Option (List Ki)
  | 0, _ => none
  | d + 1, t =>
    match P.underlying t with
    | some .bool => some [.b]
    | some (.int k) => some [.i k]
    | some .string => some [.s]
    | some (.struct fs) => if P.stoodInHeld t then none else kiFs (kiTy P d) P fs.toList 0
    | some (.array len e) => match kiTy P d e, szOf P e with
      | some ks, some n => if ks.length = n then some (List.replicate len ks).flatten else none
      | _, _ => none
    | _ => none
def kmatch : List Ki → List Value → Prop
  | [], [] => True
  | .b :: ks, .bool _ :: r => kmatch ks r
  | .i k :: ks, .int k' n :: r => (k' = k ∧ (Lit.int k n).wf = true) ∧ kmatch ks r
  | .s :: ks, .string s :: r => s.size ≤ maxLen ∧ kmatch ks r
  | _, _ => False
theorem kmatch_append : ∀ {ks ks' : List Ki} {cs cs' : List Value}, kmatch ks cs → kmatch ks' cs' → kmatch (ks ++ ks') (cs ++ cs')
  | [], _, [], _, _, h => h
  | [], _, _ :: _, _, h, _ => h.elim
  | .b :: ks, ks', cs, cs', h, h' => by
    match cs, h with
    | .bool _ :: r, h => exact kmatch_append (ks := ks) h h'
  | .i k :: ks, ks', cs, cs', h, h' => by
    match cs, h with
    | .int _ _ :: r, h => exact ⟨h.1, kmatch_append (ks := ks) h.2 h'⟩
  | .s :: ks, ks', cs, cs', h, h' => by
    match cs, h with
    | .string _ :: r, h => exact ⟨h.1, kmatch_append (ks := ks) h.2 h'⟩
section
variable {H : Type} {enc : TypeId × Value → H} {P : Program}
theorem cellsOf_sz {t : TypeId} {n : Nat} (h : szOf P t = some n) : P.cellsOf t = n := by
  unfold Program.cellsOf; unfold szOf at h; rw [h]; rfl
def Plain (P : Program) (enc : TypeId × Value → H) (fuel : Nat) (t : TypeId) (ks : List Ki) : Prop :=
  ∀ (w : World) (base : Nat) (spare : Nat → Bool) (held : Bool) (cs : List Value) (x : DataW H × List MemPlace), DataW.trod enc P w base spare held fuel t cs = some x →
    kmatch ks cs ∧ x.2 = [] ∧ ∀ w' base' spare' held', DataW.trod enc P w' base' spare' held' fuel t cs = some x
theorem plain_fields {fuel : Nat} {ty : TypeId → Option (List Ki)} (hty : ∀ t ks n, ty t = some ks → szOf P t = some n → ks.length = n → Plain P enc fuel t ks) :
    ∀ (fs : List Field) (off : Nat) (ks : List Ki), kiFs ty P fs off = some ks → ∀ (w : World) (base : Nat) (spare : Nat → Bool) (held : Bool) (cs : List Value) (xs : List (DataW H × List MemPlace)),
      (fs.mapM fun f => DataW.trod enc P w base spare held fuel f.type ((cs.drop f.offset).take (P.cellsOf f.type))) = some xs → cs.length = off + ks.length →
      kmatch ks (cs.drop off) ∧ xs.flatMap (·.2) = [] ∧ ∀ w' base' spare' held', (fs.mapM fun f => DataW.trod enc P w' base' spare' held' fuel f.type ((cs.drop f.offset).take (P.cellsOf f.type))) = some xs
  | [], off, ks, h, w, base, spare, held, cs, xs, hm, hl => by
    simp only [kiFs, Option.some.injEq] at h
    subst h
    simp only [List.mapM_nil, Option.pure_def, Option.some.injEq] at hm
    subst hm
    simp only [List.length_nil, Nat.add_zero] at hl
    rw [List.drop_eq_nil_of_le (by omega)]
    exact ⟨trivial, rfl, fun _ _ _ _ => rfl⟩
  | f :: r, off, ks, h, w, base, spare, held, cs, xs, hm, hl => by
    simp only [kiFs] at h
    split at h
    case isFalse => cases h
    rename_i hc
    obtain ⟨_, hoff⟩ := hc
    split at h
    case h_2 => cases h
    rename_i ks0 n hk hn
    split at h
    case isFalse => cases h
    rename_i hlen
    rw [Option.map_eq_some_iff] at h
    obtain ⟨ks1, h1, rfl⟩ := h
    have hsz := cellsOf_sz hn
    simp only [List.mapM_cons, Option.bind_eq_bind, Option.bind_eq_some_iff, Option.pure_def, Option.some.injEq] at hm
    obtain ⟨y, hy, ys, hys, rfl⟩ := hm
    have hp := hty f.type ks0 n hk hn hlen w base spare held _ y hy
    obtain ⟨p1, p2, p3⟩ := hp
    simp only [List.length_append] at hl
    obtain ⟨q1, q2, q3⟩ := plain_fields hty r (off + n) ks1 h1 w base spare held cs ys hys (by omega)
    rw [hoff, hsz] at p1
    refine ⟨?_, ?_, ?_⟩
    · have e : cs.drop off = (cs.drop off).take n ++ cs.drop (off + n) := by
        rw [← List.drop_drop, List.take_append_drop]
      rw [e]
      exact kmatch_append p1 q1
    · simp only [List.flatMap_cons, p2, q2, List.nil_append]
    · intro w' base' spare' held'
      simp only [List.mapM_cons, Option.bind_eq_bind, Option.bind_eq_some_iff, Option.pure_def, Option.some.injEq]
      exact ⟨y, p3 w' base' spare' held', ys, q3 w' base' spare' held', rfl⟩
theorem plain_elems {fuel : Nat} {e : TypeId} {ks : List Ki} {n : Nat} (hn : szOf P e = some n) (hl : ks.length = n) (he : Plain P enc fuel e ks) :
    ∀ (m i0 : Nat) (w : World) (base : Nat) (spare : Nat → Bool) (held : Bool) (cs : List Value) (xs : List (DataW H × List MemPlace)),
      ((List.range' i0 m).mapM fun i => DataW.trod enc P w base spare held fuel e ((cs.drop (i * P.cellsOf e)).take (P.cellsOf e))) = some xs → cs.length = (i0 + m) * n →
      kmatch (List.replicate m ks).flatten (cs.drop (i0 * n)) ∧ xs.flatMap (·.2) = [] ∧ ∀ w' base' spare' held', ((List.range' i0 m).mapM fun i => DataW.trod enc P w' base' spare' held' fuel e ((cs.drop (i * P.cellsOf e)).take (P.cellsOf e))) = some xs
  | 0, i0, w, base, spare, held, cs, xs, hm, hlen => by
    simp only [List.range'_zero, List.mapM_nil, Option.pure_def, Option.some.injEq] at hm
    subst hm
    simp only [Nat.add_zero] at hlen
    rw [List.drop_eq_nil_of_le (by omega)]
    exact ⟨trivial, rfl, fun _ _ _ _ => by simp⟩
  | m + 1, i0, w, base, spare, held, cs, xs, hm, hlen => by
    have hsz := cellsOf_sz hn
    simp only [List.range'_succ, List.mapM_cons, Option.bind_eq_bind, Option.bind_eq_some_iff, Option.pure_def, Option.some.injEq] at hm
    obtain ⟨y, hy, ys, hys, rfl⟩ := hm
    obtain ⟨p1, p2, p3⟩ := he w base spare held _ y hy
    obtain ⟨q1, q2, q3⟩ := plain_elems hn hl he m (i0 + 1) w base spare held cs ys hys (by rw [hlen]; congr 1; omega)
    rw [hsz] at p1
    refine ⟨?_, ?_, ?_⟩
    · rw [List.replicate_succ, List.flatten_cons]
      have e : cs.drop (i0 * n) = (cs.drop (i0 * n)).take n ++ cs.drop ((i0 + 1) * n) := by
        rw [Nat.succ_mul, ← List.drop_drop, List.take_append_drop]
      rw [e]
      exact kmatch_append p1 q1
    · simp only [List.flatMap_cons, p2, q2, List.nil_append]
    · intro w' base' spare' held'
      simp only [List.range'_succ, List.mapM_cons, Option.bind_eq_bind, Option.bind_eq_some_iff, Option.pure_def, Option.some.injEq]
      exact ⟨y, p3 w' base' spare' held', ys, q3 w' base' spare' held', rfl⟩
theorem plain_ty : ∀ (fuel d : Nat) (t : TypeId) (ks : List Ki) (n : Nat), kiTy P d t = some ks → szOf P t = some n → ks.length = n → Plain P enc fuel t ks
  | 0, d, t, ks, n, h, hn, hl => by intro w base spare held cs x hx; simp [DataW.trod] at hx
  | fuel + 1, 0, t, ks, n, h, hn, hl => by simp [kiTy] at h
  | fuel + 1, d + 1, t, ks, n, h, hn, hl => by
    intro w base spare held cs x hx
    unfold kiTy at h
    unfold DataW.trod at hx ⊢
    split at h
    · rename_i hu
      cases h
      rw [hu] at hx ⊢
      match cs, hx with
      | [.bool b], hx => simp only [Option.some.injEq] at hx; subst hx; exact ⟨trivial, rfl, fun _ _ _ _ => rfl⟩
    · rename_i k hu
      cases h
      rw [hu] at hx ⊢
      match cs, hx with
      | [.int k' m], hx =>
        simp only at hx
        split at hx
        · rename_i hc
          simp only [Option.some.injEq] at hx; subst hx
          exact ⟨⟨hc, trivial⟩, rfl, fun _ _ _ _ => by simp only; rw [if_pos hc]⟩
        · cases hx
    · rename_i hu
      cases h
      rw [hu] at hx ⊢
      match cs, hx with
      | [.string s], hx =>
        simp only at hx
        split at hx
        · rename_i hc
          simp only [Option.some.injEq] at hx; subst hx
          exact ⟨⟨hc, trivial⟩, rfl, fun _ _ _ _ => by simp only; rw [if_pos hc]⟩
        · cases hx
    · rename_i fs hu
      split at h
      · cases h
      rw [hu] at hx ⊢
      simp only at hx ⊢
      split at hx
      case isFalse => cases hx
      rename_i hlen
      rw [Option.map_eq_some_iff] at hx
      obtain ⟨xs, hxs, rfl⟩ := hx
      rw [cellsOf_sz hn, ← hl] at hlen
      obtain ⟨p1, p2, p3⟩ := plain_fields (fuel := fuel) (fun t ks n h1 h2 h3 => plain_ty fuel d t ks n h1 h2 h3) fs.toList 0 ks h w base spare held cs xs hxs (by omega)
      refine ⟨by simpa using p1, p2, fun w' base' spare' held' => ?_⟩
      rw [if_pos (by rw [cellsOf_sz hn, ← hl, hlen]), p3]; rfl
    · rename_i len e hu
      split at h
      case h_2 => cases h
      rename_i ks0 m hk hm
      split at h
      case isFalse => cases h
      rename_i hlm
      simp only [Option.some.injEq] at h
      subst h
      rw [hu] at hx ⊢
      simp only at hx ⊢
      split at hx
      case isFalse => cases hx
      rename_i hlen
      rw [Option.map_eq_some_iff] at hx
      obtain ⟨xs, hxs, rfl⟩ := hx
      rw [cellsOf_sz hn, ← hl] at hlen
      rw [List.range_eq_range'] at hxs
      have hfl : ((List.replicate len ks0).flatten).length = len * m := by rw [List.length_flatten]; simp [hlm]
      obtain ⟨p1, p2, p3⟩ := plain_elems hm hlm (plain_ty fuel d e ks0 m hk hm hlm) len 0 w base spare held cs xs hxs (by rw [hlen, hfl, Nat.zero_add])
      refine ⟨by simpa using p1, p2, fun w' base' spare' held' => ?_⟩
      rw [if_pos (by rw [cellsOf_sz hn, ← hl, hlen]), List.range_eq_range', p3]; rfl
    · cases h
theorem trod_plain {w : World} {t : TypeId} {v : Value} {d : DataW H} {ps : List MemPlace} {ks : List Ki} {n : Nat} {base : Nat} {spare : Nat → Bool} {held : Bool}
    (hf : kiTy P 20 t = some ks) (hs : szOf P t = some n) (hl : ks.length = n) (h : DataW.Trod enc P w base spare held t v d ps) :
    kmatch ks v.cells.toList ∧ ps = [] ∧ ∀ w' base' spare' held', DataW.Trod enc P w' base' spare' held' t v d ps := by
  obtain ⟨fuel, h⟩ := h
  obtain ⟨p1, p2, p3⟩ := plain_ty fuel 20 t ks n hf hs hl w base spare held _ _ h
  exact ⟨p1, p2, fun w' base' spare' held' => ⟨fuel, p3 w' base' spare' held'⟩⟩
end
theorem agg_of {v : Value} {cs : List Value} (h : v.cells.toList = cs) (h2 : 2 ≤ cs.length) : v = .agg ⟨cs⟩ := by
  rw [vcells_eq] at h
  cases v <;> simp [vcells] at h <;> subst h <;> first | rfl | simp at h2
theorem flat_calls {P : Program} {f : Nat} {G : List Value → Option Value} (hS : SpecOK P f (flat G)) {args : List Value} {v : Value} (hG : G args = some v) (ha : ∀ β, VRs β args args) (hv : isBase v = true) (w : World) :
    Calls P f ⟨args⟩ w fun e w' => e = .returned v ∧ w.keptBut w' (fun _ => False) := by
  have h := hS.ok args [] 0 (v, [], 0) (by simp [flat, hG]) (fun _ => none) w args (ha _)
    ⟨fun k b e => by simp [hget] at e, fun k k' L L' e => by simp [hget] at e, fun k L e => by cases e⟩ (fun _ _ _ => rfl) ⟨0, fun k e => absurd rfl e⟩
  refine h.mono ?_
  rintro e w' ⟨β', v', he, hvr, hrel, hfr, _⟩
  refine ⟨?_, hfr.os, hfr.out, fun i hi => ?_⟩
  · rw [he, hvr.base_left hv]
  · rw [hfr.keep i hi (fun k L hk => by obtain ⟨b, e, _⟩ := hk; simp [hget] at e)]
    cases w.heap[i]? with
    | none => rfl
    | some o =>
      cases o with
      | cells c t fr => exact ⟨rfl, rfl, rfl, fun _ _ => rfl⟩
      | map es cl => exact .inr ⟨rfl, rfl⟩
      | _ => rfl
end Go.Eng.K
end
