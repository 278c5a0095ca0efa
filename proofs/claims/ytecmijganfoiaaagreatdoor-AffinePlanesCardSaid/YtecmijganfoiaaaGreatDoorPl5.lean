/-
  A part of the proof: the machine, the contracts of the functions and the plain laws, merged from smaller texts.
-/
import Derived.Test.YtecmijganfoiaaaGreatDoorPl4
import Derived.RowKit3
import Derived.ChangeSame
section
set_option linter.unusedVariables false
set_option linter.unusedSimpArgs false
set_option linter.unusedSectionVars false
set_option maxRecDepth 20000
namespace Go.Eng
open Go Go.Proofs Go.IntWalk
def upd (f : Nat → Rat) (i : Nat) (x : Rat) (k : Nat) : Rat := if k = i then x else f k
theorem mE_set (f : Nat → Rat) (x : Rat) : ∀ i, i < 12 → setR (mE f) (i * 3) (rE x) = mE (upd f i x) :=
  each12 rfl rfl rfl rfl rfl rfl rfl rfl rfl rfl rfl rfl
theorem mE_get (f : Nat → Rat) : ∀ i, i < 12 → ((mE f).drop (i * 3)).take 3 = rE (f i) :=
  each12 rfl rfl rfl rfl rfl rfl rfl rfl rfl rfl rfl rfl
theorem mE_zero : mE (fun _ => 0) = [.bool false, .string ⟨⟨[]⟩⟩, .string ⟨⟨[]⟩⟩, .bool false, .string ⟨⟨[]⟩⟩, .string ⟨⟨[]⟩⟩, .bool false, .string ⟨⟨[]⟩⟩, .string ⟨⟨[]⟩⟩, .bool false, .string ⟨⟨[]⟩⟩, .string ⟨⟨[]⟩⟩, .bool false, .string ⟨⟨[]⟩⟩, .string ⟨⟨[]⟩⟩, .bool false, .string ⟨⟨[]⟩⟩, .string ⟨⟨[]⟩⟩, .bool false, .string ⟨⟨[]⟩⟩, .string ⟨⟨[]⟩⟩, .bool false, .string ⟨⟨[]⟩⟩, .string ⟨⟨[]⟩⟩, .bool false, .string ⟨⟨[]⟩⟩, .string ⟨⟨[]⟩⟩, .bool false, .string ⟨⟨[]⟩⟩, .string ⟨⟨[]⟩⟩, .bool false, .string ⟨⟨[]⟩⟩, .string ⟨⟨[]⟩⟩, .bool false, .string ⟨⟨[]⟩⟩, .string ⟨⟨[]⟩⟩] := by
  show (List.range 12).flatMap (fun _ => rE 0) = _
  rw [rE_zero]; rfl
def RC (c : List Value) (x : Rat) (k : Nat) : Prop := ∃ q : RQ, c = q.cells ∧ q.v = x ∧ q.ok k
theorem RC.rE {x : Rat} {k : Nat} (h : RB x k) : RC (rE x) x k := ⟨RQ.of x, rfl, RQ.of_v x, RQ.of_ok h⟩
theorem RC.raw {q : RQ} {k : Nat} (h : q.ok k) : RC q.cells q.v k := ⟨q, rfl, rfl, h⟩
theorem RC.len {c : List Value} {x : Rat} {k : Nat} (h : RC c x k) : c.length = 3 := by obtain ⟨q, rfl, _, _⟩ := h; rfl
theorem RC.all {c : List Value} {x : Rat} {k : Nat} (h : RC c x k) : c.all okCell = true := by obtain ⟨q, rfl, _, _⟩ := h; rfl
theorem RC.rb {c : List Value} {x : Rat} {k : Nat} (h : RC c x k) : RB x (k + 1) := by obtain ⟨q, _, rfl, o⟩ := h; exact o.rb
theorem RC.le {c : List Value} {x : Rat} {i k : Nat} (h : RC c x i) (hk : i ≤ k) : RC c x k := by obtain ⟨q, a, b, o⟩ := h; exact ⟨q, a, b, o.le hk⟩
theorem RC.mul {c d : List Value} {x y : Rat} {i j : Nat} (h : RC c x i) (h' : RC d y j) (hi : i ≤ 8589934592) (hj : j ≤ 8589934592) : spR3Mul [.agg ⟨c⟩, .agg ⟨d⟩] = some (.agg ⟨Go.Eng.rE (x * y)⟩) := by
  obtain ⟨p, rfl, rfl, o⟩ := h
  obtain ⟨q, rfl, rfl, o'⟩ := h'
  exact if_pos ⟨Nat.le_trans o.1 hi, Nat.le_trans o.2 hi, Nat.le_trans o'.1 hj, Nat.le_trans o'.2 hj⟩
theorem RC.add {c d : List Value} {x y : Rat} {i j : Nat} (h : RC c x i) (h' : RC d y j) (hi : i ≤ 8589934592) (hj : j ≤ 8589934592) : spR3Add [.agg ⟨c⟩, .agg ⟨d⟩] = some (.agg ⟨Go.Eng.rE (x + y)⟩) := by
  obtain ⟨p, rfl, rfl, o⟩ := h
  obtain ⟨q, rfl, rfl, o'⟩ := h'
  exact if_pos ⟨Nat.le_trans o.1 hi, Nat.le_trans o.2 hi, Nat.le_trans o'.1 hj, Nat.le_trans o'.2 hj⟩
theorem RC.sub {c d : List Value} {x y : Rat} {i j : Nat} (h : RC c x i) (h' : RC d y j) (hi : i ≤ 8589934592) (hj : j + 1 ≤ 8589934592) : spR3Sub [.agg ⟨c⟩, .agg ⟨d⟩] = some (.agg ⟨Go.Eng.rE (x - y)⟩) := by
  obtain ⟨p, rfl, rfl, o⟩ := h
  obtain ⟨q, rfl, rfl, o'⟩ := h'
  exact if_pos ⟨Nat.le_trans o.1 hi, Nat.le_trans o.2 hi, Nat.le_trans o'.1 (by omega), Nat.le_trans (Nat.succ_le_succ o'.2) hj⟩
theorem rv_nl {s : Bool} {n d : List UInt8} (h : nl n = 0) : rv s n d = 0 := by
  unfold rv
  rw [(sv_eq_zero s n).2 h]; exact Rat.zero_divInt _
theorem RC.div {c d : List Value} {x y : Rat} {i j : Nat} (h : RC c x i) (h' : RC d y j) (hi : i ≤ 8589934592) (hj : j ≤ 8589934592) (hy : y ≠ 0) : spR3Div [.agg ⟨c⟩, .agg ⟨d⟩] = some (.tuple ⟨[.agg ⟨Go.Eng.rE (x / y)⟩, .bool true]⟩) := by
  obtain ⟨p, rfl, rfl, o⟩ := h
  obtain ⟨q, rfl, rfl, o'⟩ := h'
  refine (if_pos ⟨Nat.le_trans o.1 hi, Nat.le_trans o.2 hi, Nat.le_trans o'.1 hj, Nat.le_trans o'.2 hj⟩).trans (if_neg fun e => hy (rv_nl e))
theorem RC.norm {c : List Value} {x : Rat} {i : Nat} (h : RC c x i) (hi : i ≤ 34359738368) : spR3Norm [.agg ⟨c⟩] = some (.agg ⟨Go.Eng.rE x⟩) := by
  obtain ⟨p, rfl, rfl, o⟩ := h
  exact if_pos ⟨Nat.le_trans o.1 hi, Nat.le_trans o.2 hi⟩
theorem RC.neg {c : List Value} {x : Rat} {i : Nat} (h : RC c x i) (hi : i ≤ 34359738368) : spR3Neg [.agg ⟨c⟩] = some (.agg ⟨Go.Eng.rE (-x)⟩) := by
  obtain ⟨p, rfl, rfl, o⟩ := h
  exact if_pos ⟨Nat.le_trans o.1 hi, Nat.le_trans o.2 hi⟩
theorem st3 (a b c : Value) (x : Rat) : setR [a, b, c] 0 (rE x) = rE x := rfl
theorem st3' (y x : Rat) : setR (rE y) 0 (rE x) = rE x := rfl
theorem tk3 (x : Rat) : (rE x).take 3 = rE x := rfl
theorem r3Sign_rE {x : Rat} {i : Nat} (h : RB x i) (hi : i ≤ 34359738368) : spR3Sign [.agg ⟨rE x⟩] = some (.int .i64 x.num.sign) := by
  refine (if_pos ⟨h.num hi, h.den hi⟩).trans ?_
  rw [sv_can]
def spR3From : List Value → Option Value
  | [.int .i64 x] => if -1000 ≤ x ∧ x ≤ 1000 then some (.agg ⟨rE (x : Rat)⟩) else none
  | _ => none
def c94 : ICode :=
  (.seq (.reg [qq 2 (.alloc 23 3 [(.bool false), e0, e0])]) (.seq (.reg [qq 6 (.mv (.t 0)), qq 7 (.call 53 [(.t 6)]), qq 8 (.call 121 []), qq 9 (.call 87 [(.t 7), (.t 8)]), qq 5 (.mv (.t 9)), qq 10 (.ext (.t 5) 0), qq 11 (.ext (.t 5) 1), qq 3 (.alloc 23 3 [(.bool false), e0, e0]), qn (.store 3 (.t 3) (.t 10)), qq 4 (.mv (.t 11))]) (.seq (.reg [qq 12 (.load true 3 (.t 3)), qn (.store 3 (.t 2) (.t 12))]) .ret)))
theorem tr94 : trFun Tryz.prog 94 = some ⟨13, [.cell 2 true 3], c94⟩ := by kernel_rfl
theorem ok_r3From : SpecOK Tryz.prog 94 (flat spR3From) := by
  refine flat_run (env_cons ok_r2From (env_cons ok_r3one (env_cons ok_r3Make (env_nil _)))) mixed tr94 ?_
  intro args v h N hG
  unfold spR3From at hG
  split at hG
  case h_2 => cases hG
  rename_i x
  split at hG
  case isFalse => cases hG
  rename_i hl
  obtain ⟨h1, h2⟩ := hl
  cases hG
  refine ⟨rfl, by simp, ?_⟩
  have g : -9223372036854775808 ≤ x ∧ x ≤ 9223372036854775807 := ⟨by omega, by omega⟩
  have o1 : sv false (bl (Int.natAbs 1)) = 1 := by rw [sv_false, nl_bl]; rfl
  have o2 : (bl (Int.natAbs 1)).length ≤ 68719476736 := Nat.le_trans (bl_length_le (k := 1).2 (by decide)) (by omega)
  have o3 : ¬ (Int.natAbs 1 = 0) := by decide
  have o4 : (bl x.natAbs).length ≤ 68719476736 := Nat.le_trans (bl_length_le (k := 2).2 (by omega)) (by omega)
  rw [← divInt_one]
  simp only [c94, G0, Nat.reduceAdd]
  simp only [↓R0, R1, simprocAttr, -Int.reduceAbs, spI2From, spOne, spR3Make, g, o1, o2, o3, o4, sv_can, nl_bl, Fin, isEnd, resL, res1, iE, rE]
  exact ⟨_, rfl, rfl, fun k hk => by simp only [ne_nb hk, if_false]⟩
def c44 : ICode :=
  (.seq (.reg [qq 2 (.alloc 23 3 [(.bool false), e0, e0])]) (.seq (.reg [qq 3 (.mv (.t 0)), qq 4 (.call 94 [(.t 3)]), qn (.store 3 (.t 2) (.t 4))]) .ret))
theorem tr44 : trFun Tryz.prog 44 = some ⟨5, [.cell 2 true 3], c44⟩ := by kernel_rfl
theorem ok_r7num : SpecOK Tryz.prog 44 (flat spR3From) := by
  refine flat_run (env_cons ok_r3From (env_nil _)) mixed tr44 ?_
  intro args v h N hG
  unfold spR3From at hG
  split at hG
  case h_2 => cases hG
  rename_i x
  split at hG
  case isFalse => cases hG
  rename_i hl
  cases hG
  refine ⟨rfl, by simp, ?_⟩
  have e : spR3From [.int .i64 x] = some (.agg ⟨rE (x : Rat)⟩) := if_pos hl
  simp only [c44, G0, Nat.reduceAdd]
  simp only [↓R0, R1, simprocAttr, -Int.reduceAbs, e, Fin, isEnd, resL, res1, iE, rE]
  exact ⟨_, rfl, rfl, fun k hk => by simp only [ne_nb hk, if_false]⟩
theorem num0 : spR3From [.int .i64 0] = some (.agg ⟨rE 0⟩) := by unfold spR3From; exact if_pos (by decide)
theorem num1 : spR3From [.int .i64 1] = some (.agg ⟨rE 1⟩) := by unfold spR3From; exact if_pos (by decide)
theorem num2 : spR3From [.int .i64 2] = some (.agg ⟨rE 2⟩) := by unfold spR3From; exact if_pos (by decide)
theorem mE_set0 (i : Nat) (h : i < 12) : setR (mE fun _ => 0) (i * 3) (rE 0) = mE fun _ => 0 := by
  rw [mE_set _ _ i h]
  refine mE_congr fun k _ => ?_
  unfold upd; split <;> rfl
theorem mE_set_id : setR (setR (setR (mE fun _ => 0) 0 (rE 1)) 15 (rE 1)) 30 (rE 1) = mE idM := by
  rw [show (0 : Nat) = 0 * 3 from rfl, mE_set _ _ 0 (by decide), show (15 : Nat) = 5 * 3 from rfl, mE_set _ _ 5 (by decide), show (30 : Nat) = 10 * 3 from rfl, mE_set _ _ 10 (by decide)]
  exact mE_congr (by decide +kernel)
def c35 : ICode :=
  (.seq (.reg [qq 0 (.alloc 29 36 [(.bool false), e0, e0, (.bool false), e0, e0, (.bool false), e0, e0, (.bool false), e0, e0, (.bool false), e0, e0, (.bool false), e0, e0, (.bool false), e0, e0, (.bool false), e0, e0, (.bool false), e0, e0, (.bool false), e0, e0, (.bool false), e0, e0, (.bool false), e0, e0])]) (.seq (.reg [qq 3 (.build [(.bool false), e0, e0, (.bool false), e0, e0, (.bool false), e0, e0, (.bool false), e0, e0, (.bool false), e0, e0, (.bool false), e0, e0, (.bool false), e0, e0, (.bool false), e0, e0, (.bool false), e0, e0, (.bool false), e0, e0, (.bool false), e0, e0, (.bool false), e0, e0] []), qq 1 (.alloc 29 36 [(.bool false), e0, e0, (.bool false), e0, e0, (.bool false), e0, e0, (.bool false), e0, e0, (.bool false), e0, e0, (.bool false), e0, e0, (.bool false), e0, e0, (.bool false), e0, e0, (.bool false), e0, e0, (.bool false), e0, e0, (.bool false), e0, e0, (.bool false), e0, e0]), qn (.store 36 (.t 1) (.t 3))]) (.seq (.seq (.reg [qq 2 (.mv (ci 0))]) (.block 0 (.loop (.seq (.seq (.reg [qq 4 (.mv (.t 2)), qq 5 (.bin .lss (.t 4) (ci 12))]) (.cond (.t 5) .skip (.exit 0))) (.seq (.block 1 (.reg [qq 8 (.mv (.t 2)), qq 9 (.call 44 [(ci 0)]), qq 10 (.ixarr 12 3 (.t 1) (.t 8)), qn (.store 3 (.t 10) (.t 9))])) (.reg [qq 6 (.mv (.t 2)), qq 7 (.bin .add (.t 6) (ci 1)), qq 2 (.mv (.t 7))])))))) (.seq (.reg [qq 11 (.call 44 [(ci 1)]), qq 12 (.call 44 [(ci 1)]), qq 13 (.call 44 [(ci 1)]), qq 14 (.ixarr 12 3 (.t 1) (ci 0)), qn (.store 3 (.t 14) (.t 11)), qq 15 (.ixarr 12 3 (.t 1) (ci 5)), qn (.store 3 (.t 15) (.t 12)), qq 16 (.ixarr 12 3 (.t 1) (ci 10)), qn (.store 3 (.t 16) (.t 13))]) (.seq (.reg [qq 17 (.load true 36 (.t 1)), qn (.store 36 (.t 0) (.t 17))]) .ret)))))
theorem tr35 : trFun Tryz.prog 35 = some ⟨18, [.cell 0 true 36], c35⟩ := by kernel_rfl
set_option maxHeartbeats 1000000 in
theorem ok_r7Same : SpecOK Tryz.prog 35 (flat spAid) := by
  refine flat_run (env_cons ok_r7num (env_nil _)) mixed tr35 ?_
  intro args v h N hG
  unfold spAid at hG
  split at hG
  case h_2 => cases hG
  cases hG
  refine ⟨mE_base idM, by simp, ?_⟩
  have lz := mE_len fun _ => 0
  have oz := mE_ok fun _ => 0
  have tz : (mE fun _ => 0).take 36 = mE fun _ => 0 := List.take_of_length_le (by omega)
  have li := mE_len idM
  have oi := mE_ok idM
  have ti : (mE idM).take 36 = mE idM := List.take_of_length_le (by omega)
  have sz := setR_all (mE fun _ => 0) (mE fun _ => 0) rfl
  have si := setR_all (mE idM) (mE fun _ => 0) (by rw [li, lz])
  have s0 := mE_set0
  have sid := mE_set_id
  have ez := mE_zero
  generalize (mE fun _ => 0) = Z at *
  generalize mE idM = I at *
  simp only [c35, G0, Nat.reduceAdd]
  simp only [↓R0, R1, simprocAttr, -Int.reduceAbs, ← ez, lz, oz, tz, sz]
  refine lp_parts (fun n tm hp nx => ∃ (i : Nat), n + i = 12 ∧ tmget tm 2 = .int .i64 i ∧ tmget tm 0 = .pointer (some ⟨N + 0, 0, none⟩) ∧ tmget tm 1 = .pointer (some ⟨N + 1, 0, none⟩) ∧
      hget hp (N + 0) = some ⟨29, 36, true, Z⟩ ∧ hget hp (N + 1) = some ⟨29, 36, true, Z⟩ ∧ (∀ k, k < N → hget hp k = hget h k) ∧ nx = N + 2) ?_ 12
    ⟨0, by omega, ?_, ?_, ?_, ?_, ?_, ?_, rfl⟩
  · intro n tm hp nx ⟨i, hn, t2, t0, t1, b0, b1, hh, hnx⟩
    rw [hnx]
    clear hnx nx
    by_cases c1 : i < 12
    · have ei : IntKind.i64.wrap ((i : Int) + 1) = ((i + 1 : Nat) : Int) := by rw [i64_in _ (by omega)]; omega
      have l1 : ((i : Int) < 12) = True := eq_true (by omega)
      have w1 : (i * 3 + 3 ≤ 36) = True := eq_true (by omega)
      have si := s0 i c1
      simp only [↓R0, R1, simprocAttr, -Int.reduceAbs, t0, t1, t2, b0, b1, l1, c1, num0, ei, lz, oz, w1, si, rE_len, rE_ok]
      refine ⟨n - 1, by omega, i + 1, by omega, rfl, fun k hk => ?_⟩
      rw [if_neg (by omega)]; exact hh k hk
    · have e : i = 12 := by omega
      have l1 : ((12 : Int) < 12) = False := eq_false (by omega)
      subst e
      simp only [↓R0, R1, simprocAttr, -Int.reduceAbs, t0, t1, t2, b0, b1, l1, num1, lz, oz, rE_len, rE_ok, setR_length, sid, li, oi, ti, si, Fin, isEnd, resL, res1]
      refine ⟨_, rfl, rfl, fun k hk => ?_⟩
      simp only [show ∀ j, (N + j = k) = False from fun j => eq_false (by omega), if_false]; exact hh k hk
  all_goals first | (simp only [↓R0, R1, simprocAttr, -Int.reduceAbs]; done) | (simp only [↓R0, R1, simprocAttr, -Int.reduceAbs]; rfl) | skip
  intro k hk
  have nb : ∀ j, (N + j = k) = False := fun j => eq_false (by omega)
  simp only [↓R0, R1, simprocAttr, -Int.reduceAbs, nb]
end Go.Eng
end
section
set_option linter.unusedVariables false
set_option linter.unusedSimpArgs false
set_option linter.unusedSectionVars false
set_option maxRecDepth 20000
namespace Go.Eng
open Go Go.Proofs Go.IntWalk
def spR7minor : List Value → Option Value
  | [.agg ⟨cs⟩, .int .i64 r, .int .i64 c] => match mapOf cs with
    | some p => if (0 ≤ r ∧ r < 3 ∧ 0 ≤ c ∧ c < 3) ∧ mapOk 1048576 p then some (.agg ⟨rE (minorM (fun i => (p i).v) r.toNat c.toNat)⟩) else none
    | none => none
  | _ => none
def c79 : ICode :=
  (.seq (.reg [qq 3 (.box 29 36 (.t 0)), qq 6 (.alloc 23 3 [(.bool false), e0, e0])]) (.seq (.reg [qq 9 (.mv (.t 1)), qq 10 (.bin .add (.t 9) (ci 1)), qq 11 (.bin .rem (.t 10) (ci 3)), qq 12 (.mv (.t 1)), qq 13 (.bin .add (.t 12) (ci 2)), qq 14 (.bin .rem (.t 13) (ci 3)), qq 15 (.build [(.int .i64 0), (.int .i64 0)] [(0, 1, (.t 11)), (1, 1, (.t 14))]), qq 7 (.alloc 108 2 [(.int .i64 0), (.int .i64 0)]), qn (.store 2 (.t 7) (.t 15))]) (.seq (.reg [qq 16 (.mv (.t 2)), qq 17 (.bin .add (.t 16) (ci 1)), qq 18 (.bin .rem (.t 17) (ci 3)), qq 19 (.mv (.t 2)), qq 20 (.bin .add (.t 19) (ci 2)), qq 21 (.bin .rem (.t 20) (ci 3)), qq 22 (.build [(.int .i64 0), (.int .i64 0)] [(0, 1, (.t 18)), (1, 1, (.t 21))]), qq 8 (.alloc 108 2 [(.int .i64 0), (.int .i64 0)]), qn (.store 2 (.t 8) (.t 22))]) (.seq (.dreg [qu 23 (.ixarr 2 1 (.t 7) (ci 0)), qu 24 (.load false 1 (.t 23)), qu 25 (.bin .mul (ci 4) (.t 24)), qu 26 (.ixarr 2 1 (.t 8) (ci 0)), qu 27 (.load false 1 (.t 26)), qu 28 (.bin .add (.t 25) (.t 27)), qu 29 (.ixarr 12 3 (.t 3) (.t 28)), qu 30 (.load true 3 (.t 29)), qu 31 (.ixarr 2 1 (.t 7) (ci 1)), qu 32 (.load false 1 (.t 31)), qu 33 (.bin .mul (ci 4) (.t 32)), qu 34 (.ixarr 2 1 (.t 8) (ci 1)), qu 35 (.load false 1 (.t 34)), qu 36 (.bin .add (.t 33) (.t 35)), qu 37 (.ixarr 12 3 (.t 3) (.t 36)), qu 38 (.load true 3 (.t 37)), qu 39 (.call 85 [(.t 30), (.t 38)]), qu 40 (.ixarr 2 1 (.t 7) (ci 0)), qv 41 [16] (.load false 1 (.t 40)), qu 42 (.bin .mul (ci 4) (.t 41)), qu 43 (.ixarr 2 1 (.t 8) (ci 1)), qv 44 [16] (.load false 1 (.t 43)), qu 45 (.bin .add (.t 42) (.t 44)), qu 46 (.ixarr 12 3 (.t 3) (.t 45)), qv 47 [16] (.load true 3 (.t 46)), qu 48 (.ixarr 2 1 (.t 7) (ci 1)), qv 49 [16] (.load false 1 (.t 48)), qu 50 (.bin .mul (ci 4) (.t 49)), qu 51 (.ixarr 2 1 (.t 8) (ci 0)), qv 52 [16] (.load false 1 (.t 51)), qu 53 (.bin .add (.t 50) (.t 52)), qu 54 (.ixarr 12 3 (.t 3) (.t 53)), qv 55 [16] (.load true 3 (.t 54)), qu 56 (.call 85 [(.t 47), (.t 55)]), qu 57 (.call 88 [(.t 39), (.t 56)]), qm (.store 3 (.t 6) (.t 57))]) .ret))))
theorem tr79 : trFun Tryz.prog 79 = some ⟨58, [.cell 6 true 3], c79⟩ := by kernel_rfl
set_option maxHeartbeats 4000000 in
theorem ok_r7minor : SpecOK Tryz.prog 79 (flat spR7minor) := by
  refine flat_run (env_cons ok_r3Mul (env_cons ok_r3Sub (env_nil _))) mixed tr79 ?_
  intro args v h N hG
  unfold spR7minor at hG
  split at hG
  case h_2 => cases hG
  rename_i cs r c
  split at hG
  case h_2 => cases hG
  rename_i p hp
  split at hG
  case isFalse => cases hG
  rename_i hl
  obtain ⟨⟨hr0, hr, hc0, hc⟩, hop⟩ := hl
  obtain ⟨r, rfl⟩ := Int.eq_ofNat_of_zero_le hr0
  obtain ⟨c, rfl⟩ := Int.eq_ofNat_of_zero_le hc0
  simp only [Int.toNat_natCast] at hG
  cases hG
  obtain ⟨l1, hat, o1⟩ := mapOf_spec hp
  rw [mapOk_iff] at hop
  refine ⟨rfl, by simp, ?_⟩
  have t1 : cs.take 36 = cs := List.take_of_length_le (by omega)
  have wr1 : IntKind.i64.wrap ((r : Int) + 1) = ((r + 1 : Nat) : Int) := by rw [i64_in _ (by omega)]; omega
  have wr2 : IntKind.i64.wrap ((r : Int) + 2) = ((r + 2 : Nat) : Int) := by rw [i64_in _ (by omega)]; omega
  have wc1 : IntKind.i64.wrap ((c : Int) + 1) = ((c + 1 : Nat) : Int) := by rw [i64_in _ (by omega)]; omega
  have wc2 : IntKind.i64.wrap ((c : Int) + 2) = ((c + 2 : Nat) : Int) := by rw [i64_in _ (by omega)]; omega
  unfold minorM
  dsimp only
  have mr1 : Int.tmod ((r + 1 : Nat) : Int) 3 = (((r + 1) % 3 : Nat) : Int) := by rw [Int.tmod_eq_emod_of_nonneg (by omega)]; rfl
  have mr2 : Int.tmod ((r + 2 : Nat) : Int) 3 = (((r + 2) % 3 : Nat) : Int) := by rw [Int.tmod_eq_emod_of_nonneg (by omega)]; rfl
  have mc1 : Int.tmod ((c + 1 : Nat) : Int) 3 = (((c + 1) % 3 : Nat) : Int) := by rw [Int.tmod_eq_emod_of_nonneg (by omega)]; rfl
  have mc2 : Int.tmod ((c + 2 : Nat) : Int) 3 = (((c + 2) % 3 : Nat) : Int) := by rw [Int.tmod_eq_emod_of_nonneg (by omega)]; rfl
  have br1 : (r + 1) % 3 < 3 := by omega
  have br2 : (r + 2) % 3 < 3 := by omega
  have bc1 : (c + 1) % 3 < 3 := by omega
  have bc2 : (c + 2) % 3 < 3 := by omega
  generalize (r + 1) % 3 = U1 at *
  generalize (r + 2) % 3 = U2 at *
  generalize (c + 1) % 3 = W1 at *
  generalize (c + 2) % 3 = W2 at *
  have vr1 : IntKind.i64.wrap (4 * (U1 : Int)) = ((4 * U1 : Nat) : Int) := by rw [i64_in _ (by omega)]; omega
  have vr2 : IntKind.i64.wrap (4 * (U2 : Int)) = ((4 * U2 : Nat) : Int) := by rw [i64_in _ (by omega)]; omega
  have key : ∀ R C : Nat, R < 3 → C < 3 → IntKind.i64.wrap (((4 * R : Nat) : Int) + (C : Int)) = ((4 * R + C : Nat) : Int) ∧ ((((4 * R + C : Nat) : Int) < 12) = True) ∧ (4 * R + C < 12) = True ∧ ((4 * R + C) * 3 + 3 ≤ 36) = True ∧ (cs.drop ((4 * R + C) * 3)).take 3 = (p (4 * R + C)).cells ∧ RC (p (4 * R + C)).cells (p (4 * R + C)).v 1048576 := by
    intro R C hR hC
    exact ⟨by rw [i64_in _ (by omega)]; omega, eq_true (by omega), eq_true (by omega), eq_true (by omega), hat _ (by omega), RC.raw (hop _ (by omega))⟩
  obtain ⟨a1, a2, a3, a4, a5, ka⟩ := key U1 W1 br1 bc1
  obtain ⟨b1, b2, b3, b4, b5, kb⟩ := key U2 W2 br2 bc2
  obtain ⟨c1, c2, c3, c4, c5, kc⟩ := key U1 W2 br1 bc2
  obtain ⟨d1, d2, d3, d4, d5, kd⟩ := key U2 W1 br2 bc1
  generalize p (4 * U1 + W1) = A at *
  generalize p (4 * U2 + W2) = B at *
  generalize p (4 * U1 + W2) = C at *
  generalize p (4 * U2 + W1) = D at *
  have P := ka.mul kb (by omega) (by omega)
  have Q := kc.mul kd (by omega) (by omega)
  have S := (RC.rE (ka.rb.mul kb.rb (k := 2097154) (by omega))).sub (RC.rE (kc.rb.mul kd.rb (k := 2097154) (by omega))) (by omega) (by omega)
  generalize A.v * B.v = X at *
  generalize C.v * D.v = Y at *
  simp only [c79, G0, Nat.reduceAdd]
  simp only [↓R0, R1, simprocAttr, -Int.reduceAbs, l1, t1, o1, wr1, wr2, wc1, wc2, mr1, mr2, mc1, mc2, vr1, vr2, a1, a2, a3, a4, a5, b1, b2, b3, b4, b5, c1, c2, c3, c4, c5, d1, d2, d3, d4, d5, cells_len, P, Q, S, rE_len, rE_ok, st3, st3', tk3, Fin, isEnd, resL, res1]
  exact ⟨_, rfl, rfl, fun k hk => by simp only [ne_nb hk, if_false]⟩
def c33 : ICode :=
  (.seq (.reg [qq 1 (.box 29 36 (.t 0)), qq 2 (.alloc 23 3 [(.bool false), e0, e0])]) (.seq (.reg [qq 5 (.call 44 [(ci 0)]), qq 3 (.alloc 23 3 [(.bool false), e0, e0]), qn (.store 3 (.t 3) (.t 5))]) (.seq (.seq (.reg [qq 4 (.mv (ci 0))]) (.block 0 (.loop (.seq (.seq (.reg [qq 6 (.mv (.t 4)), qq 7 (.bin .lss (.t 6) (ci 3))]) (.cond (.t 7) .skip (.exit 0))) (.seq (.block 1 (.dreg [qu 10 (.load true 3 (.t 3)), qu 11 (.mv (.t 4)), qu 12 (.ixarr 12 3 (.t 1) (.t 11)), qu 13 (.load true 3 (.t 12)), qu 14 (.load true 36 (.t 1)), qu 15 (.mv (.t 4)), qu 16 (.call 79 [(.t 14), (ci 0), (.t 15)]), qu 17 (.call 85 [(.t 13), (.t 16)]), qu 18 (.call 84 [(.t 10), (.t 17)]), qm (.store 3 (.t 3) (.t 18))])) (.reg [qq 8 (.mv (.t 4)), qq 9 (.bin .add (.t 8) (ci 1)), qq 4 (.mv (.t 9))])))))) (.seq (.reg [qq 19 (.load true 3 (.t 3)), qn (.store 3 (.t 2) (.t 19))]) .ret))))
theorem tr33 : trFun Tryz.prog 33 = some ⟨20, [.cell 2 true 3], c33⟩ := by kernel_rfl
set_option maxHeartbeats 4000000 in
theorem ok_r7Det : SpecOK Tryz.prog 33 (flat spAdet) := by
  refine flat_run (env_cons ok_r7num (env_cons ok_r7minor (env_cons ok_r3Mul (env_cons ok_r3Add (env_nil _))))) mixed tr33 ?_
  intro args v h N hG
  unfold spAdet at hG
  split at hG
  case h_2 => cases hG
  rename_i cs
  split at hG
  case h_2 => cases hG
  rename_i p hp
  split at hG
  case isFalse => cases hG
  rename_i ho
  cases hG
  obtain ⟨l1, hat, o1⟩ := mapOf_spec hp
  have hop := mapOk_iff.1 ho
  have t1 : cs.take 36 = cs := List.take_of_length_le (by omega)
  refine ⟨rfl, by simp, ?_⟩
  unfold detM
  simp only [dotN]
  have a0 := hat 0 (by omega)
  have a1 := hat 1 (by omega)
  have a2 := hat 2 (by omega)
  simp only [Nat.reduceMul, Nat.zero_mul, List.drop_zero] at a0 a1 a2
  have q0 := RC.raw (hop 0 (by omega))
  have q1 := RC.raw (hop 1 (by omega))
  have q2 := RC.raw (hop 2 (by omega))
  have mn : ∀ k, k < 3 → spR7minor [.agg ⟨cs⟩, .int .i64 0, .int .i64 (k : Nat)] = some (.agg ⟨rE (minorM (fun i => (p i).v) 0 k)⟩) ∧ RB (minorM (fun i => (p i).v) 0 k) 4194309 := by
    intro k hk
    refine ⟨?_, minorM_RB (i := 1048577) (fun i hi => (hop i hi).rb) 0 k⟩
    unfold spR7minor
    simp only [hp]
    exact if_pos ⟨⟨by omega, by omega, by omega, by omega⟩, ho⟩
  obtain ⟨m0, M0⟩ := mn 0 (by omega)
  replace m0 : spR7minor [.agg ⟨cs⟩, .int .i64 0, .int .i64 0] = some (.agg ⟨rE (minorM (fun i => (p i).v) 0 0)⟩) := m0
  obtain ⟨m1, M1⟩ := mn 1 (by omega)
  replace m1 : spR7minor [.agg ⟨cs⟩, .int .i64 0, .int .i64 1] = some (.agg ⟨rE (minorM (fun i => (p i).v) 0 1)⟩) := m1
  obtain ⟨m2, M2⟩ := mn 2 (by omega)
  replace m2 : spR7minor [.agg ⟨cs⟩, .int .i64 0, .int .i64 2] = some (.agg ⟨rE (minorM (fun i => (p i).v) 0 2)⟩) := m2
  generalize minorM (fun i => (p i).v) 0 0 = Y0 at *
  generalize minorM (fun i => (p i).v) 0 1 = Y1 at *
  generalize minorM (fun i => (p i).v) 0 2 = Y2 at *
  clear mn hat hop ho hp
  generalize p 0 = A0 at *
  generalize p 1 = A1 at *
  generalize p 2 = A2 at *
  have P0 := q0.mul (RC.rE M0) (by omega) (by omega)
  have P1 := q1.mul (RC.rE M1) (by omega) (by omega)
  have P2 := q2.mul (RC.rE M2) (by omega) (by omega)
  have U0 := q0.rb.mul M0 (k := 5242886) (by omega)
  have U1 := q1.rb.mul M1 (k := 5242886) (by omega)
  have U2 := q2.rb.mul M2 (k := 5242886) (by omega)
  have S0 := RB.zero
  have S1 := S0.add U0 (k := 5242888) (by omega)
  have S2 := S1.add U1 (k := 10485775) (by omega)
  have T0 := (RC.rE S0).add (RC.rE U0) (by omega) (by omega)
  have T1 := (RC.rE S1).add (RC.rE U1) (by omega) (by omega)
  have T2 := (RC.rE S2).add (RC.rE U2) (by omega) (by omega)
  have w1 : IntKind.i64.wrap 1 = 1 := i64_in _ (by omega)
  have w2 : IntKind.i64.wrap 2 = 2 := i64_in _ (by omega)
  have w3 : IntKind.i64.wrap 3 = 3 := i64_in _ (by omega)
  simp only [c33, G0, Nat.reduceAdd]
  simp only [↓R0, R1, simprocAttr, -Int.reduceAbs, l1, t1, o1, num0, rE_len, rE_ok, st3, st3', tk3]
  refine lp_step ?_
  simp only [↓R0, R1, simprocAttr, -Int.reduceAbs, l1, t1, o1, a0, cells_len, m0, P0, T0, w1, rE_len, rE_ok, st3, st3', tk3]
  refine lp_step ?_
  simp only [↓R0, R1, simprocAttr, -Int.reduceAbs, l1, t1, o1, a1, cells_len, m1, P1, T1, w2, rE_len, rE_ok, st3, st3', tk3]
  refine lp_step ?_
  simp only [↓R0, R1, simprocAttr, -Int.reduceAbs, l1, t1, o1, a2, cells_len, m2, P2, T2, w3, rE_len, rE_ok, st3, st3', tk3]
  refine lp_step ?_
  simp only [↓R0, R1, simprocAttr, -Int.reduceAbs, rE_len, rE_ok, st3, st3', tk3, Fin, isEnd, resL, res1]
  exact ⟨_, rfl, rfl, fun k hk => by simp only [ne_nb hk, if_false]⟩
end Go.Eng
end
section
set_option linter.unusedVariables false
set_option linter.unusedSimpArgs false
set_option linter.unusedSectionVars false
set_option maxRecDepth 20000
namespace Go.Eng
open Go Go.Proofs Go.IntWalk
def spR7Vec : List Value → Option Value
  | [.agg ⟨cs⟩, .agg ⟨vs⟩] => match mapOf cs, ratsOf vs with
    | some p, some [x, y, z] => if mapOk 1048576 p ∧ x.ok 1048576 ∧ y.ok 1048576 ∧ z.ok 1048576 then
        some (.agg ⟨r3E (appM (fun i => (p i).v) x.v y.v z.v 0) (appM (fun i => (p i).v) x.v y.v z.v 1) (appM (fun i => (p i).v) x.v y.v z.v 2)⟩) else none
    | _, _ => none
  | _ => none
theorem appM_row (f : Nat → Rat) (x y z : Rat) (i : Nat) : appM f x y z i = f (4 * i + 3) + f (4 * i + 0) * x + f (4 * i + 1) * y + f (4 * i + 2) * z := by
  unfold appM
  simp only [dotN, vec4, if_true, show (1 : Nat) = 0 ↔ False by decide, show (2 : Nat) = 0 ↔ False by decide, show (2 : Nat) = 1 ↔ False by decide, show (3 : Nat) = 0 ↔ False by decide, show (3 : Nat) = 1 ↔ False by decide, show (3 : Nat) = 2 ↔ False by decide, if_false]
  grind
def c80 : ICode :=
  (.seq (.reg [qq 2 (.box 29 36 (.t 0)), qq 3 (.box 25 9 (.t 1)), qq 4 (.alloc 25 9 [(.bool false), e0, e0, (.bool false), e0, e0, (.bool false), e0, e0])]) (.seq (.reg [qq 9 (.build [(.bool false), e0, e0, (.bool false), e0, e0, (.bool false), e0, e0] []), qq 5 (.alloc 25 9 [(.bool false), e0, e0, (.bool false), e0, e0, (.bool false), e0, e0]), qn (.store 9 (.t 5) (.t 9))]) (.seq (.seq (.reg [qq 6 (.mv (ci 0))]) (.block 0 (.loop (.seq (.seq (.reg [qq 10 (.mv (.t 6)), qq 11 (.bin .lss (.t 10) (ci 3))]) (.cond (.t 11) .skip (.exit 0))) (.seq (.block 1 (.seq (.reg [qq 14 (.mv (.t 6)), qq 15 (.bin .mul (ci 4) (.t 14)), qq 16 (.bin .add (.t 15) (ci 3)), qq 17 (.ixarr 12 3 (.t 2) (.t 16)), qq 18 (.load true 3 (.t 17)), qq 19 (.call 47 [(.t 18)]), qq 7 (.alloc 23 3 [(.bool false), e0, e0]), qn (.store 3 (.t 7) (.t 19))]) (.seq (.seq (.reg [qq 8 (.mv (ci 0))]) (.block 2 (.loop (.seq (.seq (.reg [qq 20 (.mv (.t 8)), qq 21 (.bin .lss (.t 20) (ci 3))]) (.cond (.t 21) .skip (.exit 2))) (.seq (.block 3 (.dreg [qu 24 (.load true 3 (.t 7)), qu 25 (.mv (.t 6)), qu 26 (.bin .mul (ci 4) (.t 25)), qu 27 (.mv (.t 8)), qu 28 (.bin .add (.t 26) (.t 27)), qu 29 (.ixarr 12 3 (.t 2) (.t 28)), qu 30 (.load true 3 (.t 29)), qu 31 (.mv (.t 8)), qu 32 (.ixarr 3 3 (.t 3) (.t 31)), qu 33 (.load true 3 (.t 32)), qu 34 (.call 85 [(.t 30), (.t 33)]), qu 35 (.call 84 [(.t 24), (.t 34)]), qm (.store 3 (.t 7) (.t 35))])) (.reg [qq 22 (.mv (.t 8)), qq 23 (.bin .add (.t 22) (ci 1)), qq 8 (.mv (.t 23))])))))) (.reg [qq 36 (.mv (.t 6)), qq 37 (.load true 3 (.t 7)), qq 38 (.ixarr 3 3 (.t 5) (.t 36)), qn (.store 3 (.t 38) (.t 37))])))) (.reg [qq 12 (.mv (.t 6)), qq 13 (.bin .add (.t 12) (ci 1)), qq 6 (.mv (.t 13))])))))) (.seq (.reg [qq 39 (.load true 9 (.t 5)), qn (.store 9 (.t 4) (.t 39))]) .ret))))
theorem tr80 : trFun Tryz.prog 80 = some ⟨40, [.cell 4 true 9], c80⟩ := by kernel_rfl
set_option maxHeartbeats 8000000 in
theorem ok_r7Vec : SpecOK Tryz.prog 80 (flat spR7Vec) := by
  refine flat_run (env_cons ok_r3Norm (env_cons ok_r3Mul (env_cons ok_r3Add (env_nil _)))) mixed tr80 ?_
  intro args v h N hG
  unfold spR7Vec at hG
  split at hG
  case h_2 => cases hG
  rename_i cs vs
  split at hG
  case h_2 => cases hG
  rename_i p x y z hp hv
  split at hG
  case isFalse => cases hG
  rename_i hl
  obtain ⟨ho, hx, hy, hz⟩ := hl
  cases hG
  obtain ⟨l1, hat, o1⟩ := mapOf_spec hp
  have hop := mapOk_iff.1 ho
  have ev := ratsOf_eq hv
  subst ev
  have t1 : cs.take 36 = cs := List.take_of_length_le (by omega)
  have l2 : (rqs [x, y, z]).length = 9 := rfl
  have o2 : (rqs [x, y, z]).all okCell = true := rfl
  have t2 : (rqs [x, y, z]).take 9 = rqs [x, y, z] := rfl
  have y0 : (rqs [x, y, z]).take 3 = x.cells := rfl
  have y1 : ((rqs [x, y, z]).drop 3).take 3 = y.cells := rfl
  have y2 : ((rqs [x, y, z]).drop 6).take 3 = z.cells := rfl
  have k0 := RC.raw hx
  have k1 := RC.raw hy
  have k2 := RC.raw hz
  generalize rqs [x, y, z] = V at *
  rw [appM_row, appM_row, appM_row]
  refine ⟨rfl, by simp, ?_⟩
  simp only [Nat.reduceMul, Nat.reduceAdd]
  have a0 := hat 0 (by omega)
  have q0 := RC.raw (hop 0 (by omega))
  have a1 := hat 1 (by omega)
  have q1 := RC.raw (hop 1 (by omega))
  have a2 := hat 2 (by omega)
  have q2 := RC.raw (hop 2 (by omega))
  have a3 := hat 3 (by omega)
  have q3 := RC.raw (hop 3 (by omega))
  have a4 := hat 4 (by omega)
  have q4 := RC.raw (hop 4 (by omega))
  have a5 := hat 5 (by omega)
  have q5 := RC.raw (hop 5 (by omega))
  have a6 := hat 6 (by omega)
  have q6 := RC.raw (hop 6 (by omega))
  have a7 := hat 7 (by omega)
  have q7 := RC.raw (hop 7 (by omega))
  have a8 := hat 8 (by omega)
  have q8 := RC.raw (hop 8 (by omega))
  have a9 := hat 9 (by omega)
  have q9 := RC.raw (hop 9 (by omega))
  have a10 := hat 10 (by omega)
  have q10 := RC.raw (hop 10 (by omega))
  have a11 := hat 11 (by omega)
  have q11 := RC.raw (hop 11 (by omega))
  simp only [Nat.reduceMul, Nat.zero_mul, List.drop_zero] at a0 a1 a2 a3 a4 a5 a6 a7 a8 a9 a10 a11
  clear hat hop ho hp hv hx hy hz
  generalize p 0 = A0 at *
  generalize p 1 = A1 at *
  generalize p 2 = A2 at *
  generalize p 3 = A3 at *
  generalize p 4 = A4 at *
  generalize p 5 = A5 at *
  generalize p 6 = A6 at *
  generalize p 7 = A7 at *
  generalize p 8 = A8 at *
  generalize p 9 = A9 at *
  generalize p 10 = A10 at *
  generalize p 11 = A11 at *
  generalize x.v = X0 at *
  generalize y.v = X1 at *
  generalize z.v = X2 at *
  generalize A0.v = F0v at *
  generalize A1.v = F1v at *
  generalize A2.v = F2v at *
  generalize A3.v = F3v at *
  generalize A4.v = F4v at *
  generalize A5.v = F5v at *
  generalize A6.v = F6v at *
  generalize A7.v = F7v at *
  generalize A8.v = F8v at *
  generalize A9.v = F9v at *
  generalize A10.v = F10v at *
  generalize A11.v = F11v at *
  have n0 := q3.norm (by omega)
  have p00 := q0.mul k0 (by omega) (by omega)
  have r00 := q0.rb.mul k0.rb (k := 2097154) (by omega)
  have s00 := (RC.rE (q3.rb)).add (RC.rE r00) (by omega) (by omega)
  have t00 := RB.add (q3.rb) r00 (k := 3145732) (by omega)
  have p01 := q1.mul k1 (by omega) (by omega)
  have r01 := q1.rb.mul k1.rb (k := 2097154) (by omega)
  have s01 := (RC.rE (t00)).add (RC.rE r01) (by omega) (by omega)
  have t01 := RB.add (t00) r01 (k := 5242887) (by omega)
  have p02 := q2.mul k2 (by omega) (by omega)
  have r02 := q2.rb.mul k2.rb (k := 2097154) (by omega)
  have s02 := (RC.rE (t01)).add (RC.rE r02) (by omega) (by omega)
  have t02 := RB.add (t01) r02 (k := 7340042) (by omega)
  have n1 := q7.norm (by omega)
  have p10 := q4.mul k0 (by omega) (by omega)
  have r10 := q4.rb.mul k0.rb (k := 2097154) (by omega)
  have s10 := (RC.rE (q7.rb)).add (RC.rE r10) (by omega) (by omega)
  have t10 := RB.add (q7.rb) r10 (k := 3145732) (by omega)
  have p11 := q5.mul k1 (by omega) (by omega)
  have r11 := q5.rb.mul k1.rb (k := 2097154) (by omega)
  have s11 := (RC.rE (t10)).add (RC.rE r11) (by omega) (by omega)
  have t11 := RB.add (t10) r11 (k := 5242887) (by omega)
  have p12 := q6.mul k2 (by omega) (by omega)
  have r12 := q6.rb.mul k2.rb (k := 2097154) (by omega)
  have s12 := (RC.rE (t11)).add (RC.rE r12) (by omega) (by omega)
  have t12 := RB.add (t11) r12 (k := 7340042) (by omega)
  have n2 := q11.norm (by omega)
  have p20 := q8.mul k0 (by omega) (by omega)
  have r20 := q8.rb.mul k0.rb (k := 2097154) (by omega)
  have s20 := (RC.rE (q11.rb)).add (RC.rE r20) (by omega) (by omega)
  have t20 := RB.add (q11.rb) r20 (k := 3145732) (by omega)
  have p21 := q9.mul k1 (by omega) (by omega)
  have r21 := q9.rb.mul k1.rb (k := 2097154) (by omega)
  have s21 := (RC.rE (t20)).add (RC.rE r21) (by omega) (by omega)
  have t21 := RB.add (t20) r21 (k := 5242887) (by omega)
  have p22 := q10.mul k2 (by omega) (by omega)
  have r22 := q10.rb.mul k2.rb (k := 2097154) (by omega)
  have s22 := (RC.rE (t21)).add (RC.rE r22) (by omega) (by omega)
  have t22 := RB.add (t21) r22 (k := 7340042) (by omega)
  have w1 : IntKind.i64.wrap 1 = 1 := i64_in _ (by omega)
  have w2 : IntKind.i64.wrap 2 = 2 := i64_in _ (by omega)
  have w3 : IntKind.i64.wrap 3 = 3 := i64_in _ (by omega)
  simp only [c80, G0, Nat.reduceAdd]
  simp only [↓R0, R1, simprocAttr, -Int.reduceAbs, l1, t1, o1, l2, o2, t2]
  have w4 : IntKind.i64.wrap 4 = 4 := i64_in _ (by omega)
  have w5 : IntKind.i64.wrap 5 = 5 := i64_in _ (by omega)
  have w6 : IntKind.i64.wrap 6 = 6 := i64_in _ (by omega)
  have w7 : IntKind.i64.wrap 7 = 7 := i64_in _ (by omega)
  have w8 : IntKind.i64.wrap 8 = 8 := i64_in _ (by omega)
  have w9 : IntKind.i64.wrap 9 = 9 := i64_in _ (by omega)
  have w10 : IntKind.i64.wrap 10 = 10 := i64_in _ (by omega)
  have w11 : IntKind.i64.wrap 11 = 11 := i64_in _ (by omega)
  have wz : IntKind.i64.wrap 0 = 0 := i64_in _ (by omega)
  refine lp_step ?_
  simp only [↓R0, R1, simprocAttr, -Int.reduceAbs, setR_length, l1, o1, l2, o2, cells_len, rE_len, rE_ok, st3, st3', tk3, w1, w2, w3, w4, w5, w6, w7, w8, w9, w10, w11, wz, a3, n0]
  refine lp_step ?_
  simp only [↓R0, R1, simprocAttr, -Int.reduceAbs, setR_length, l1, o1, l2, o2, cells_len, rE_len, rE_ok, st3, st3', tk3, w1, w2, w3, w4, w5, w6, w7, w8, w9, w10, w11, wz, a0, y0, p00, s00]
  refine lp_step ?_
  simp only [↓R0, R1, simprocAttr, -Int.reduceAbs, setR_length, l1, o1, l2, o2, cells_len, rE_len, rE_ok, st3, st3', tk3, w1, w2, w3, w4, w5, w6, w7, w8, w9, w10, w11, wz, a1, y1, p01, s01]
  refine lp_step ?_
  simp only [↓R0, R1, simprocAttr, -Int.reduceAbs, setR_length, l1, o1, l2, o2, cells_len, rE_len, rE_ok, st3, st3', tk3, w1, w2, w3, w4, w5, w6, w7, w8, w9, w10, w11, wz, a2, y2, p02, s02]
  refine lp_step ?_
  simp only [↓R0, R1, simprocAttr, -Int.reduceAbs, setR_length, l1, o1, l2, o2, cells_len, rE_len, rE_ok, st3, st3', tk3, w1, w2, w3, w4, w5, w6, w7, w8, w9, w10, w11, wz]
  refine lp_step ?_
  simp only [↓R0, R1, simprocAttr, -Int.reduceAbs, setR_length, l1, o1, l2, o2, cells_len, rE_len, rE_ok, st3, st3', tk3, w1, w2, w3, w4, w5, w6, w7, w8, w9, w10, w11, wz, a7, n1]
  refine lp_step ?_
  simp only [↓R0, R1, simprocAttr, -Int.reduceAbs, setR_length, l1, o1, l2, o2, cells_len, rE_len, rE_ok, st3, st3', tk3, w1, w2, w3, w4, w5, w6, w7, w8, w9, w10, w11, wz, a4, y0, p10, s10]
  refine lp_step ?_
  simp only [↓R0, R1, simprocAttr, -Int.reduceAbs, setR_length, l1, o1, l2, o2, cells_len, rE_len, rE_ok, st3, st3', tk3, w1, w2, w3, w4, w5, w6, w7, w8, w9, w10, w11, wz, a5, y1, p11, s11]
  refine lp_step ?_
  simp only [↓R0, R1, simprocAttr, -Int.reduceAbs, setR_length, l1, o1, l2, o2, cells_len, rE_len, rE_ok, st3, st3', tk3, w1, w2, w3, w4, w5, w6, w7, w8, w9, w10, w11, wz, a6, y2, p12, s12]
  refine lp_step ?_
  simp only [↓R0, R1, simprocAttr, -Int.reduceAbs, setR_length, l1, o1, l2, o2, cells_len, rE_len, rE_ok, st3, st3', tk3, w1, w2, w3, w4, w5, w6, w7, w8, w9, w10, w11, wz]
  refine lp_step ?_
  simp only [↓R0, R1, simprocAttr, -Int.reduceAbs, setR_length, l1, o1, l2, o2, cells_len, rE_len, rE_ok, st3, st3', tk3, w1, w2, w3, w4, w5, w6, w7, w8, w9, w10, w11, wz, a11, n2]
  refine lp_step ?_
  simp only [↓R0, R1, simprocAttr, -Int.reduceAbs, setR_length, l1, o1, l2, o2, cells_len, rE_len, rE_ok, st3, st3', tk3, w1, w2, w3, w4, w5, w6, w7, w8, w9, w10, w11, wz, a8, y0, p20, s20]
  refine lp_step ?_
  simp only [↓R0, R1, simprocAttr, -Int.reduceAbs, setR_length, l1, o1, l2, o2, cells_len, rE_len, rE_ok, st3, st3', tk3, w1, w2, w3, w4, w5, w6, w7, w8, w9, w10, w11, wz, a9, y1, p21, s21]
  refine lp_step ?_
  simp only [↓R0, R1, simprocAttr, -Int.reduceAbs, setR_length, l1, o1, l2, o2, cells_len, rE_len, rE_ok, st3, st3', tk3, w1, w2, w3, w4, w5, w6, w7, w8, w9, w10, w11, wz, a10, y2, p22, s22]
  refine lp_step ?_
  simp only [↓R0, R1, simprocAttr, -Int.reduceAbs, setR_length, l1, o1, l2, o2, cells_len, rE_len, rE_ok, st3, st3', tk3, w1, w2, w3, w4, w5, w6, w7, w8, w9, w10, w11, wz]
  refine lp_step ?_
  have fin : ∀ a b c : Rat, setR (setR (setR [.bool false, .string ⟨⟨[]⟩⟩, .string ⟨⟨[]⟩⟩, .bool false, .string ⟨⟨[]⟩⟩, .string ⟨⟨[]⟩⟩, .bool false, .string ⟨⟨[]⟩⟩, .string ⟨⟨[]⟩⟩] 0 (rE a)) 3 (rE b)) 6 (rE c) = r3E a b c := fun _ _ _ => rfl
  have fl : ∀ a b c : Rat, (r3E a b c).length = 9 := fun _ _ _ => rfl
  have fo : ∀ a b c : Rat, (r3E a b c).all okCell = true := fun _ _ _ => rfl
  have ft : ∀ a b c : Rat, (r3E a b c).take 9 = r3E a b c := fun _ _ _ => rfl
  have fs : ∀ a b c : Rat, setR [.bool false, .string ⟨⟨[]⟩⟩, .string ⟨⟨[]⟩⟩, .bool false, .string ⟨⟨[]⟩⟩, .string ⟨⟨[]⟩⟩, .bool false, .string ⟨⟨[]⟩⟩, .string ⟨⟨[]⟩⟩] 0 (r3E a b c) = r3E a b c := fun _ _ _ => rfl
  simp only [↓R0, R1, simprocAttr, -Int.reduceAbs, setR_length, l1, o1, l2, o2, cells_len, rE_len, rE_ok, st3, st3', tk3, w1, w2, w3, w4, w5, w6, w7, w8, w9, w10, w11, wz, fin, fl, fo, ft, fs, Fin, isEnd, resL, res1]
  exact ⟨_, rfl, rfl, fun k hk => by simp only [ne_nb hk, if_false]⟩
end Go.Eng
end
section
set_option linter.unusedVariables false
set_option linter.unusedSimpArgs false
set_option linter.unusedSectionVars false
set_option maxRecDepth 20000
namespace Go.Eng
open Go Go.Proofs Go.IntWalk
theorem mset0 (f : Nat → Rat) (x : Rat) : setR (mE f) 0 (rE x) = mE (upd f 0 x) := mE_set f x 0 (by decide)
theorem mset1 (f : Nat → Rat) (x : Rat) : setR (mE f) 3 (rE x) = mE (upd f 1 x) := mE_set f x 1 (by decide)
theorem mset2 (f : Nat → Rat) (x : Rat) : setR (mE f) 6 (rE x) = mE (upd f 2 x) := mE_set f x 2 (by decide)
theorem mset3 (f : Nat → Rat) (x : Rat) : setR (mE f) 9 (rE x) = mE (upd f 3 x) := mE_set f x 3 (by decide)
theorem mset4 (f : Nat → Rat) (x : Rat) : setR (mE f) 12 (rE x) = mE (upd f 4 x) := mE_set f x 4 (by decide)
theorem mset5 (f : Nat → Rat) (x : Rat) : setR (mE f) 15 (rE x) = mE (upd f 5 x) := mE_set f x 5 (by decide)
theorem mset6 (f : Nat → Rat) (x : Rat) : setR (mE f) 18 (rE x) = mE (upd f 6 x) := mE_set f x 6 (by decide)
theorem mset7 (f : Nat → Rat) (x : Rat) : setR (mE f) 21 (rE x) = mE (upd f 7 x) := mE_set f x 7 (by decide)
theorem mset8 (f : Nat → Rat) (x : Rat) : setR (mE f) 24 (rE x) = mE (upd f 8 x) := mE_set f x 8 (by decide)
theorem mset9 (f : Nat → Rat) (x : Rat) : setR (mE f) 27 (rE x) = mE (upd f 9 x) := mE_set f x 9 (by decide)
theorem mset10 (f : Nat → Rat) (x : Rat) : setR (mE f) 30 (rE x) = mE (upd f 10 x) := mE_set f x 10 (by decide)
theorem mset11 (f : Nat → Rat) (x : Rat) : setR (mE f) 33 (rE x) = mE (upd f 11 x) := mE_set f x 11 (by decide)
end Go.Eng
end
section
set_option linter.unusedVariables false
set_option linter.unusedSimpArgs false
set_option linter.unusedSectionVars false
set_option maxRecDepth 20000
namespace Go.Eng
open Go Go.Proofs Go.IntWalk
end Go.Eng
end
section
set_option linter.unusedVariables false
set_option linter.unusedSimpArgs false
set_option linter.unusedSectionVars false
set_option maxRecDepth 20000
namespace Go.Eng
open Go Go.Proofs Go.IntWalk
theorem r3E_zero : r3E 0 0 0 = [.bool false, .string ⟨⟨[]⟩⟩, .string ⟨⟨[]⟩⟩, .bool false, .string ⟨⟨[]⟩⟩, .string ⟨⟨[]⟩⟩, .bool false, .string ⟨⟨[]⟩⟩, .string ⟨⟨[]⟩⟩] := by unfold r3E; rw [rE_zero]; rfl
theorem r3E_len (a b c : Rat) : (r3E a b c).length = 9 := rfl
theorem r3E_ok (a b c : Rat) : (r3E a b c).all okCell = true := rfl
theorem r3E_tk (a b c : Rat) : (r3E a b c).take 9 = r3E a b c := rfl
theorem r3E_st (a b c x y z : Rat) : setR (r3E x y z) 0 (r3E a b c) = r3E a b c := rfl
theorem r3E_g0 (a b c : Rat) : (r3E a b c).take 3 = rE a := rfl
theorem r3E_g1 (a b c : Rat) : ((r3E a b c).drop 3).take 3 = rE b := rfl
theorem r3E_g2 (a b c : Rat) : ((r3E a b c).drop 6).take 3 = rE c := rfl
theorem r3E_s0 (a b c x : Rat) : setR (r3E a b c) 0 (rE x) = r3E x b c := rfl
theorem r3E_s1 (a b c x : Rat) : setR (r3E a b c) 3 (rE x) = r3E a x c := rfl
theorem r3E_s2 (a b c x : Rat) : setR (r3E a b c) 6 (rE x) = r3E a b x := rfl
theorem mget0 (f : Nat → Rat) : (mE f).take 3 = rE (f 0) := mE_get f 0 (by decide)
theorem mget1 (f : Nat → Rat) : ((mE f).drop 3).take 3 = rE (f 1) := mE_get f 1 (by decide)
theorem mget2 (f : Nat → Rat) : ((mE f).drop 6).take 3 = rE (f 2) := mE_get f 2 (by decide)
theorem mget3 (f : Nat → Rat) : ((mE f).drop 9).take 3 = rE (f 3) := mE_get f 3 (by decide)
theorem mget4 (f : Nat → Rat) : ((mE f).drop 12).take 3 = rE (f 4) := mE_get f 4 (by decide)
theorem mget5 (f : Nat → Rat) : ((mE f).drop 15).take 3 = rE (f 5) := mE_get f 5 (by decide)
theorem mget6 (f : Nat → Rat) : ((mE f).drop 18).take 3 = rE (f 6) := mE_get f 6 (by decide)
theorem mget7 (f : Nat → Rat) : ((mE f).drop 21).take 3 = rE (f 7) := mE_get f 7 (by decide)
theorem mget8 (f : Nat → Rat) : ((mE f).drop 24).take 3 = rE (f 8) := mE_get f 8 (by decide)
theorem mget9 (f : Nat → Rat) : ((mE f).drop 27).take 3 = rE (f 9) := mE_get f 9 (by decide)
theorem mget10 (f : Nat → Rat) : ((mE f).drop 30).take 3 = rE (f 10) := mE_get f 10 (by decide)
theorem mget11 (f : Nat → Rat) : ((mE f).drop 33).take 3 = rE (f 11) := mE_get f 11 (by decide)
def spR7Back : List Value → Option Value
  | [.agg ⟨cs⟩] => match mapOf cs with
    | some p => if mapOk 1000 p then (if detM (fun i => (p i).v) = 0 then some (.tuple ⟨[.agg ⟨zmap⟩, .bool false]⟩) else some (.tuple ⟨[.agg ⟨mE (invM (fun i => (p i).v))⟩, .bool true]⟩)) else none
    | none => none
  | _ => none
theorem MS.back {c : List Value} {f : Nat → Rat} (h : MS c f 1000) : spR7Back [.agg ⟨c⟩] = if detM f = 0 then some (.tuple ⟨[.agg ⟨zmap⟩, .bool false]⟩) else some (.tuple ⟨[.agg ⟨Go.Eng.mE (invM f)⟩, .bool true]⟩) := by
  obtain ⟨p, a, b, e⟩ := h
  unfold spR7Back
  simp only [a]
  rw [if_pos b, detM_congr e, mE_congr (fun i _ => invM_congr e i)]
theorem MS.minor {c : List Value} {f : Nat → Rat} (h : MS c f 1048576) {i k : Nat} (hi : i < 3) (hk : k < 3) : spR7minor [.agg ⟨c⟩, .int .i64 (i : Int), .int .i64 (k : Int)] = some (.agg ⟨rE (minorM f i k)⟩) := by
  obtain ⟨p, a, b, e⟩ := h
  unfold spR7minor
  simp only [a]
  rw [if_pos ⟨⟨by omega, by omega, by omega, by omega⟩, b⟩]
  simp only [Int.toNat_natCast]
  rw [minorM_congr e]
theorem inv_row (f g : Nat → Rat) (D : Rat) (hD : detM f = D) (i : Nat) (hi : i < 3) (h0 : g (4 * i + 0) = minorM f 0 i / D) (h1 : g (4 * i + 1) = minorM f 1 i / D) (h2 : g (4 * i + 2) = minorM f 2 i / D) (h3 : g (4 * i + 3) = 0) :
    -appM g (f 3) (f 7) (f 11) i = invM f (4 * i + 3) := by
  rw [appM_row, h0, h1, h2, h3]
  unfold invM innM
  rw [if_neg (by omega), show (4 * i + 3) / 4 = i by omega]
  simp only [dotN]
  rw [if_neg (by omega), if_neg (by omega), if_neg (by omega), hD, show (4 * i + 0) % 4 = 0 by omega, show (4 * i + 1) % 4 = 1 by omega, show (4 * i + 2) % 4 = 2 by omega, show (4 * i + 0) / 4 = i by omega, show (4 * i + 1) / 4 = i by omega, show (4 * i + 2) / 4 = i by omega]
def c31 : ICode :=
  (.seq (.reg [qq 1 (.box 29 36 (.t 0)), qq 2 (.alloc 29 36 [(.bool false), e0, e0, (.bool false), e0, e0, (.bool false), e0, e0, (.bool false), e0, e0, (.bool false), e0, e0, (.bool false), e0, e0, (.bool false), e0, e0, (.bool false), e0, e0, (.bool false), e0, e0, (.bool false), e0, e0, (.bool false), e0, e0, (.bool false), e0, e0]), qq 3 (.mv (.c (.bool false)))]) (.seq (.reg [qq 10 (.load true 36 (.t 1)), qq 11 (.call 33 [(.t 10)]), qq 4 (.alloc 23 3 [(.bool false), e0, e0]), qn (.store 3 (.t 4) (.t 11))]) (.seq (.seq (.reg [qq 12 (.load true 3 (.t 4)), qq 13 (.call 77 [(.t 12)]), qq 14 (.bin .eql (.t 13) (ci 0))]) (.cond (.t 14) (.seq (.reg [qq 15 (.build [(.bool false), e0, e0, (.bool false), e0, e0, (.bool false), e0, e0, (.bool false), e0, e0, (.bool false), e0, e0, (.bool false), e0, e0, (.bool false), e0, e0, (.bool false), e0, e0, (.bool false), e0, e0, (.bool false), e0, e0, (.bool false), e0, e0, (.bool false), e0, e0] []), qn (.store 36 (.t 2) (.t 15)), qq 3 (.mv (.c (.bool false)))]) .ret) .skip)) (.seq (.reg [qq 16 (.call 35 []), qq 5 (.alloc 29 36 [(.bool false), e0, e0, (.bool false), e0, e0, (.bool false), e0, e0, (.bool false), e0, e0, (.bool false), e0, e0, (.bool false), e0, e0, (.bool false), e0, e0, (.bool false), e0, e0, (.bool false), e0, e0, (.bool false), e0, e0, (.bool false), e0, e0, (.bool false), e0, e0]), qn (.store 36 (.t 5) (.t 16))]) (.seq (.seq (.reg [qq 6 (.mv (ci 0))]) (.block 0 (.loop (.seq (.seq (.reg [qq 17 (.mv (.t 6)), qq 18 (.bin .lss (.t 17) (ci 3))]) (.cond (.t 18) .skip (.exit 0))) (.seq (.block 1 (.seq (.reg [qq 7 (.mv (ci 0))]) (.block 2 (.loop (.seq (.seq (.reg [qq 21 (.mv (.t 7)), qq 22 (.bin .lss (.t 21) (ci 3))]) (.cond (.t 22) .skip (.exit 2))) (.seq (.block 3 (.dreg [qu 26 (.mv (.t 6)), qu 27 (.bin .mul (ci 4) (.t 26)), qu 28 (.mv (.t 7)), qu 29 (.bin .add (.t 27) (.t 28)), qu 30 (.load true 36 (.t 1)), qu 31 (.mv (.t 7)), qu 32 (.mv (.t 6)), qu 33 (.call 79 [(.t 30), (.t 31), (.t 32)]), qv 34 [7] (.load true 3 (.t 4)), qu 35 (.call 78 [(.t 33), (.t 34)]), qu 25 (.mv (.t 35)), qu 36 (.ext (.t 25) 0), qu 37 (.ext (.t 25) 1), qu 38 (.ixarr 12 3 (.t 5) (.t 29)), qm (.store 3 (.t 38) (.t 36))])) (.reg [qq 23 (.mv (.t 7)), qq 24 (.bin .add (.t 23) (ci 1)), qq 7 (.mv (.t 24))]))))))) (.reg [qq 19 (.mv (.t 6)), qq 20 (.bin .add (.t 19) (ci 1)), qq 6 (.mv (.t 20))])))))) (.seq (.reg [qq 39 (.load true 36 (.t 5)), qq 40 (.ixarr 12 3 (.t 1) (ci 3)), qq 41 (.load true 3 (.t 40)), qq 42 (.ixarr 12 3 (.t 1) (ci 7)), qq 43 (.load true 3 (.t 42)), qq 44 (.ixarr 12 3 (.t 1) (ci 11)), qq 45 (.load true 3 (.t 44)), qq 46 (.build [(.bool false), e0, e0, (.bool false), e0, e0, (.bool false), e0, e0] [(0, 3, (.t 41)), (3, 3, (.t 43)), (6, 3, (.t 45))]), qq 47 (.call 80 [(.t 39), (.t 46)]), qq 8 (.alloc 25 9 [(.bool false), e0, e0, (.bool false), e0, e0, (.bool false), e0, e0]), qn (.store 9 (.t 8) (.t 47))]) (.seq (.seq (.reg [qq 9 (.mv (ci 0))]) (.block 4 (.loop (.seq (.seq (.reg [qq 48 (.mv (.t 9)), qq 49 (.bin .lss (.t 48) (ci 3))]) (.cond (.t 49) .skip (.exit 4))) (.seq (.block 5 (.reg [qq 52 (.mv (.t 9)), qq 53 (.bin .mul (ci 4) (.t 52)), qq 54 (.bin .add (.t 53) (ci 3)), qq 55 (.mv (.t 9)), qq 56 (.ixarr 3 3 (.t 8) (.t 55)), qq 57 (.load true 3 (.t 56)), qq 58 (.call 81 [(.t 57)]), qq 59 (.ixarr 12 3 (.t 5) (.t 54)), qn (.store 3 (.t 59) (.t 58))])) (.reg [qq 50 (.mv (.t 9)), qq 51 (.bin .add (.t 50) (ci 1)), qq 9 (.mv (.t 51))])))))) (.seq (.reg [qq 60 (.load true 36 (.t 5)), qn (.store 36 (.t 2) (.t 60)), qq 3 (.mv (.c (.bool true)))]) .ret))))))))
theorem tr31 : trFun Tryz.prog 31 = some ⟨61, [.cell 2 true 36, .t 3], c31⟩ := by kernel_rfl
set_option maxHeartbeats 40000000 in
theorem ok_r7Back : SpecOK Tryz.prog 31 (flat spR7Back) := by
  refine flat_run (env_cons ok_r7Det (env_cons ok_r3Sign (env_cons ok_r7Same (env_cons ok_r7minor (env_cons ok_r3Div (env_cons ok_r7Vec (env_cons ok_r3Neg (env_nil _)))))))) mixed tr31 ?_
  intro args v h N hG
  unfold spR7Back at hG
  split at hG
  case h_2 => cases hG
  rename_i cs
  split at hG
  case h_2 => cases hG
  rename_i p hp
  split at hG
  case isFalse => cases hG
  rename_i ho
  obtain ⟨l1, hat, o1⟩ := mapOf_spec hp
  have hop := mapOk_iff.1 ho
  have hM : MS cs (fun i => (p i).v) 1000 := MS.of hp ho
  have t1 : cs.take 36 = cs := List.take_of_length_le (by omega)
  have a3 := hat 3 (by omega)
  have a7 := hat 7 (by omega)
  have a11 := hat 11 (by omega)
  simp only [Nat.reduceMul] at a3 a7 a11
  have q3 := hop 3 (by omega)
  have q7 := hop 7 (by omega)
  have q11 := hop 11 (by omega)
  obtain ⟨f, ef⟩ : ∃ f, (fun i => (p i).v) = f := ⟨_, rfl⟩
  have e3 : (p 3).v = f 3 := by rw [← ef]
  have e7 : (p 7).v = f 7 := by rw [← ef]
  have e11 : (p 11).v = f 11 := by rw [← ef]
  rw [ef] at hM hG
  clear hat hop ho hp ef
  generalize p 3 = A3 at *
  generalize p 7 = A7 at *
  generalize p 11 = A11 at *
  have rb := hM.rb
  have de := (hM.le (k := 1048576) (by omega)).det
  have rd := (detM_RB rb).le (k := 100000) (by omega)
  have sg := r3Sign_rE rd (by omega)
  have sid : spAid [] = some (.agg ⟨mE idM⟩) := rfl
  have w0 : IntKind.i64.wrap 0 = 0 := i64_in _ (by omega)
  have w1 : IntKind.i64.wrap 1 = 1 := i64_in _ (by omega)
  have w2 : IntKind.i64.wrap 2 = 2 := i64_in _ (by omega)
  have w3 : IntKind.i64.wrap 3 = 3 := i64_in _ (by omega)
  have w4 : IntKind.i64.wrap 4 = 4 := i64_in _ (by omega)
  have w5 : IntKind.i64.wrap 5 = 5 := i64_in _ (by omega)
  have w6 : IntKind.i64.wrap 6 = 6 := i64_in _ (by omega)
  have w7 : IntKind.i64.wrap 7 = 7 := i64_in _ (by omega)
  have w8 : IntKind.i64.wrap 8 = 8 := i64_in _ (by omega)
  have w9 : IntKind.i64.wrap 9 = 9 := i64_in _ (by omega)
  have w10 : IntKind.i64.wrap 10 = 10 := i64_in _ (by omega)
  have w11 : IntKind.i64.wrap 11 = 11 := i64_in _ (by omega)
  have w12 : IntKind.i64.wrap 12 = 12 := i64_in _ (by omega)
  have ez := mE_zero
  have lz := mE_len
  have oz := mE_ok
  have tz : ∀ f, (mE f).take 36 = mE f := fun f => List.take_of_length_le (by rw [lz]; omega)
  have sz : ∀ f g, setR (mE f) 0 (mE g) = mE g := fun f g => setR_all (mE g) (mE f) (by rw [lz, lz])
  by_cases h0 : detM f = 0
  · rw [if_pos h0] at hG
    cases hG
    refine ⟨rfl, by simp, ?_⟩
    have s0 : (detM f).num.sign = 0 := by rw [h0]; rfl
    rw [s0] at sg
    have zm : zmap = mE (fun _ => 0) := by rw [ez]; rfl
    rw [zm]
    simp only [c31, G0, Nat.reduceAdd]
    simp only [↓R0, R1, simprocAttr, -Int.reduceAbs, ← ez, l1, t1, o1, lz, oz, tz, sz, de, sg, rE_len, rE_ok, st3, st3', tk3, Fin, isEnd, resL, res1]
    exact ⟨_, rfl, rfl, fun k hk => by simp only [ne_nb hk, if_false]⟩
  rw [if_neg h0] at hG
  cases hG
  refine ⟨by
    have := mE_base (invM f)
    show (List.all [Value.agg ⟨mE (invM f)⟩, .bool true] flatV) = true
    simp only [List.all_cons, List.all_nil, Bool.and_true, Bool.and_eq_true]
    exact ⟨this, rfl⟩, by simp, ?_⟩
  have s0 : ((detM f).num.sign = 0) = False := eq_false (fun e => h0 (Rat.num_eq_zero.1 (Int.sign_eq_zero_iff_zero.1 e)))
  generalize (detM f).num.sign = sn at *
  obtain ⟨D, hD⟩ : ∃ D, detM f = D := ⟨_, rfl⟩
  rw [hD] at de rd sg h0
  have m00 : spR7minor [.agg ⟨cs⟩, .int .i64 0, .int .i64 0] = some (.agg ⟨rE (minorM f 0 0)⟩) := (hM.le (by omega)).minor (i := 0) (k := 0) (by omega) (by omega)
  have b00 := minorM_RB rb 0 0
  have d00 := (RC.rE b00).div (RC.rE rd) (by omega) (by omega) h0
  have B00 := b00.div rd (k := 110000) (by omega) (by omega)
  have m01 : spR7minor [.agg ⟨cs⟩, .int .i64 1, .int .i64 0] = some (.agg ⟨rE (minorM f 1 0)⟩) := (hM.le (by omega)).minor (i := 1) (k := 0) (by omega) (by omega)
  have b01 := minorM_RB rb 1 0
  have d01 := (RC.rE b01).div (RC.rE rd) (by omega) (by omega) h0
  have B01 := b01.div rd (k := 110000) (by omega) (by omega)
  have m02 : spR7minor [.agg ⟨cs⟩, .int .i64 2, .int .i64 0] = some (.agg ⟨rE (minorM f 2 0)⟩) := (hM.le (by omega)).minor (i := 2) (k := 0) (by omega) (by omega)
  have b02 := minorM_RB rb 2 0
  have d02 := (RC.rE b02).div (RC.rE rd) (by omega) (by omega) h0
  have B02 := b02.div rd (k := 110000) (by omega) (by omega)
  have m10 : spR7minor [.agg ⟨cs⟩, .int .i64 0, .int .i64 1] = some (.agg ⟨rE (minorM f 0 1)⟩) := (hM.le (by omega)).minor (i := 0) (k := 1) (by omega) (by omega)
  have b10 := minorM_RB rb 0 1
  have d10 := (RC.rE b10).div (RC.rE rd) (by omega) (by omega) h0
  have B10 := b10.div rd (k := 110000) (by omega) (by omega)
  have m11 : spR7minor [.agg ⟨cs⟩, .int .i64 1, .int .i64 1] = some (.agg ⟨rE (minorM f 1 1)⟩) := (hM.le (by omega)).minor (i := 1) (k := 1) (by omega) (by omega)
  have b11 := minorM_RB rb 1 1
  have d11 := (RC.rE b11).div (RC.rE rd) (by omega) (by omega) h0
  have B11 := b11.div rd (k := 110000) (by omega) (by omega)
  have m12 : spR7minor [.agg ⟨cs⟩, .int .i64 2, .int .i64 1] = some (.agg ⟨rE (minorM f 2 1)⟩) := (hM.le (by omega)).minor (i := 2) (k := 1) (by omega) (by omega)
  have b12 := minorM_RB rb 2 1
  have d12 := (RC.rE b12).div (RC.rE rd) (by omega) (by omega) h0
  have B12 := b12.div rd (k := 110000) (by omega) (by omega)
  have m20 : spR7minor [.agg ⟨cs⟩, .int .i64 0, .int .i64 2] = some (.agg ⟨rE (minorM f 0 2)⟩) := (hM.le (by omega)).minor (i := 0) (k := 2) (by omega) (by omega)
  have b20 := minorM_RB rb 0 2
  have d20 := (RC.rE b20).div (RC.rE rd) (by omega) (by omega) h0
  have B20 := b20.div rd (k := 110000) (by omega) (by omega)
  have m21 : spR7minor [.agg ⟨cs⟩, .int .i64 1, .int .i64 2] = some (.agg ⟨rE (minorM f 1 2)⟩) := (hM.le (by omega)).minor (i := 1) (k := 2) (by omega) (by omega)
  have b21 := minorM_RB rb 1 2
  have d21 := (RC.rE b21).div (RC.rE rd) (by omega) (by omega) h0
  have B21 := b21.div rd (k := 110000) (by omega) (by omega)
  have m22 : spR7minor [.agg ⟨cs⟩, .int .i64 2, .int .i64 2] = some (.agg ⟨rE (minorM f 2 2)⟩) := (hM.le (by omega)).minor (i := 2) (k := 2) (by omega) (by omega)
  have b22 := minorM_RB rb 2 2
  have d22 := (RC.rE b22).div (RC.rE rd) (by omega) (by omega) h0
  have B22 := b22.div rd (k := 110000) (by omega) (by omega)
  obtain ⟨X00, x00⟩ : ∃ z, minorM f 0 0 / D = z := ⟨_, rfl⟩
  rw [x00] at d00 B00
  obtain ⟨X01, x01⟩ : ∃ z, minorM f 1 0 / D = z := ⟨_, rfl⟩
  rw [x01] at d01 B01
  obtain ⟨X02, x02⟩ : ∃ z, minorM f 2 0 / D = z := ⟨_, rfl⟩
  rw [x02] at d02 B02
  obtain ⟨X10, x10⟩ : ∃ z, minorM f 0 1 / D = z := ⟨_, rfl⟩
  rw [x10] at d10 B10
  obtain ⟨X11, x11⟩ : ∃ z, minorM f 1 1 / D = z := ⟨_, rfl⟩
  rw [x11] at d11 B11
  obtain ⟨X12, x12⟩ : ∃ z, minorM f 2 1 / D = z := ⟨_, rfl⟩
  rw [x12] at d12 B12
  obtain ⟨X20, x20⟩ : ∃ z, minorM f 0 2 / D = z := ⟨_, rfl⟩
  rw [x20] at d20 B20
  obtain ⟨X21, x21⟩ : ∃ z, minorM f 1 2 / D = z := ⟨_, rfl⟩
  rw [x21] at d21 B21
  obtain ⟨X22, x22⟩ : ∃ z, minorM f 2 2 / D = z := ⟨_, rfl⟩
  rw [x22] at d22 B22
  obtain ⟨g, hg⟩ : ∃ g, (upd (upd (upd (upd (upd (upd (upd (upd (upd idM 0 X00) 1 X01) 2 X02) 4 X10) 5 X11) 6 X12) 8 X20) 9 X21) 10 X22) = g := ⟨_, rfl⟩
  have g0 : g 0 = X00 := by rw [← hg]; rfl
  have g1 : g 1 = X01 := by rw [← hg]; rfl
  have g2 : g 2 = X02 := by rw [← hg]; rfl
  have g3 : g 3 = 0 := by rw [← hg]; rfl
  have g4 : g 4 = X10 := by rw [← hg]; rfl
  have g5 : g 5 = X11 := by rw [← hg]; rfl
  have g6 : g 6 = X12 := by rw [← hg]; rfl
  have g7 : g 7 = 0 := by rw [← hg]; rfl
  have g8 : g 8 = X20 := by rw [← hg]; rfl
  have g9 : g 9 = X21 := by rw [← hg]; rfl
  have g10 : g 10 = X22 := by rw [← hg]; rfl
  have g11 : g 11 = 0 := by rw [← hg]; rfl
  have gb : ∀ i, i < 12 → RB (g i) 110000 := each12 (by rw [g0]; exact B00) (by rw [g1]; exact B01) (by rw [g2]; exact B02) (by rw [g3]; exact RB.zero.le (by omega)) (by rw [g4]; exact B10) (by rw [g5]; exact B11) (by rw [g6]; exact B12) (by rw [g7]; exact RB.zero.le (by omega)) (by rw [g8]; exact B20) (by rw [g9]; exact B21) (by rw [g10]; exact B22) (by rw [g11]; exact RB.zero.le (by omega))
  have ve : spR7Vec [.agg ⟨mE g⟩, .agg ⟨rqs [A3, A7, A11]⟩] = some (.agg ⟨r3E (appM g (f 3) (f 7) (f 11) 0) (appM g (f 3) (f 7) (f 11) 1) (appM g (f 3) (f 7) (f 11) 2)⟩) := by
    have hg := MS.mE gb
    obtain ⟨P, a, b, e⟩ := hg.le (k := 1048576) (by omega)
    unfold spR7Vec
    simp only [a, ratsOf_rqs]
    rw [if_pos ⟨b, q3.le (by omega), q7.le (by omega), q11.le (by omega)⟩, appM_congr e _ _ _ (n := 0) (by omega), appM_congr e _ _ _ (n := 1) (by omega), appM_congr e _ _ _ (n := 2) (by omega), e3, e7, e11]
  have f3b : RB (f 3) 1001 := by rw [← e3]; exact q3.rb
  have f7b : RB (f 7) 1001 := by rw [← e7]; exact q7.rb
  have f11b : RB (f 11) 1001 := by rw [← e11]; exact q11.rb
  have vb := fun n hn => appM_RB (n := n) gb f3b f7b f11b (by omega) hn
  have r0 := inv_row f g D hD 0 (by omega) (by rw [x00]; exact g0) (by rw [x01]; exact g1) (by rw [x02]; exact g2) g3
  have r1 := inv_row f g D hD 1 (by omega) (by rw [x10]; exact g4) (by rw [x11]; exact g5) (by rw [x12]; exact g6) g7
  have r2 := inv_row f g D hD 2 (by omega) (by rw [x20]; exact g8) (by rw [x21]; exact g9) (by rw [x22]; exact g10) g11
  have n0 := (RC.rE (vb 0 (by omega))).neg (by omega)
  have n1 := (RC.rE (vb 1 (by omega))).neg (by omega)
  have n2 := (RC.rE (vb 2 (by omega))).neg (by omega)
  generalize appM g (f 3) (f 7) (f 11) 0 = V0 at *
  generalize appM g (f 3) (f 7) (f 11) 1 = V1 at *
  generalize appM g (f 3) (f 7) (f 11) 2 = V2 at *
  have fin : mE (upd (upd (upd g 3 (-V0)) 7 (-V1)) 11 (-V2)) = mE (invM f) := by
    refine mE_congr (each12 ?_ ?_ ?_ ?_ ?_ ?_ ?_ ?_ ?_ ?_ ?_ ?_)
    · show g 0 = invM f 0
      rw [g0, ← x00, ← hD]; rfl
    · show g 1 = invM f 1
      rw [g1, ← x01, ← hD]; rfl
    · show g 2 = invM f 2
      rw [g2, ← x02, ← hD]; rfl
    · exact r0
    · show g 4 = invM f 4
      rw [g4, ← x10, ← hD]; rfl
    · show g 5 = invM f 5
      rw [g5, ← x11, ← hD]; rfl
    · show g 6 = invM f 6
      rw [g6, ← x12, ← hD]; rfl
    · exact r1
    · show g 8 = invM f 8
      rw [g8, ← x20, ← hD]; rfl
    · show g 9 = invM f 9
      rw [g9, ← x21, ← hD]; rfl
    · show g 10 = invM f 10
      rw [g10, ← x22, ← hD]; rfl
    · exact r2
  have bld : setR (setR (setR [.bool false, .string ⟨⟨[]⟩⟩, .string ⟨⟨[]⟩⟩, .bool false, .string ⟨⟨[]⟩⟩, .string ⟨⟨[]⟩⟩, .bool false, .string ⟨⟨[]⟩⟩, .string ⟨⟨[]⟩⟩] 0 A3.cells) 3 A7.cells) 6 A11.cells = rqs [A3, A7, A11] := rfl
  have zr := r3E_zero
  rw [← zr] at bld
  clear f3b f7b f11b e3 e7 e11 q3 q7 q11 hM rb gb vb
  simp only [c31, G0, Nat.reduceAdd]
  simp only [↓R0, R1, simprocAttr, -Int.reduceAbs, ← ez, l1, t1, o1, lz, oz, tz, sz, de, sg, s0, sid, rE_len, rE_ok, st3, st3', tk3]
  refine lp_step ?_
  simp only [↓R0, R1, simprocAttr, -Int.reduceAbs, setR_length, l1, t1, o1, cells_len, rE_len, rE_ok, st3, st3', tk3, lz, oz, tz, sz, w0, w1, w2, w3, w4, w5, w6, w7, w8, w9, w10, w11, w12, mset0, mset1, mset2, mset3, mset4, mset5, mset6, mset7, mset8, mset9, mset10, mset11, r3E_len, r3E_ok, r3E_tk, r3E_st, r3E_g0, r3E_g1, r3E_g2, r3E_s0, r3E_s1, r3E_s2]
  refine lp_step ?_
  simp only [↓R0, R1, simprocAttr, -Int.reduceAbs, setR_length, l1, t1, o1, cells_len, rE_len, rE_ok, st3, st3', tk3, lz, oz, tz, sz, w0, w1, w2, w3, w4, w5, w6, w7, w8, w9, w10, w11, w12, mset0, mset1, mset2, mset3, mset4, mset5, mset6, mset7, mset8, mset9, mset10, mset11, r3E_len, r3E_ok, r3E_tk, r3E_st, r3E_g0, r3E_g1, r3E_g2, r3E_s0, r3E_s1, r3E_s2, m00, d00]
  refine lp_step ?_
  simp only [↓R0, R1, simprocAttr, -Int.reduceAbs, setR_length, l1, t1, o1, cells_len, rE_len, rE_ok, st3, st3', tk3, lz, oz, tz, sz, w0, w1, w2, w3, w4, w5, w6, w7, w8, w9, w10, w11, w12, mset0, mset1, mset2, mset3, mset4, mset5, mset6, mset7, mset8, mset9, mset10, mset11, r3E_len, r3E_ok, r3E_tk, r3E_st, r3E_g0, r3E_g1, r3E_g2, r3E_s0, r3E_s1, r3E_s2, m01, d01]
  refine lp_step ?_
  simp only [↓R0, R1, simprocAttr, -Int.reduceAbs, setR_length, l1, t1, o1, cells_len, rE_len, rE_ok, st3, st3', tk3, lz, oz, tz, sz, w0, w1, w2, w3, w4, w5, w6, w7, w8, w9, w10, w11, w12, mset0, mset1, mset2, mset3, mset4, mset5, mset6, mset7, mset8, mset9, mset10, mset11, r3E_len, r3E_ok, r3E_tk, r3E_st, r3E_g0, r3E_g1, r3E_g2, r3E_s0, r3E_s1, r3E_s2, m02, d02]
  refine lp_step ?_
  simp only [↓R0, R1, simprocAttr, -Int.reduceAbs, setR_length, l1, t1, o1, cells_len, rE_len, rE_ok, st3, st3', tk3, lz, oz, tz, sz, w0, w1, w2, w3, w4, w5, w6, w7, w8, w9, w10, w11, w12, mset0, mset1, mset2, mset3, mset4, mset5, mset6, mset7, mset8, mset9, mset10, mset11, r3E_len, r3E_ok, r3E_tk, r3E_st, r3E_g0, r3E_g1, r3E_g2, r3E_s0, r3E_s1, r3E_s2]
  refine lp_step ?_
  simp only [↓R0, R1, simprocAttr, -Int.reduceAbs, setR_length, l1, t1, o1, cells_len, rE_len, rE_ok, st3, st3', tk3, lz, oz, tz, sz, w0, w1, w2, w3, w4, w5, w6, w7, w8, w9, w10, w11, w12, mset0, mset1, mset2, mset3, mset4, mset5, mset6, mset7, mset8, mset9, mset10, mset11, r3E_len, r3E_ok, r3E_tk, r3E_st, r3E_g0, r3E_g1, r3E_g2, r3E_s0, r3E_s1, r3E_s2]
  refine lp_step ?_
  simp only [↓R0, R1, simprocAttr, -Int.reduceAbs, setR_length, l1, t1, o1, cells_len, rE_len, rE_ok, st3, st3', tk3, lz, oz, tz, sz, w0, w1, w2, w3, w4, w5, w6, w7, w8, w9, w10, w11, w12, mset0, mset1, mset2, mset3, mset4, mset5, mset6, mset7, mset8, mset9, mset10, mset11, r3E_len, r3E_ok, r3E_tk, r3E_st, r3E_g0, r3E_g1, r3E_g2, r3E_s0, r3E_s1, r3E_s2, m10, d10]
  refine lp_step ?_
  simp only [↓R0, R1, simprocAttr, -Int.reduceAbs, setR_length, l1, t1, o1, cells_len, rE_len, rE_ok, st3, st3', tk3, lz, oz, tz, sz, w0, w1, w2, w3, w4, w5, w6, w7, w8, w9, w10, w11, w12, mset0, mset1, mset2, mset3, mset4, mset5, mset6, mset7, mset8, mset9, mset10, mset11, r3E_len, r3E_ok, r3E_tk, r3E_st, r3E_g0, r3E_g1, r3E_g2, r3E_s0, r3E_s1, r3E_s2, m11, d11]
  refine lp_step ?_
  simp only [↓R0, R1, simprocAttr, -Int.reduceAbs, setR_length, l1, t1, o1, cells_len, rE_len, rE_ok, st3, st3', tk3, lz, oz, tz, sz, w0, w1, w2, w3, w4, w5, w6, w7, w8, w9, w10, w11, w12, mset0, mset1, mset2, mset3, mset4, mset5, mset6, mset7, mset8, mset9, mset10, mset11, r3E_len, r3E_ok, r3E_tk, r3E_st, r3E_g0, r3E_g1, r3E_g2, r3E_s0, r3E_s1, r3E_s2, m12, d12]
  refine lp_step ?_
  simp only [↓R0, R1, simprocAttr, -Int.reduceAbs, setR_length, l1, t1, o1, cells_len, rE_len, rE_ok, st3, st3', tk3, lz, oz, tz, sz, w0, w1, w2, w3, w4, w5, w6, w7, w8, w9, w10, w11, w12, mset0, mset1, mset2, mset3, mset4, mset5, mset6, mset7, mset8, mset9, mset10, mset11, r3E_len, r3E_ok, r3E_tk, r3E_st, r3E_g0, r3E_g1, r3E_g2, r3E_s0, r3E_s1, r3E_s2]
  refine lp_step ?_
  simp only [↓R0, R1, simprocAttr, -Int.reduceAbs, setR_length, l1, t1, o1, cells_len, rE_len, rE_ok, st3, st3', tk3, lz, oz, tz, sz, w0, w1, w2, w3, w4, w5, w6, w7, w8, w9, w10, w11, w12, mset0, mset1, mset2, mset3, mset4, mset5, mset6, mset7, mset8, mset9, mset10, mset11, r3E_len, r3E_ok, r3E_tk, r3E_st, r3E_g0, r3E_g1, r3E_g2, r3E_s0, r3E_s1, r3E_s2]
  refine lp_step ?_
  simp only [↓R0, R1, simprocAttr, -Int.reduceAbs, setR_length, l1, t1, o1, cells_len, rE_len, rE_ok, st3, st3', tk3, lz, oz, tz, sz, w0, w1, w2, w3, w4, w5, w6, w7, w8, w9, w10, w11, w12, mset0, mset1, mset2, mset3, mset4, mset5, mset6, mset7, mset8, mset9, mset10, mset11, r3E_len, r3E_ok, r3E_tk, r3E_st, r3E_g0, r3E_g1, r3E_g2, r3E_s0, r3E_s1, r3E_s2, m20, d20]
  refine lp_step ?_
  simp only [↓R0, R1, simprocAttr, -Int.reduceAbs, setR_length, l1, t1, o1, cells_len, rE_len, rE_ok, st3, st3', tk3, lz, oz, tz, sz, w0, w1, w2, w3, w4, w5, w6, w7, w8, w9, w10, w11, w12, mset0, mset1, mset2, mset3, mset4, mset5, mset6, mset7, mset8, mset9, mset10, mset11, r3E_len, r3E_ok, r3E_tk, r3E_st, r3E_g0, r3E_g1, r3E_g2, r3E_s0, r3E_s1, r3E_s2, m21, d21]
  refine lp_step ?_
  simp only [↓R0, R1, simprocAttr, -Int.reduceAbs, setR_length, l1, t1, o1, cells_len, rE_len, rE_ok, st3, st3', tk3, lz, oz, tz, sz, w0, w1, w2, w3, w4, w5, w6, w7, w8, w9, w10, w11, w12, mset0, mset1, mset2, mset3, mset4, mset5, mset6, mset7, mset8, mset9, mset10, mset11, r3E_len, r3E_ok, r3E_tk, r3E_st, r3E_g0, r3E_g1, r3E_g2, r3E_s0, r3E_s1, r3E_s2, m22, d22]
  refine lp_step ?_
  simp only [↓R0, R1, simprocAttr, -Int.reduceAbs, setR_length, l1, t1, o1, cells_len, rE_len, rE_ok, st3, st3', tk3, lz, oz, tz, sz, w0, w1, w2, w3, w4, w5, w6, w7, w8, w9, w10, w11, w12, mset0, mset1, mset2, mset3, mset4, mset5, mset6, mset7, mset8, mset9, mset10, mset11, r3E_len, r3E_ok, r3E_tk, r3E_st, r3E_g0, r3E_g1, r3E_g2, r3E_s0, r3E_s1, r3E_s2]
  refine lp_step ?_
  simp only [↓R0, R1, simprocAttr, -Int.reduceAbs, setR_length, l1, t1, o1, cells_len, rE_len, rE_ok, st3, st3', tk3, lz, oz, tz, sz, w0, w1, w2, w3, w4, w5, w6, w7, w8, w9, w10, w11, w12, mset0, mset1, mset2, mset3, mset4, mset5, mset6, mset7, mset8, mset9, mset10, mset11, r3E_len, r3E_ok, r3E_tk, r3E_st, r3E_g0, r3E_g1, r3E_g2, r3E_s0, r3E_s1, r3E_s2, hg, ← zr, a3, a7, a11, bld, ve]
  refine lp_step ?_
  simp only [↓R0, R1, simprocAttr, -Int.reduceAbs, setR_length, l1, t1, o1, cells_len, rE_len, rE_ok, st3, st3', tk3, lz, oz, tz, sz, w0, w1, w2, w3, w4, w5, w6, w7, w8, w9, w10, w11, w12, mset0, mset1, mset2, mset3, mset4, mset5, mset6, mset7, mset8, mset9, mset10, mset11, r3E_len, r3E_ok, r3E_tk, r3E_st, r3E_g0, r3E_g1, r3E_g2, r3E_s0, r3E_s1, r3E_s2, n0]
  refine lp_step ?_
  simp only [↓R0, R1, simprocAttr, -Int.reduceAbs, setR_length, l1, t1, o1, cells_len, rE_len, rE_ok, st3, st3', tk3, lz, oz, tz, sz, w0, w1, w2, w3, w4, w5, w6, w7, w8, w9, w10, w11, w12, mset0, mset1, mset2, mset3, mset4, mset5, mset6, mset7, mset8, mset9, mset10, mset11, r3E_len, r3E_ok, r3E_tk, r3E_st, r3E_g0, r3E_g1, r3E_g2, r3E_s0, r3E_s1, r3E_s2, n1]
  refine lp_step ?_
  simp only [↓R0, R1, simprocAttr, -Int.reduceAbs, setR_length, l1, t1, o1, cells_len, rE_len, rE_ok, st3, st3', tk3, lz, oz, tz, sz, w0, w1, w2, w3, w4, w5, w6, w7, w8, w9, w10, w11, w12, mset0, mset1, mset2, mset3, mset4, mset5, mset6, mset7, mset8, mset9, mset10, mset11, r3E_len, r3E_ok, r3E_tk, r3E_st, r3E_g0, r3E_g1, r3E_g2, r3E_s0, r3E_s1, r3E_s2, n2]
  refine lp_step ?_
  simp only [↓R0, R1, simprocAttr, -Int.reduceAbs, setR_length, l1, t1, o1, cells_len, rE_len, rE_ok, st3, st3', tk3, lz, oz, tz, sz, w0, w1, w2, w3, w4, w5, w6, w7, w8, w9, w10, w11, w12, mset0, mset1, mset2, mset3, mset4, mset5, mset6, mset7, mset8, mset9, mset10, mset11, r3E_len, r3E_ok, r3E_tk, r3E_st, r3E_g0, r3E_g1, r3E_g2, r3E_s0, r3E_s1, r3E_s2, fin, Fin, isEnd, resL, res1]
  exact ⟨_, rfl, rfl, fun k hk => by simp only [ne_nb hk, if_false]⟩
end Go.Eng
end
section
set_option linter.unusedVariables false
set_option linter.unusedSimpArgs false
set_option linter.unusedSectionVars false
namespace Go.Eng
end Go.Eng
end
section
set_option linter.unusedVariables false
set_option linter.unusedSimpArgs false
set_option linter.unusedSectionVars false
set_option maxRecDepth 20000
namespace Go.Eng
open Go Go.Proofs Go.IntWalk
theorem lG_mul (k : Nat) (a b c d : Int) : lG (k * a) (k * b) (k * c) (k * d) = k * lG a b c d := by
  unfold lG
  simp only [Int.natAbs_mul, Int.natAbs_natCast, Nat.gcd_mul_left]
theorem lE_mul {k : Nat} (hk : 0 < k) (a b c d : Int) : lE (k * a) (k * b) (k * c) (k * d) = lE a b c d := by
  unfold lE
  rw [lG_mul]
  simp only [Int.natCast_mul]
  have : (0 : Int) < k := by omega
  rw [Int.mul_ediv_mul_of_pos _ _ this, Int.mul_ediv_mul_of_pos _ _ this, Int.mul_ediv_mul_of_pos _ _ this, Int.mul_ediv_mul_of_pos _ _ this]
theorem apl_congr {f g : Nat → Rat} (h : ∀ i, i < 12 → f i = g i) (a b c d : Rat) : ∀ i, i < 4 → aplQ f a b c d i = aplQ g a b c d i := fun i hi => by
  unfold aplQ
  split
  · exact dotN_congr 3 fun k hk => ⟨rfl, h _ (by omega)⟩
  · rw [dotN_congr 3 (a := nrm a b c 0) (a' := nrm a b c 0) (b := fun k => f (4 * k + 3)) (b' := fun k => g (4 * k + 3)) fun k hk => ⟨rfl, h _ (by omega)⟩]
end Go.Eng
end
section
set_option linter.unusedVariables false
set_option linter.unusedSimpArgs false
set_option linter.unusedSectionVars false
set_option maxRecDepth 20000
namespace Go.Eng
open Go Go.Proofs Go.IntWalk
end Go.Eng
end
section
set_option linter.unusedVariables false
set_option linter.unusedSimpArgs false
set_option linter.unusedSectionVars false
set_option maxRecDepth 20000
namespace Go.Eng
open Go Go.Proofs Go.IntWalk
structure PL (A B C D : Int) (k : Nat) : Prop where
  can : lE A B C D = iE A ++ iE B ++ iE C ++ iE D
  ne : ¬ (A = 0 ∧ B = 0 ∧ C = 0)
  l1 : (bl A.natAbs).length ≤ k
  l2 : (bl B.natAbs).length ≤ k
  l3 : (bl C.natAbs).length ≤ k
  l4 : (bl D.natAbs).length ≤ k
theorem PL.of {a b c d : Int} {k : Nat} (hn : ¬ (a = 0 ∧ b = 0 ∧ c = 0)) (h1 : (bl a.natAbs).length ≤ k) (h2 : (bl b.natAbs).length ≤ k) (h3 : (bl c.natAbs).length ≤ k) (h4 : (bl d.natAbs).length ≤ k) :
    ∃ A B C D : Int, ∃ G : Nat, 0 < G ∧ a = G * A ∧ b = G * B ∧ c = G * C ∧ d = G * D ∧ lE a b c d = iE A ++ iE B ++ iE C ++ iE D ∧ PL A B C D k := by
  have g := lG_pos (d := d) hn
  have e1 := Int.mul_ediv_cancel' (lG_d1 a b c d)
  have e2 := Int.mul_ediv_cancel' (lG_d2 a b c d)
  have e3 := Int.mul_ediv_cancel' (lG_d3 a b c d)
  have e4 := Int.mul_ediv_cancel' (lG_d4 a b c d)
  have u : lE a b c d = iE (a / (lG a b c d : Int)) ++ iE (b / (lG a b c d : Int)) ++ iE (c / (lG a b c d : Int)) ++ iE (d / (lG a b c d : Int)) := rfl
  have dl : ∀ {z : Int}, (lG a b c d : Int) ∣ z → (bl z.natAbs).length ≤ k → (bl (z / (lG a b c d : Int)).natAbs).length ≤ k := fun {z} hd hl => by
    rw [Int.natAbs_ediv_of_dvd hd]
    exact Nat.le_trans (bl_length_mono (Nat.div_le_self _ _)) hl
  have L1 := dl (lG_d1 a b c d) h1
  have L2 := dl (lG_d2 a b c d) h2
  have L3 := dl (lG_d3 a b c d) h3
  have L4 := dl (lG_d4 a b c d) h4
  generalize lG a b c d = G at *
  generalize a / (G : Int) = A at *
  generalize b / (G : Int) = B at *
  generalize c / (G : Int) = C at *
  generalize d / (G : Int) = D at *
  refine ⟨A, B, C, D, G, g, e1.symm, e2.symm, e3.symm, e4.symm, u, ?_, ?_, L1, L2, L3, L4⟩
  · rw [← u, ← e1, ← e2, ← e3, ← e4, lE_mul g]
  · rintro ⟨rfl, rfl, rfl⟩
    exact hn ⟨by rw [← e1, Int.mul_zero], by rw [← e2, Int.mul_zero], by rw [← e3, Int.mul_zero]⟩
theorem form_cases (s1 l1 s2 l2 s3 l3 s4 l4 t1 m1 t2 m2 t3 m3 t4 m4) :
    (∃ P Q, spLForm [.agg ⟨[.bool s1, .string ⟨⟨l1⟩⟩, .bool s2, .string ⟨⟨l2⟩⟩, .bool s3, .string ⟨⟨l3⟩⟩, .bool s4, .string ⟨⟨l4⟩⟩]⟩, .agg ⟨[.bool t1, .string ⟨⟨m1⟩⟩, .bool t2, .string ⟨⟨m2⟩⟩, .bool t3, .string ⟨⟨m3⟩⟩, .bool t4, .string ⟨⟨m4⟩⟩]⟩] = some (.tuple ⟨[.agg ⟨P⟩, .agg ⟨Q⟩, .bool false]⟩) ∧ P.length = 8 ∧ Q.length = 8 ∧ P.all okCell = true ∧ Q.all okCell = true) ∨
    (∃ x y z A B C D, spLForm [.agg ⟨[.bool s1, .string ⟨⟨l1⟩⟩, .bool s2, .string ⟨⟨l2⟩⟩, .bool s3, .string ⟨⟨l3⟩⟩, .bool s4, .string ⟨⟨l4⟩⟩]⟩, .agg ⟨[.bool t1, .string ⟨⟨m1⟩⟩, .bool t2, .string ⟨⟨m2⟩⟩, .bool t3, .string ⟨⟨m3⟩⟩, .bool t4, .string ⟨⟨m4⟩⟩]⟩] = some (.tuple ⟨[.agg ⟨mkE x y z⟩, .agg ⟨lE A B C D⟩, .bool true]⟩) ∧ RB x 6 ∧ RB y 6 ∧ RB z 6 ∧ PL A B C D 6) := by
  unfold spLForm
  simp only
  by_cases q : (l1.length ≤ 6 ∧ l2.length ≤ 6 ∧ l3.length ≤ 6 ∧ l4.length ≤ 6) ∧ (m1.length ≤ 6 ∧ m2.length ≤ 6 ∧ m3.length ≤ 6 ∧ m4.length ≤ 6)
  · rw [if_pos q]
    by_cases n : sv t1 m1 = 0 ∧ sv t2 m2 = 0 ∧ sv t3 m3 = 0
    · rw [if_pos n]
      exact .inl ⟨_, _, rfl, rfl, rfl, rfl, rfl⟩
    · rw [if_neg n]
      obtain ⟨⟨h1, h2, h3, h4⟩, k1, k2, k3, k4⟩ := q
      obtain ⟨x, y, z, _, e, bx, by', bz⟩ := r4Norm_mk (s1 := s1) (s2 := s2) (s3 := s3) (s4 := s4) h1 h2 h3 h4
      obtain ⟨A, B, C, D, G, _, _, _, _, _, u, p⟩ := PL.of n (len_sv k1) (len_sv k2) (len_sv k3) (len_sv (s := t4) k4)
      exact .inr ⟨x, y, z, A, B, C, D, by rw [e, u, p.can], bx, by', bz, p⟩
  · rw [if_neg q]
    exact .inl ⟨_, _, rfl, rfl, rfl, rfl, rfl⟩
theorem PL.apl {A B C D : Int} {k : Nat} (p : PL A B C D k) (hk : k ≤ 65536) {c : List Value} {f : Nat → Rat} (h : MS c f 1048576) :
    spAapl [.agg ⟨c⟩, .agg ⟨lE A B C D⟩] = some (if detM f = 0 then .tuple ⟨[.agg ⟨pZ⟩, .bool false]⟩ else fcR (aplQ (invM f) A B C D)) := by
  obtain ⟨q, a, b, e⟩ := h
  rw [p.can]
  have h1 := p.l1; have h2 := p.l2; have h3 := p.l3; have h4 := p.l4
  unfold spAapl iE
  simp only [List.cons_append, List.nil_append, a]
  rw [if_pos ⟨b, by omega, by omega, by omega, by omega⟩]
  simp only [sv_can]
  rw [detM_congr e, fcR_congr (apl_congr (fun i _ => invM_congr e i) _ _ _ _)]
end Go.Eng
end
section
set_option linter.unusedVariables false
set_option linter.unusedSimpArgs false
set_option linter.unusedSectionVars false
namespace Go.Eng
theorem sq3_ne {a b c : Int} (h : ¬ (a = 0 ∧ b = 0 ∧ c = 0)) : dotN (nrm a b c 0) (nrm a b c 0) 3 ≠ 0 := fun e => by
  have e' : a * a + b * b + c * c = 0 := by
    refine Rat.intCast_inj.1 ?_
    simp only [Rat.intCast_add, Rat.intCast_mul]
    simp [dotN, nrm] at e
    grind
  have s : ∀ x : Int, 0 ≤ x * x := fun x => by
    rcases Int.le_total 0 x with h | h
    · exact Int.mul_nonneg h h
    · exact Int.mul_nonneg_of_nonpos_of_nonpos h h
  have := s a; have := s b; have := s c
  have z : ∀ x : Int, x * x = 0 → x = 0 := fun x h => by rcases Int.mul_eq_zero.1 h with h | h <;> exact h
  exact h ⟨z a (by omega), z b (by omega), z c (by omega)⟩
theorem nrm_sq (a b c d : Rat) : dotN (nrm a b c d) (nrm a b c d) 3 = a * a + b * b + c * c := by
  simp [dotN, nrm]; grind
end Go.Eng
end
section
set_option linter.unusedVariables false
set_option linter.unusedSimpArgs false
set_option linter.unusedSectionVars false
set_option maxRecDepth 20000
namespace Go.Eng
open Go Go.Proofs Go.IntWalk
def r4E (a b c d : Rat) : List Value := rE a ++ rE b ++ rE c ++ rE d
theorem r4E_zero : r4E 0 0 0 0 = [.bool false, .string ⟨⟨[]⟩⟩, .string ⟨⟨[]⟩⟩, .bool false, .string ⟨⟨[]⟩⟩, .string ⟨⟨[]⟩⟩, .bool false, .string ⟨⟨[]⟩⟩, .string ⟨⟨[]⟩⟩, .bool false, .string ⟨⟨[]⟩⟩, .string ⟨⟨[]⟩⟩] := by unfold r4E; rw [rE_zero]; rfl
theorem r4E_new (x : Rat) : setR [.bool false, .string ⟨⟨[]⟩⟩, .string ⟨⟨[]⟩⟩, .bool false, .string ⟨⟨[]⟩⟩, .string ⟨⟨[]⟩⟩, .bool false, .string ⟨⟨[]⟩⟩, .string ⟨⟨[]⟩⟩, .bool false, .string ⟨⟨[]⟩⟩, .string ⟨⟨[]⟩⟩] 0 (rE x) = r4E x 0 0 0 := by rw [← r4E_zero]; rfl
theorem r4E_len (a b c d : Rat) : (r4E a b c d).length = 12 := rfl
theorem r4E_ok (a b c d : Rat) : (r4E a b c d).all okCell = true := rfl
theorem r4E_tk (a b c d : Rat) : (r4E a b c d).take 12 = r4E a b c d := rfl
theorem r4E_st (a b c d x y z w : Rat) : setR (r4E x y z w) 0 (r4E a b c d) = r4E a b c d := rfl
theorem r4E_g0 (a b c d : Rat) : (r4E a b c d).take 3 = rE a := rfl
theorem r4E_g1 (a b c d : Rat) : ((r4E a b c d).drop 3).take 3 = rE b := rfl
theorem r4E_g2 (a b c d : Rat) : ((r4E a b c d).drop 6).take 3 = rE c := rfl
theorem r4E_g3 (a b c d : Rat) : ((r4E a b c d).drop 9).take 3 = rE d := rfl
theorem r4E_s0 (a b c d x : Rat) : setR (r4E a b c d) 0 (rE x) = r4E x b c d := rfl
theorem r4E_s1 (a b c d x : Rat) : setR (r4E a b c d) 3 (rE x) = r4E a x c d := rfl
theorem r4E_s2 (a b c d x : Rat) : setR (r4E a b c d) 6 (rE x) = r4E a b x d := rfl
theorem r4E_s3 (a b c d x : Rat) : setR (r4E a b c d) 9 (rE x) = r4E a b c x := rfl
theorem r3Make_int {s : Bool} {l : List UInt8} (h : l.length ≤ 1000) : spR3Make [.agg ⟨[.bool s, .string ⟨⟨l⟩⟩]⟩, .agg ⟨[.bool false, .string ⟨⟨[1]⟩⟩]⟩] = some (.tuple ⟨[.agg ⟨rE (sv s l : Rat)⟩, .bool true]⟩) := by
  rw [← divInt_one]
  have e : sv false [1] = 1 := by decide
  unfold spR3Make
  simp only [e]
  rw [if_pos ⟨by omega, by decide⟩, if_neg (by decide)]
theorem mk5_fcR (Q : Nat → Rat) : mk5 (Q 0) (Q 1) (Q 2) (Q 3) = some (fcR Q) := by
  have h0 : (((Q 0).den : Nat) : Int) ≠ 0 := by have := (Q 0).den_pos; omega
  have h1 : (((Q 1).den : Nat) : Int) ≠ 0 := by have := (Q 1).den_pos; omega
  have h2 : (((Q 2).den : Nat) : Int) ≠ 0 := by have := (Q 2).den_pos; omega
  have h3 : (((Q 3).den : Nat) : Int) ≠ 0 := by have := (Q 3).den_pos; omega
  have c0 : mkO (Q 0) (Q 0) (Q 1) (Q 2) (Q 3) = cofP Q 0 4 := by
    unfold mkO
    simp only [cofP, if_true, show (1 : Nat) = 0 ↔ False by decide, show (2 : Nat) = 0 ↔ False by decide, show (3 : Nat) = 0 ↔ False by decide, if_false, Int.one_mul]
    rw [Int.mul_assoc, Int.mul_assoc, Int.mul_ediv_cancel_left _ h0]; grind
  have c1 : mkO (Q 1) (Q 0) (Q 1) (Q 2) (Q 3) = cofP Q 1 4 := by
    unfold mkO
    simp only [cofP, if_true, show (0 : Nat) = 1 ↔ False by decide, show (2 : Nat) = 1 ↔ False by decide, show (3 : Nat) = 1 ↔ False by decide, if_false, Int.one_mul]
    rw [show ((Q 0).den : Int) * (Q 1).den * (Q 2).den * (Q 3).den = (Q 1).den * ((Q 0).den * (Q 2).den * (Q 3).den) by grind, Int.mul_ediv_cancel_left _ h1]; grind
  have c2 : mkO (Q 2) (Q 0) (Q 1) (Q 2) (Q 3) = cofP Q 2 4 := by
    unfold mkO
    simp only [cofP, if_true, show (0 : Nat) = 2 ↔ False by decide, show (1 : Nat) = 2 ↔ False by decide, show (3 : Nat) = 2 ↔ False by decide, if_false, Int.one_mul]
    rw [show ((Q 0).den : Int) * (Q 1).den * (Q 2).den * (Q 3).den = (Q 2).den * ((Q 0).den * (Q 1).den * (Q 3).den) by grind, Int.mul_ediv_cancel_left _ h2]; grind
  have c3 : mkO (Q 3) (Q 0) (Q 1) (Q 2) (Q 3) = cofP Q 3 4 := by
    unfold mkO
    simp only [cofP, if_true, show (0 : Nat) = 3 ↔ False by decide, show (1 : Nat) = 3 ↔ False by decide, show (2 : Nat) = 3 ↔ False by decide, if_false, Int.one_mul]
    rw [show ((Q 0).den : Int) * (Q 1).den * (Q 2).den * (Q 3).den = (Q 3).den * ((Q 0).den * (Q 1).den * (Q 2).den) by grind, Int.mul_ediv_cancel_left _ h3]; grind
  unfold mk5 fcR
  rw [c0, c1, c2, c3]
  split <;> rfl
theorem r5Make_rE {x y z w : Rat} {i : Nat} (hx : RB x i) (hy : RB y i) (hz : RB z i) (hw : RB w i) (hi : i ≤ 1073741824) : spR5Make [.agg ⟨r3E x y z⟩, .agg ⟨rE w⟩] = mk5 x y z w := by
  refine (if_pos ⟨hx.num hi, hx.den hi, hy.num hi, hy.den hi, hz.num hi, hz.den hi, hw.num hi, hw.den hi⟩).trans ?_
  rw [rv_can, rv_can, rv_can, rv_can]
def spR7Plane : List Value → Option Value
  | [.agg ⟨cs⟩, .agg ⟨[.bool s1, .string ⟨⟨l1⟩⟩, .bool s2, .string ⟨⟨l2⟩⟩, .bool s3, .string ⟨⟨l3⟩⟩, .bool s4, .string ⟨⟨l4⟩⟩]⟩] => match mapOf cs with
    | some p => if mapOk 1000 p ∧ l1.length ≤ 1000 ∧ l2.length ≤ 1000 ∧ l3.length ≤ 1000 ∧ l4.length ≤ 1000 then
        some (if detM (fun i => (p i).v) = 0 then .tuple ⟨[.agg ⟨pZ⟩, .bool false]⟩ else fcR (aplQ (invM (fun i => (p i).v)) (sv s1 l1) (sv s2 l2) (sv s3 l3) (sv s4 l4))) else none
    | none => none
  | _ => none
theorem apl_row (b : Nat → Rat) (x y z w : Rat) (k : Nat) (hk : k < 3) : 0 + x * b (4 * 0 + k) + y * b (4 * 1 + k) + z * b (4 * 2 + k) = aplQ b x y z w k := by
  unfold aplQ
  rw [if_pos hk]
  simp only [dotN, nrm, if_true, show (1 : Nat) = 0 ↔ False by decide, show (2 : Nat) = 0 ↔ False by decide, show (2 : Nat) = 1 ↔ False by decide, if_false]
theorem apl_off (b : Nat → Rat) (x y z w : Rat) : w - x * b 3 - y * b 7 - z * b 11 = aplQ b x y z w 3 := by
  unfold aplQ
  rw [if_neg (by decide)]
  simp only [dotN, nrm, if_true, show (1 : Nat) = 0 ↔ False by decide, show (2 : Nat) = 0 ↔ False by decide, show (2 : Nat) = 1 ↔ False by decide, if_false]
  grind
def c37 : ICode :=
  (.seq (.reg [qq 2 (.box 29 36 (.t 0)), qq 3 (.box 48 8 (.t 1)), qq 4 (.alloc 48 8 [(.bool false), e0, (.bool false), e0, (.bool false), e0, (.bool false), e0]), qq 5 (.mv (.c (.bool false)))]) (.seq (.reg [qq 17 (.load true 36 (.t 2)), qq 18 (.call 31 [(.t 17)]), qq 16 (.mv (.t 18)), qq 19 (.ext (.t 16) 0), qq 20 (.ext (.t 16) 1), qq 6 (.alloc 29 36 [(.bool false), e0, e0, (.bool false), e0, e0, (.bool false), e0, e0, (.bool false), e0, e0, (.bool false), e0, e0, (.bool false), e0, e0, (.bool false), e0, e0, (.bool false), e0, e0, (.bool false), e0, e0, (.bool false), e0, e0, (.bool false), e0, e0, (.bool false), e0, e0]), qn (.store 36 (.t 6) (.t 19)), qq 7 (.mv (.t 20))]) (.seq (.seq (.reg [qq 21 (.mv (.t 7)), qq 22 (.un .not (.t 21))]) (.cond (.t 22) (.seq (.reg [qq 23 (.build [(.bool false), e0, (.bool false), e0, (.bool false), e0, (.bool false), e0] []), qn (.store 8 (.t 4) (.t 23)), qq 5 (.mv (.c (.bool false)))]) .ret) .skip)) (.seq (.reg [qq 24 (.build [(.bool false), e0] [(1, 1, (.c (.string ⟨⟨[1]⟩⟩)))]), qq 8 (.alloc 37 2 [(.bool false), e0]), qn (.store 2 (.t 8) (.t 24))]) (.seq (.reg [qq 25 (.faddr 0 (.t 3)), qq 26 (.load true 2 (.t 25)), qq 27 (.faddr 2 (.t 3)), qq 28 (.load true 2 (.t 27)), qq 29 (.faddr 4 (.t 3)), qq 30 (.load true 2 (.t 29)), qq 31 (.faddr 6 (.t 3)), qq 32 (.load true 2 (.t 31)), qq 33 (.build [(.bool false), e0, (.bool false), e0, (.bool false), e0, (.bool false), e0] [(0, 2, (.t 26)), (2, 2, (.t 28)), (4, 2, (.t 30)), (6, 2, (.t 32))]), qq 9 (.alloc 94 8 [(.bool false), e0, (.bool false), e0, (.bool false), e0, (.bool false), e0]), qn (.store 8 (.t 9) (.t 33))]) (.seq (.reg [qq 34 (.build [(.bool false), e0, e0, (.bool false), e0, e0, (.bool false), e0, e0, (.bool false), e0, e0] []), qq 10 (.alloc 95 12 [(.bool false), e0, e0, (.bool false), e0, e0, (.bool false), e0, e0, (.bool false), e0, e0]), qn (.store 12 (.t 10) (.t 34))]) (.seq (.seq (.reg [qq 11 (.mv (ci 0))]) (.block 0 (.loop (.seq (.seq (.reg [qq 35 (.mv (.t 11)), qq 36 (.bin .lss (.t 35) (ci 4))]) (.cond (.t 36) .skip (.exit 0))) (.seq (.block 1 (.dreg [qu 40 (.mv (.t 11)), qu 41 (.mv (.t 11)), qu 42 (.ixarr 4 2 (.t 9) (.t 41)), qu 43 (.load true 2 (.t 42)), qu 44 (.load true 2 (.t 8)), qu 45 (.call 87 [(.t 43), (.t 44)]), qu 39 (.mv (.t 45)), qu 46 (.ext (.t 39) 0), qu 47 (.ext (.t 39) 1), qu 48 (.ixarr 4 3 (.t 10) (.t 40)), qm (.store 3 (.t 48) (.t 46))])) (.reg [qq 37 (.mv (.t 11)), qq 38 (.bin .add (.t 37) (ci 1)), qq 11 (.mv (.t 38))])))))) (.seq (.reg [qq 49 (.build [(.bool false), e0, e0, (.bool false), e0, e0, (.bool false), e0, e0] []), qq 12 (.alloc 25 9 [(.bool false), e0, e0, (.bool false), e0, e0, (.bool false), e0, e0]), qn (.store 9 (.t 12) (.t 49))]) (.seq (.reg [qq 50 (.ixarr 4 3 (.t 10) (ci 3)), qq 51 (.load true 3 (.t 50)), qq 13 (.alloc 23 3 [(.bool false), e0, e0]), qn (.store 3 (.t 13) (.t 51))]) (.seq (.seq (.reg [qq 14 (.mv (ci 0))]) (.block 2 (.loop (.seq (.seq (.reg [qq 52 (.mv (.t 14)), qq 53 (.bin .lss (.t 52) (ci 3))]) (.cond (.t 53) .skip (.exit 2))) (.seq (.block 3 (.seq (.reg [qq 56 (.mv (.t 14)), qq 57 (.call 44 [(ci 0)]), qq 58 (.ixarr 3 3 (.t 12) (.t 56)), qn (.store 3 (.t 58) (.t 57))]) (.seq (.seq (.reg [qq 15 (.mv (ci 0))]) (.block 4 (.loop (.seq (.seq (.reg [qq 59 (.mv (.t 15)), qq 60 (.bin .lss (.t 59) (ci 3))]) (.cond (.t 60) .skip (.exit 4))) (.seq (.block 5 (.dreg [qu 63 (.mv (.t 14)), qu 64 (.mv (.t 14)), qu 65 (.ixarr 3 3 (.t 12) (.t 64)), qu 66 (.load true 3 (.t 65)), qu 67 (.mv (.t 15)), qu 68 (.ixarr 4 3 (.t 10) (.t 67)), qu 69 (.load true 3 (.t 68)), qu 70 (.mv (.t 15)), qu 71 (.bin .mul (ci 4) (.t 70)), qu 72 (.mv (.t 14)), qu 73 (.bin .add (.t 71) (.t 72)), qu 74 (.ixarr 12 3 (.t 6) (.t 73)), qu 75 (.load true 3 (.t 74)), qu 76 (.call 85 [(.t 69), (.t 75)]), qu 77 (.call 84 [(.t 66), (.t 76)]), qu 78 (.ixarr 3 3 (.t 12) (.t 63)), qm (.store 3 (.t 78) (.t 77))])) (.reg [qq 61 (.mv (.t 15)), qq 62 (.bin .add (.t 61) (ci 1)), qq 15 (.mv (.t 62))])))))) (.dreg [qu 79 (.load true 3 (.t 13)), qu 80 (.mv (.t 14)), qu 81 (.ixarr 4 3 (.t 10) (.t 80)), qu 82 (.load true 3 (.t 81)), qu 83 (.mv (.t 14)), qu 84 (.bin .mul (ci 4) (.t 83)), qu 85 (.bin .add (.t 84) (ci 3)), qu 86 (.ixarr 12 3 (.t 6) (.t 85)), qu 87 (.load true 3 (.t 86)), qu 88 (.call 85 [(.t 82), (.t 87)]), qu 89 (.call 88 [(.t 79), (.t 88)]), qm (.store 3 (.t 13) (.t 89))])))) (.reg [qq 54 (.mv (.t 14)), qq 55 (.bin .add (.t 54) (ci 1)), qq 14 (.mv (.t 55))])))))) (.seq (.reg [qq 90 (.load true 9 (.t 12)), qq 91 (.load true 3 (.t 13)), qq 92 (.call 89 [(.t 90), (.t 91)]), qq 93 (.ext (.t 92) 0), qq 94 (.ext (.t 92) 1), qn (.store 8 (.t 4) (.t 93)), qq 5 (.mv (.t 94))]) .ret)))))))))))
theorem tr37 : trFun Tryz.prog 37 = some ⟨95, [.cell 4 true 8, .t 5], c37⟩ := by kernel_rfl
set_option maxHeartbeats 40000000 in
theorem ok_r7Plane : SpecOK Tryz.prog 37 (flat spR7Plane) := by
  refine flat_run (env_cons ok_r7Back (env_cons ok_r3Make (env_cons ok_r7num (env_cons ok_r3Mul (env_cons ok_r3Add (env_cons ok_r3Sub (env_cons ok_r5Make (env_nil _)))))))) mixed tr37 ?_
  intro args v h N hG
  unfold spR7Plane at hG
  split at hG
  case h_2 => cases hG
  rename_i cs s1 l1 s2 l2 s3 l3 s4 l4
  split at hG
  case h_2 => cases hG
  rename_i p hp
  split at hG
  case isFalse => cases hG
  rename_i hl
  obtain ⟨ho, h1, h2, h3, h4⟩ := hl
  cases hG
  obtain ⟨u1, hat, o1⟩ := mapOf_spec hp
  have hM : MS cs (fun i => (p i).v) 1000 := MS.of hp ho
  have t1 : cs.take 36 = cs := List.take_of_length_le (by omega)
  clear hat hp ho
  generalize (fun i => (p i).v) = f at *
  have rb := hM.rb
  have bk := hM.back
  have M1 := r3Make_int (s := s1) h1
  have M2 := r3Make_int (s := s2) h2
  have M3 := r3Make_int (s := s3) h3
  have M4 := r3Make_int (s := s4) h4
  have B1 : RB (sv s1 l1 : Rat) 1001 := RB.int (Nat.le_trans (len_sv h1) (by omega)) (by omega)
  have B2 : RB (sv s2 l2 : Rat) 1001 := RB.int (Nat.le_trans (len_sv h2) (by omega)) (by omega)
  have B3 : RB (sv s3 l3 : Rat) 1001 := RB.int (Nat.le_trans (len_sv h3) (by omega)) (by omega)
  have B4 : RB (sv s4 l4 : Rat) 1001 := RB.int (Nat.le_trans (len_sv h4) (by omega)) (by omega)
  generalize (sv s1 l1 : Rat) = A at *
  generalize (sv s2 l2 : Rat) = B at *
  generalize (sv s3 l3 : Rat) = C at *
  generalize (sv s4 l4 : Rat) = D at *
  have w0 : IntKind.i64.wrap 0 = 0 := i64_in _ (by omega)
  have w1 : IntKind.i64.wrap 1 = 1 := i64_in _ (by omega)
  have w2 : IntKind.i64.wrap 2 = 2 := i64_in _ (by omega)
  have w3 : IntKind.i64.wrap 3 = 3 := i64_in _ (by omega)
  have w4 : IntKind.i64.wrap 4 = 4 := i64_in _ (by omega)
  have w5 : IntKind.i64.wrap 5 = 5 := i64_in _ (by omega)
  have w6 : IntKind.i64.wrap 6 = 6 := i64_in _ (by omega)
  have w7 : IntKind.i64.wrap 7 = 7 := i64_in _ (by omega)
  have w8 : IntKind.i64.wrap 8 = 8 := i64_in _ (by omega)
  have w9 : IntKind.i64.wrap 9 = 9 := i64_in _ (by omega)
  have w10 : IntKind.i64.wrap 10 = 10 := i64_in _ (by omega)
  have w11 : IntKind.i64.wrap 11 = 11 := i64_in _ (by omega)
  have w12 : IntKind.i64.wrap 12 = 12 := i64_in _ (by omega)
  have ez := mE_zero
  have lz := mE_len
  have oz := mE_ok
  have tz : ∀ f, (mE f).take 36 = mE f := fun f => List.take_of_length_le (by rw [lz]; omega)
  have sz : ∀ f g, setR (mE f) 0 (mE g) = mE g := fun f g => setR_all (mE g) (mE f) (by rw [lz, lz])
  have zr := r3E_zero
  by_cases h0 : detM f = 0
  · rw [if_pos h0] at bk
    rw [if_pos h0]
    have zm : zmap = mE (fun _ => 0) := by rw [ez]; rfl
    rw [zm] at bk
    refine ⟨rfl, by simp, ?_⟩
    simp only [c37, G0, Nat.reduceAdd]
    simp only [↓R0, R1, simprocAttr, -Int.reduceAbs, ← ez, u1, t1, o1, lz, oz, tz, sz, bk, pZ, Bool.not_false, Bool.not_true, Fin, isEnd, resL, res1, iE, rE]
    exact ⟨_, rfl, rfl, fun k hk => by simp only [ne_nb hk, if_false]⟩
  rw [if_neg h0] at bk
  rw [if_neg h0]
  refine ⟨fcR_flat _, by simp, ?_⟩
  have gb := fun i (hi : i < 12) => (invM_RB rb i hi).le (k := 100000) (by omega)
  obtain ⟨b, hb⟩ : ∃ b, invM f = b := ⟨_, rfl⟩
  rw [hb] at bk gb
  rw [hb]
  clear hb
  have p00 := (RC.rE B1).mul (RC.rE (gb 0 (by omega))) (by omega) (by omega)
  have r00 := B1.mul (gb 0 (by omega)) (k := 101001) (by omega)
  have a00 := (RC.rE (RB.zero)).add (RC.rE r00) (by omega) (by omega)
  have t00 := RB.add (RB.zero) r00 (k := 101003) (by omega)
  have p01 := (RC.rE B2).mul (RC.rE (gb 4 (by omega))) (by omega) (by omega)
  have r01 := B2.mul (gb 4 (by omega)) (k := 101001) (by omega)
  have a01 := (RC.rE (t00)).add (RC.rE r01) (by omega) (by omega)
  have t01 := RB.add (t00) r01 (k := 202006) (by omega)
  have p02 := (RC.rE B3).mul (RC.rE (gb 8 (by omega))) (by omega) (by omega)
  have r02 := B3.mul (gb 8 (by omega)) (k := 101001) (by omega)
  have a02 := (RC.rE (t01)).add (RC.rE r02) (by omega) (by omega)
  have t02 := RB.add (t01) r02 (k := 303009) (by omega)
  have p10 := (RC.rE B1).mul (RC.rE (gb 1 (by omega))) (by omega) (by omega)
  have r10 := B1.mul (gb 1 (by omega)) (k := 101001) (by omega)
  have a10 := (RC.rE (RB.zero)).add (RC.rE r10) (by omega) (by omega)
  have t10 := RB.add (RB.zero) r10 (k := 101003) (by omega)
  have p11 := (RC.rE B2).mul (RC.rE (gb 5 (by omega))) (by omega) (by omega)
  have r11 := B2.mul (gb 5 (by omega)) (k := 101001) (by omega)
  have a11 := (RC.rE (t10)).add (RC.rE r11) (by omega) (by omega)
  have t11 := RB.add (t10) r11 (k := 202006) (by omega)
  have p12 := (RC.rE B3).mul (RC.rE (gb 9 (by omega))) (by omega) (by omega)
  have r12 := B3.mul (gb 9 (by omega)) (k := 101001) (by omega)
  have a12 := (RC.rE (t11)).add (RC.rE r12) (by omega) (by omega)
  have t12 := RB.add (t11) r12 (k := 303009) (by omega)
  have p20 := (RC.rE B1).mul (RC.rE (gb 2 (by omega))) (by omega) (by omega)
  have r20 := B1.mul (gb 2 (by omega)) (k := 101001) (by omega)
  have a20 := (RC.rE (RB.zero)).add (RC.rE r20) (by omega) (by omega)
  have t20 := RB.add (RB.zero) r20 (k := 101003) (by omega)
  have p21 := (RC.rE B2).mul (RC.rE (gb 6 (by omega))) (by omega) (by omega)
  have r21 := B2.mul (gb 6 (by omega)) (k := 101001) (by omega)
  have a21 := (RC.rE (t20)).add (RC.rE r21) (by omega) (by omega)
  have t21 := RB.add (t20) r21 (k := 202006) (by omega)
  have p22 := (RC.rE B3).mul (RC.rE (gb 10 (by omega))) (by omega) (by omega)
  have r22 := B3.mul (gb 10 (by omega)) (k := 101001) (by omega)
  have a22 := (RC.rE (t21)).add (RC.rE r22) (by omega) (by omega)
  have t22 := RB.add (t21) r22 (k := 303009) (by omega)
  have P0 := (RC.rE B1).mul (RC.rE (gb 3 (by omega))) (by omega) (by omega)
  have Q0 := B1.mul (gb 3 (by omega)) (k := 101001) (by omega)
  have S0 := (RC.rE (B4)).sub (RC.rE Q0) (by omega) (by omega)
  have T0 := RB.sub (B4) Q0 (k := 102003) (by omega)
  have P1 := (RC.rE B2).mul (RC.rE (gb 7 (by omega))) (by omega) (by omega)
  have Q1 := B2.mul (gb 7 (by omega)) (k := 101001) (by omega)
  have S1 := (RC.rE (T0)).sub (RC.rE Q1) (by omega) (by omega)
  have T1 := RB.sub (T0) Q1 (k := 204006) (by omega)
  have P2 := (RC.rE B3).mul (RC.rE (gb 11 (by omega))) (by omega) (by omega)
  have Q2 := B3.mul (gb 11 (by omega)) (k := 101001) (by omega)
  have S2 := (RC.rE (T1)).sub (RC.rE Q2) (by omega) (by omega)
  have T2 := RB.sub (T1) Q2 (k := 306009) (by omega)
  have e0 := apl_row b A B C D 0 (by omega)
  have e1 := apl_row b A B C D 1 (by omega)
  have e2 := apl_row b A B C D 2 (by omega)
  have e3 := apl_off b A B C D
  simp only [Nat.reduceMul, Nat.reduceAdd, Nat.mul_zero, Nat.zero_add, Nat.mul_one, Nat.add_zero] at e0 e1 e2
  have mk := r5Make_rE (i := 400000) (t02.le (by omega)) (t12.le (by omega)) (t22.le (by omega)) (T2.le (by omega)) (by omega)
  rw [e0, e1, e2, e3, mk5_fcR] at mk
  rw [e0] at a02; rw [e1] at a12; rw [e2] at a22; rw [e3] at S2
  have lf : ∀ a b c d, (lE a b c d).length = 8 := fun _ _ _ _ => rfl
  have of8 : ∀ a b c d, (lE a b c d).all okCell = true := fun _ _ _ _ => rfl
  have tf : ∀ a b c d, (lE a b c d).take 8 = lE a b c d := fun _ _ _ _ => rfl
  have sf : ∀ a b c d, setR [.bool false, .string ⟨⟨[]⟩⟩, .bool false, .string ⟨⟨[]⟩⟩, .bool false, .string ⟨⟨[]⟩⟩, .bool false, .string ⟨⟨[]⟩⟩] 0 (lE a b c d) = lE a b c d := fun _ _ _ _ => rfl
  clear hM rb gb B1 B2 B3 B4
  simp only [c37, G0, Nat.reduceAdd]
  simp only [↓R0, R1, simprocAttr, -Int.reduceAbs, ← ez, r4E_new, setR_length, u1, t1, o1, rE_len, rE_ok, st3, st3', tk3, lz, oz, tz, sz, w0, w1, w2, w3, w4, w5, w6, w7, w8, w9, w10, w11, w12, mget0, mget1, mget2, mget3, mget4, mget5, mget6, mget7, mget8, mget9, mget10, mget11, r3E_len, r3E_ok, r3E_tk, r3E_st, r3E_g0, r3E_g1, r3E_g2, r3E_s0, r3E_s1, r3E_s2, r4E_new, r4E_len, r4E_ok, r4E_tk, r4E_st, r4E_g0, r4E_g1, r4E_g2, r4E_g3, r4E_s0, r4E_s1, r4E_s2, r4E_s3, Bool.not_false, Bool.not_true, bk]
  refine lp_step ?_
  simp only [↓R0, R1, simprocAttr, -Int.reduceAbs, setR_length, u1, t1, o1, rE_len, rE_ok, st3, st3', tk3, lz, oz, tz, sz, w0, w1, w2, w3, w4, w5, w6, w7, w8, w9, w10, w11, w12, mget0, mget1, mget2, mget3, mget4, mget5, mget6, mget7, mget8, mget9, mget10, mget11, r3E_len, r3E_ok, r3E_tk, r3E_st, r3E_g0, r3E_g1, r3E_g2, r3E_s0, r3E_s1, r3E_s2, r4E_new, r4E_len, r4E_ok, r4E_tk, r4E_st, r4E_g0, r4E_g1, r4E_g2, r4E_g3, r4E_s0, r4E_s1, r4E_s2, r4E_s3, Bool.not_false, Bool.not_true, M1]
  refine lp_step ?_
  simp only [↓R0, R1, simprocAttr, -Int.reduceAbs, setR_length, u1, t1, o1, rE_len, rE_ok, st3, st3', tk3, lz, oz, tz, sz, w0, w1, w2, w3, w4, w5, w6, w7, w8, w9, w10, w11, w12, mget0, mget1, mget2, mget3, mget4, mget5, mget6, mget7, mget8, mget9, mget10, mget11, r3E_len, r3E_ok, r3E_tk, r3E_st, r3E_g0, r3E_g1, r3E_g2, r3E_s0, r3E_s1, r3E_s2, r4E_new, r4E_len, r4E_ok, r4E_tk, r4E_st, r4E_g0, r4E_g1, r4E_g2, r4E_g3, r4E_s0, r4E_s1, r4E_s2, r4E_s3, Bool.not_false, Bool.not_true, M2]
  refine lp_step ?_
  simp only [↓R0, R1, simprocAttr, -Int.reduceAbs, setR_length, u1, t1, o1, rE_len, rE_ok, st3, st3', tk3, lz, oz, tz, sz, w0, w1, w2, w3, w4, w5, w6, w7, w8, w9, w10, w11, w12, mget0, mget1, mget2, mget3, mget4, mget5, mget6, mget7, mget8, mget9, mget10, mget11, r3E_len, r3E_ok, r3E_tk, r3E_st, r3E_g0, r3E_g1, r3E_g2, r3E_s0, r3E_s1, r3E_s2, r4E_new, r4E_len, r4E_ok, r4E_tk, r4E_st, r4E_g0, r4E_g1, r4E_g2, r4E_g3, r4E_s0, r4E_s1, r4E_s2, r4E_s3, Bool.not_false, Bool.not_true, M3]
  refine lp_step ?_
  simp only [↓R0, R1, simprocAttr, -Int.reduceAbs, setR_length, u1, t1, o1, rE_len, rE_ok, st3, st3', tk3, lz, oz, tz, sz, w0, w1, w2, w3, w4, w5, w6, w7, w8, w9, w10, w11, w12, mget0, mget1, mget2, mget3, mget4, mget5, mget6, mget7, mget8, mget9, mget10, mget11, r3E_len, r3E_ok, r3E_tk, r3E_st, r3E_g0, r3E_g1, r3E_g2, r3E_s0, r3E_s1, r3E_s2, r4E_new, r4E_len, r4E_ok, r4E_tk, r4E_st, r4E_g0, r4E_g1, r4E_g2, r4E_g3, r4E_s0, r4E_s1, r4E_s2, r4E_s3, Bool.not_false, Bool.not_true, M4]
  refine lp_step ?_
  simp only [↓R0, R1, simprocAttr, -Int.reduceAbs, ← zr, setR_length, u1, t1, o1, rE_len, rE_ok, st3, st3', tk3, lz, oz, tz, sz, w0, w1, w2, w3, w4, w5, w6, w7, w8, w9, w10, w11, w12, mget0, mget1, mget2, mget3, mget4, mget5, mget6, mget7, mget8, mget9, mget10, mget11, r3E_len, r3E_ok, r3E_tk, r3E_st, r3E_g0, r3E_g1, r3E_g2, r3E_s0, r3E_s1, r3E_s2, r4E_new, r4E_len, r4E_ok, r4E_tk, r4E_st, r4E_g0, r4E_g1, r4E_g2, r4E_g3, r4E_s0, r4E_s1, r4E_s2, r4E_s3, Bool.not_false, Bool.not_true]
  have y0 := r4E_g0 A B C D
  have y1 := r4E_g1 A B C D
  have y2 := r4E_g2 A B C D
  have y3 := r4E_g3 A B C D
  have yl := r4E_len A B C D
  have yo := r4E_ok A B C D
  generalize r4E A B C D = N4 at *
  refine lp_step ?_
  simp only [↓R0, R1, simprocAttr, -Int.reduceAbs, setR_length, u1, t1, o1, rE_len, rE_ok, st3, st3', tk3, lz, oz, tz, sz, w0, w1, w2, w3, w4, w5, w6, w7, w8, w9, w10, w11, w12, mget0, mget1, mget2, mget3, mget4, mget5, mget6, mget7, mget8, mget9, mget10, mget11, r3E_len, r3E_ok, r3E_tk, r3E_st, r3E_g0, r3E_g1, r3E_g2, r3E_s0, r3E_s1, r3E_s2, y0, y1, y2, y3, yl, yo, Bool.not_false, Bool.not_true, num0]
  refine lp_step ?_
  simp only [↓R0, R1, simprocAttr, -Int.reduceAbs, setR_length, u1, t1, o1, rE_len, rE_ok, st3, st3', tk3, lz, oz, tz, sz, w0, w1, w2, w3, w4, w5, w6, w7, w8, w9, w10, w11, w12, mget0, mget1, mget2, mget3, mget4, mget5, mget6, mget7, mget8, mget9, mget10, mget11, r3E_len, r3E_ok, r3E_tk, r3E_st, r3E_g0, r3E_g1, r3E_g2, r3E_s0, r3E_s1, r3E_s2, y0, y1, y2, y3, yl, yo, Bool.not_false, Bool.not_true, p00, a00]
  refine lp_step ?_
  simp only [↓R0, R1, simprocAttr, -Int.reduceAbs, setR_length, u1, t1, o1, rE_len, rE_ok, st3, st3', tk3, lz, oz, tz, sz, w0, w1, w2, w3, w4, w5, w6, w7, w8, w9, w10, w11, w12, mget0, mget1, mget2, mget3, mget4, mget5, mget6, mget7, mget8, mget9, mget10, mget11, r3E_len, r3E_ok, r3E_tk, r3E_st, r3E_g0, r3E_g1, r3E_g2, r3E_s0, r3E_s1, r3E_s2, y0, y1, y2, y3, yl, yo, Bool.not_false, Bool.not_true, p01, a01]
  refine lp_step ?_
  simp only [↓R0, R1, simprocAttr, -Int.reduceAbs, setR_length, u1, t1, o1, rE_len, rE_ok, st3, st3', tk3, lz, oz, tz, sz, w0, w1, w2, w3, w4, w5, w6, w7, w8, w9, w10, w11, w12, mget0, mget1, mget2, mget3, mget4, mget5, mget6, mget7, mget8, mget9, mget10, mget11, r3E_len, r3E_ok, r3E_tk, r3E_st, r3E_g0, r3E_g1, r3E_g2, r3E_s0, r3E_s1, r3E_s2, y0, y1, y2, y3, yl, yo, Bool.not_false, Bool.not_true, p02, a02]
  refine lp_step ?_
  simp only [↓R0, R1, simprocAttr, -Int.reduceAbs, setR_length, u1, t1, o1, rE_len, rE_ok, st3, st3', tk3, lz, oz, tz, sz, w0, w1, w2, w3, w4, w5, w6, w7, w8, w9, w10, w11, w12, mget0, mget1, mget2, mget3, mget4, mget5, mget6, mget7, mget8, mget9, mget10, mget11, r3E_len, r3E_ok, r3E_tk, r3E_st, r3E_g0, r3E_g1, r3E_g2, r3E_s0, r3E_s1, r3E_s2, y0, y1, y2, y3, yl, yo, Bool.not_false, Bool.not_true, P0, S0]
  refine lp_step ?_
  simp only [↓R0, R1, simprocAttr, -Int.reduceAbs, setR_length, u1, t1, o1, rE_len, rE_ok, st3, st3', tk3, lz, oz, tz, sz, w0, w1, w2, w3, w4, w5, w6, w7, w8, w9, w10, w11, w12, mget0, mget1, mget2, mget3, mget4, mget5, mget6, mget7, mget8, mget9, mget10, mget11, r3E_len, r3E_ok, r3E_tk, r3E_st, r3E_g0, r3E_g1, r3E_g2, r3E_s0, r3E_s1, r3E_s2, y0, y1, y2, y3, yl, yo, Bool.not_false, Bool.not_true, num0]
  refine lp_step ?_
  simp only [↓R0, R1, simprocAttr, -Int.reduceAbs, setR_length, u1, t1, o1, rE_len, rE_ok, st3, st3', tk3, lz, oz, tz, sz, w0, w1, w2, w3, w4, w5, w6, w7, w8, w9, w10, w11, w12, mget0, mget1, mget2, mget3, mget4, mget5, mget6, mget7, mget8, mget9, mget10, mget11, r3E_len, r3E_ok, r3E_tk, r3E_st, r3E_g0, r3E_g1, r3E_g2, r3E_s0, r3E_s1, r3E_s2, y0, y1, y2, y3, yl, yo, Bool.not_false, Bool.not_true, p10, a10]
  refine lp_step ?_
  simp only [↓R0, R1, simprocAttr, -Int.reduceAbs, setR_length, u1, t1, o1, rE_len, rE_ok, st3, st3', tk3, lz, oz, tz, sz, w0, w1, w2, w3, w4, w5, w6, w7, w8, w9, w10, w11, w12, mget0, mget1, mget2, mget3, mget4, mget5, mget6, mget7, mget8, mget9, mget10, mget11, r3E_len, r3E_ok, r3E_tk, r3E_st, r3E_g0, r3E_g1, r3E_g2, r3E_s0, r3E_s1, r3E_s2, y0, y1, y2, y3, yl, yo, Bool.not_false, Bool.not_true, p11, a11]
  refine lp_step ?_
  simp only [↓R0, R1, simprocAttr, -Int.reduceAbs, setR_length, u1, t1, o1, rE_len, rE_ok, st3, st3', tk3, lz, oz, tz, sz, w0, w1, w2, w3, w4, w5, w6, w7, w8, w9, w10, w11, w12, mget0, mget1, mget2, mget3, mget4, mget5, mget6, mget7, mget8, mget9, mget10, mget11, r3E_len, r3E_ok, r3E_tk, r3E_st, r3E_g0, r3E_g1, r3E_g2, r3E_s0, r3E_s1, r3E_s2, y0, y1, y2, y3, yl, yo, Bool.not_false, Bool.not_true, p12, a12]
  refine lp_step ?_
  simp only [↓R0, R1, simprocAttr, -Int.reduceAbs, setR_length, u1, t1, o1, rE_len, rE_ok, st3, st3', tk3, lz, oz, tz, sz, w0, w1, w2, w3, w4, w5, w6, w7, w8, w9, w10, w11, w12, mget0, mget1, mget2, mget3, mget4, mget5, mget6, mget7, mget8, mget9, mget10, mget11, r3E_len, r3E_ok, r3E_tk, r3E_st, r3E_g0, r3E_g1, r3E_g2, r3E_s0, r3E_s1, r3E_s2, y0, y1, y2, y3, yl, yo, Bool.not_false, Bool.not_true, P1, S1]
  refine lp_step ?_
  simp only [↓R0, R1, simprocAttr, -Int.reduceAbs, setR_length, u1, t1, o1, rE_len, rE_ok, st3, st3', tk3, lz, oz, tz, sz, w0, w1, w2, w3, w4, w5, w6, w7, w8, w9, w10, w11, w12, mget0, mget1, mget2, mget3, mget4, mget5, mget6, mget7, mget8, mget9, mget10, mget11, r3E_len, r3E_ok, r3E_tk, r3E_st, r3E_g0, r3E_g1, r3E_g2, r3E_s0, r3E_s1, r3E_s2, y0, y1, y2, y3, yl, yo, Bool.not_false, Bool.not_true, num0]
  refine lp_step ?_
  simp only [↓R0, R1, simprocAttr, -Int.reduceAbs, setR_length, u1, t1, o1, rE_len, rE_ok, st3, st3', tk3, lz, oz, tz, sz, w0, w1, w2, w3, w4, w5, w6, w7, w8, w9, w10, w11, w12, mget0, mget1, mget2, mget3, mget4, mget5, mget6, mget7, mget8, mget9, mget10, mget11, r3E_len, r3E_ok, r3E_tk, r3E_st, r3E_g0, r3E_g1, r3E_g2, r3E_s0, r3E_s1, r3E_s2, y0, y1, y2, y3, yl, yo, Bool.not_false, Bool.not_true, p20, a20]
  refine lp_step ?_
  simp only [↓R0, R1, simprocAttr, -Int.reduceAbs, setR_length, u1, t1, o1, rE_len, rE_ok, st3, st3', tk3, lz, oz, tz, sz, w0, w1, w2, w3, w4, w5, w6, w7, w8, w9, w10, w11, w12, mget0, mget1, mget2, mget3, mget4, mget5, mget6, mget7, mget8, mget9, mget10, mget11, r3E_len, r3E_ok, r3E_tk, r3E_st, r3E_g0, r3E_g1, r3E_g2, r3E_s0, r3E_s1, r3E_s2, y0, y1, y2, y3, yl, yo, Bool.not_false, Bool.not_true, p21, a21]
  refine lp_step ?_
  simp only [↓R0, R1, simprocAttr, -Int.reduceAbs, setR_length, u1, t1, o1, rE_len, rE_ok, st3, st3', tk3, lz, oz, tz, sz, w0, w1, w2, w3, w4, w5, w6, w7, w8, w9, w10, w11, w12, mget0, mget1, mget2, mget3, mget4, mget5, mget6, mget7, mget8, mget9, mget10, mget11, r3E_len, r3E_ok, r3E_tk, r3E_st, r3E_g0, r3E_g1, r3E_g2, r3E_s0, r3E_s1, r3E_s2, y0, y1, y2, y3, yl, yo, Bool.not_false, Bool.not_true, p22, a22]
  refine lp_step ?_
  simp only [↓R0, R1, simprocAttr, -Int.reduceAbs, setR_length, u1, t1, o1, rE_len, rE_ok, st3, st3', tk3, lz, oz, tz, sz, w0, w1, w2, w3, w4, w5, w6, w7, w8, w9, w10, w11, w12, mget0, mget1, mget2, mget3, mget4, mget5, mget6, mget7, mget8, mget9, mget10, mget11, r3E_len, r3E_ok, r3E_tk, r3E_st, r3E_g0, r3E_g1, r3E_g2, r3E_s0, r3E_s1, r3E_s2, y0, y1, y2, y3, yl, yo, Bool.not_false, Bool.not_true, P2, S2]
  refine lp_step ?_
  unfold fcR at mk ⊢
  by_cases hz : cofP (aplQ b A B C D) 0 4 = 0 ∧ cofP (aplQ b A B C D) 1 4 = 0 ∧ cofP (aplQ b A B C D) 2 4 = 0
  · rw [if_pos hz] at mk ⊢
    simp only [↓R0, R1, simprocAttr, -Int.reduceAbs, setR_length, u1, t1, o1, rE_len, rE_ok, st3, st3', tk3, lz, oz, tz, sz, w0, w1, w2, w3, w4, w5, w6, w7, w8, w9, w10, w11, w12, mget0, mget1, mget2, mget3, mget4, mget5, mget6, mget7, mget8, mget9, mget10, mget11, r3E_len, r3E_ok, r3E_tk, r3E_st, r3E_g0, r3E_g1, r3E_g2, r3E_s0, r3E_s1, r3E_s2, y0, y1, y2, y3, yl, yo, Bool.not_false, Bool.not_true, mk, pZ, Fin, isEnd, resL, res1]
    exact ⟨_, rfl, rfl, fun k hk => by simp only [ne_nb hk, if_false]⟩
  · rw [if_neg hz] at mk ⊢
    simp only [↓R0, R1, simprocAttr, -Int.reduceAbs, setR_length, u1, t1, o1, rE_len, rE_ok, st3, st3', tk3, lz, oz, tz, sz, w0, w1, w2, w3, w4, w5, w6, w7, w8, w9, w10, w11, w12, mget0, mget1, mget2, mget3, mget4, mget5, mget6, mget7, mget8, mget9, mget10, mget11, r3E_len, r3E_ok, r3E_tk, r3E_st, r3E_g0, r3E_g1, r3E_g2, r3E_s0, r3E_s1, r3E_s2, y0, y1, y2, y3, yl, yo, Bool.not_false, Bool.not_true, mk, lf, of8, tf, sf, Fin, isEnd, resL, res1]
    exact ⟨_, rfl, rfl, fun k hk => by simp only [ne_nb hk, if_false]⟩
def spR7Mirror : List Value → Option Value
  | [.agg ⟨[.bool s1, .string ⟨⟨l1⟩⟩, .bool s2, .string ⟨⟨l2⟩⟩, .bool s3, .string ⟨⟨l3⟩⟩, .bool s4, .string ⟨⟨l4⟩⟩]⟩] => if l1.length ≤ 1000 ∧ l2.length ≤ 1000 ∧ l3.length ≤ 1000 ∧ l4.length ≤ 1000 then
      some (.agg ⟨mE (if (sv s1 l1 : Rat) * sv s1 l1 + sv s2 l2 * sv s2 l2 + sv s3 l3 * sv s3 l3 = 0 then idM else reflM (sv s1 l1) (sv s2 l2) (sv s3 l3) (sv s4 l4))⟩) else none
  | _ => none
def c38 : ICode :=
  (.seq (.reg [qq 1 (.box 48 8 (.t 0)), qq 2 (.alloc 29 36 [(.bool false), e0, e0, (.bool false), e0, e0, (.bool false), e0, e0, (.bool false), e0, e0, (.bool false), e0, e0, (.bool false), e0, e0, (.bool false), e0, e0, (.bool false), e0, e0, (.bool false), e0, e0, (.bool false), e0, e0, (.bool false), e0, e0, (.bool false), e0, e0])]) (.seq (.reg [qq 14 (.build [(.bool false), e0] [(1, 1, (.c (.string ⟨⟨[1]⟩⟩)))]), qq 3 (.alloc 37 2 [(.bool false), e0]), qn (.store 2 (.t 3) (.t 14))]) (.seq (.reg [qq 15 (.build [(.bool false), e0, e0, (.bool false), e0, e0, (.bool false), e0, e0, (.bool false), e0, e0] []), qq 4 (.alloc 95 12 [(.bool false), e0, e0, (.bool false), e0, e0, (.bool false), e0, e0, (.bool false), e0, e0]), qn (.store 12 (.t 4) (.t 15))]) (.seq (.reg [qq 16 (.faddr 0 (.t 1)), qq 17 (.load true 2 (.t 16)), qq 18 (.faddr 2 (.t 1)), qq 19 (.load true 2 (.t 18)), qq 20 (.faddr 4 (.t 1)), qq 21 (.load true 2 (.t 20)), qq 22 (.faddr 6 (.t 1)), qq 23 (.load true 2 (.t 22)), qq 24 (.build [(.bool false), e0, (.bool false), e0, (.bool false), e0, (.bool false), e0] [(0, 2, (.t 17)), (2, 2, (.t 19)), (4, 2, (.t 21)), (6, 2, (.t 23))]), qq 5 (.alloc 94 8 [(.bool false), e0, (.bool false), e0, (.bool false), e0, (.bool false), e0]), qn (.store 8 (.t 5) (.t 24))]) (.seq (.seq (.reg [qq 6 (.mv (ci 0))]) (.block 0 (.loop (.seq (.seq (.reg [qq 25 (.mv (.t 6)), qq 26 (.bin .lss (.t 25) (ci 4))]) (.cond (.t 26) .skip (.exit 0))) (.seq (.block 1 (.dreg [qu 30 (.mv (.t 6)), qu 31 (.mv (.t 6)), qu 32 (.ixarr 4 2 (.t 5) (.t 31)), qu 33 (.load true 2 (.t 32)), qu 34 (.load true 2 (.t 3)), qu 35 (.call 87 [(.t 33), (.t 34)]), qu 29 (.mv (.t 35)), qu 36 (.ext (.t 29) 0), qu 37 (.ext (.t 29) 1), qu 38 (.ixarr 4 3 (.t 4) (.t 30)), qm (.store 3 (.t 38) (.t 36))])) (.reg [qq 27 (.mv (.t 6)), qq 28 (.bin .add (.t 27) (ci 1)), qq 6 (.mv (.t 28))])))))) (.seq (.reg [qq 39 (.call 44 [(ci 0)]), qq 7 (.alloc 23 3 [(.bool false), e0, e0]), qn (.store 3 (.t 7) (.t 39))]) (.seq (.seq (.reg [qq 8 (.mv (ci 0))]) (.block 2 (.loop (.seq (.seq (.reg [qq 40 (.mv (.t 8)), qq 41 (.bin .lss (.t 40) (ci 3))]) (.cond (.t 41) .skip (.exit 2))) (.seq (.block 3 (.dreg [qu 44 (.load true 3 (.t 7)), qu 45 (.mv (.t 8)), qu 46 (.ixarr 4 3 (.t 4) (.t 45)), qu 47 (.load true 3 (.t 46)), qu 48 (.mv (.t 8)), qu 49 (.ixarr 4 3 (.t 4) (.t 48)), qu 50 (.load true 3 (.t 49)), qu 51 (.call 85 [(.t 47), (.t 50)]), qu 52 (.call 84 [(.t 44), (.t 51)]), qm (.store 3 (.t 7) (.t 52))])) (.reg [qq 42 (.mv (.t 8)), qq 43 (.bin .add (.t 42) (ci 1)), qq 8 (.mv (.t 43))])))))) (.seq (.seq (.reg [qq 53 (.load true 3 (.t 7)), qq 54 (.call 77 [(.t 53)]), qq 55 (.bin .eql (.t 54) (ci 0))]) (.cond (.t 55) (.seq (.reg [qq 56 (.call 35 []), qn (.store 36 (.t 2) (.t 56))]) .ret) .skip)) (.seq (.reg [qq 57 (.call 35 []), qq 9 (.alloc 29 36 [(.bool false), e0, e0, (.bool false), e0, e0, (.bool false), e0, e0, (.bool false), e0, e0, (.bool false), e0, e0, (.bool false), e0, e0, (.bool false), e0, e0, (.bool false), e0, e0, (.bool false), e0, e0, (.bool false), e0, e0, (.bool false), e0, e0, (.bool false), e0, e0]), qn (.store 36 (.t 9) (.t 57))]) (.seq (.seq (.reg [qq 10 (.mv (ci 0))]) (.block 4 (.loop (.seq (.seq (.reg [qq 58 (.mv (.t 10)), qq 59 (.bin .lss (.t 58) (ci 3))]) (.cond (.t 59) .skip (.exit 4))) (.seq (.block 5 (.seq (.dreg [qu 63 (.call 44 [(ci 2)]), qu 64 (.mv (.t 10)), qu 65 (.ixarr 4 3 (.t 4) (.t 64)), qv 66 [0] (.load true 3 (.t 65)), qu 67 (.call 85 [(.t 63), (.t 66)]), qv 68 [0, 4] (.load true 3 (.t 7)), qu 69 (.call 78 [(.t 67), (.t 68)]), qu 62 (.mv (.t 69)), qu 70 (.ext (.t 62) 0), qu 71 (.ext (.t 62) 1), qu 11 (.alloc 23 3 [(.bool false), e0, e0]), qm (.store 3 (.t 11) (.t 70)), qu 12 (.mv (.t 71))]) (.seq (.seq (.reg [qq 13 (.mv (ci 0))]) (.block 6 (.loop (.seq (.seq (.reg [qq 72 (.mv (.t 13)), qq 73 (.bin .lss (.t 72) (ci 3))]) (.cond (.t 73) .skip (.exit 6))) (.seq (.block 7 (.dreg [qu 76 (.mv (.t 10)), qu 77 (.bin .mul (ci 4) (.t 76)), qu 78 (.mv (.t 13)), qu 79 (.bin .add (.t 77) (.t 78)), qu 80 (.mv (.t 10)), qu 81 (.bin .mul (ci 4) (.t 80)), qu 82 (.mv (.t 13)), qu 83 (.bin .add (.t 81) (.t 82)), qu 84 (.ixarr 12 3 (.t 9) (.t 83)), qu 85 (.load true 3 (.t 84)), qu 86 (.load true 3 (.t 11)), qu 87 (.mv (.t 13)), qu 88 (.ixarr 4 3 (.t 4) (.t 87)), qu 89 (.load true 3 (.t 88)), qu 90 (.call 85 [(.t 86), (.t 89)]), qu 91 (.call 88 [(.t 85), (.t 90)]), qu 92 (.ixarr 12 3 (.t 9) (.t 79)), qm (.store 3 (.t 92) (.t 91))])) (.reg [qq 74 (.mv (.t 13)), qq 75 (.bin .add (.t 74) (ci 1)), qq 13 (.mv (.t 75))])))))) (.reg [qq 93 (.mv (.t 10)), qq 94 (.bin .mul (ci 4) (.t 93)), qq 95 (.bin .add (.t 94) (ci 3)), qq 96 (.load true 3 (.t 11)), qq 97 (.ixarr 4 3 (.t 4) (ci 3)), qq 98 (.load true 3 (.t 97)), qq 99 (.call 85 [(.t 96), (.t 98)]), qq 100 (.ixarr 12 3 (.t 9) (.t 95)), qn (.store 3 (.t 100) (.t 99))])))) (.reg [qq 60 (.mv (.t 10)), qq 61 (.bin .add (.t 60) (ci 1)), qq 10 (.mv (.t 61))])))))) (.seq (.reg [qq 101 (.load true 36 (.t 9)), qn (.store 36 (.t 2) (.t 101))]) .ret)))))))))))
theorem tr38 : trFun Tryz.prog 38 = some ⟨102, [.cell 2 true 36], c38⟩ := by kernel_rfl
set_option maxHeartbeats 40000000 in
theorem ok_r7Mirror : SpecOK Tryz.prog 38 (flat spR7Mirror) := by
  refine flat_run (env_cons ok_r3Make (env_cons ok_r7num (env_cons ok_r3Mul (env_cons ok_r3Add (env_cons ok_r3Sign (env_cons ok_r7Same (env_cons ok_r3Div (env_cons ok_r3Sub (env_nil _))))))))) mixed tr38 ?_
  intro args v h N hG
  unfold spR7Mirror at hG
  split at hG
  case h_2 => cases hG
  rename_i s1 l1 s2 l2 s3 l3 s4 l4
  split at hG
  case isFalse => cases hG
  rename_i hl
  obtain ⟨h1, h2, h3, h4⟩ := hl
  cases hG
  have M1 := r3Make_int (s := s1) h1
  have M2 := r3Make_int (s := s2) h2
  have M3 := r3Make_int (s := s3) h3
  have M4 := r3Make_int (s := s4) h4
  have B1 : RB (sv s1 l1 : Rat) 1001 := RB.int (Nat.le_trans (len_sv h1) (by omega)) (by omega)
  have B2 : RB (sv s2 l2 : Rat) 1001 := RB.int (Nat.le_trans (len_sv h2) (by omega)) (by omega)
  have B3 : RB (sv s3 l3 : Rat) 1001 := RB.int (Nat.le_trans (len_sv h3) (by omega)) (by omega)
  have B4 : RB (sv s4 l4 : Rat) 1001 := RB.int (Nat.le_trans (len_sv h4) (by omega)) (by omega)
  generalize (sv s1 l1 : Rat) = A at *
  generalize (sv s2 l2 : Rat) = B at *
  generalize (sv s3 l3 : Rat) = C at *
  generalize (sv s4 l4 : Rat) = D at *
  refine ⟨mE_base (if A * A + B * B + C * C = 0 then idM else reflM A B C D), by simp, ?_⟩
  have w0 : IntKind.i64.wrap 0 = 0 := i64_in _ (by omega)
  have w1 : IntKind.i64.wrap 1 = 1 := i64_in _ (by omega)
  have w2 : IntKind.i64.wrap 2 = 2 := i64_in _ (by omega)
  have w3 : IntKind.i64.wrap 3 = 3 := i64_in _ (by omega)
  have w4 : IntKind.i64.wrap 4 = 4 := i64_in _ (by omega)
  have w5 : IntKind.i64.wrap 5 = 5 := i64_in _ (by omega)
  have w6 : IntKind.i64.wrap 6 = 6 := i64_in _ (by omega)
  have w7 : IntKind.i64.wrap 7 = 7 := i64_in _ (by omega)
  have w8 : IntKind.i64.wrap 8 = 8 := i64_in _ (by omega)
  have w9 : IntKind.i64.wrap 9 = 9 := i64_in _ (by omega)
  have w10 : IntKind.i64.wrap 10 = 10 := i64_in _ (by omega)
  have w11 : IntKind.i64.wrap 11 = 11 := i64_in _ (by omega)
  have w12 : IntKind.i64.wrap 12 = 12 := i64_in _ (by omega)
  have ez := mE_zero
  have lz := mE_len
  have oz := mE_ok
  have tz : ∀ f, (mE f).take 36 = mE f := fun f => List.take_of_length_le (by rw [lz]; omega)
  have sz : ∀ f g, setR (mE f) 0 (mE g) = mE g := fun f g => setR_all (mE g) (mE f) (by rw [lz, lz])
  have sid : spAid [] = some (.agg ⟨mE idM⟩) := rfl
  have p0 := (RC.rE B1).mul (RC.rE B1) (by omega) (by omega)
  have r0 := B1.mul B1 (k := 2002) (by omega)
  have a0 := (RC.rE (RB.zero)).add (RC.rE r0) (by omega) (by omega)
  have t0 := RB.add (RB.zero) r0 (k := 2004) (by omega)
  have p1 := (RC.rE B2).mul (RC.rE B2) (by omega) (by omega)
  have r1 := B2.mul B2 (k := 2002) (by omega)
  have a1 := (RC.rE (t0)).add (RC.rE r1) (by omega) (by omega)
  have t1 := RB.add (t0) r1 (k := 4008) (by omega)
  have p2 := (RC.rE B3).mul (RC.rE B3) (by omega) (by omega)
  have r2 := B3.mul B3 (k := 2002) (by omega)
  have a2 := (RC.rE (t1)).add (RC.rE r2) (by omega) (by omega)
  have t2 := RB.add (t1) r2 (k := 6012) (by omega)
  have eS : 0 + A * A + B * B + C * C = A * A + B * B + C * C := by rw [Rat.zero_add]
  rw [eS] at a2 t2
  have sg := r3Sign_rE t2 (by omega)
  obtain ⟨S, hS⟩ : ∃ S, A * A + B * B + C * C = S := ⟨_, rfl⟩
  rw [hS] at a2 t2 sg
  rw [hS]
  by_cases h0 : S = 0
  · have s0 : S.num.sign = 0 := by rw [h0]; rfl
    rw [s0] at sg
    rw [if_pos h0]
    simp only [c38, G0, Nat.reduceAdd]
    simp only [↓R0, R1, simprocAttr, -Int.reduceAbs, ← ez, r4E_new, setR_length, rE_len, rE_ok, st3, st3', tk3, lz, oz, tz, sz, w0, w1, w2, w3, w4, w5, w6, w7, w8, w9, w10, w11, w12, mset0, mset1, mset2, mset3, mset4, mset5, mset6, mset7, mset8, mset9, mset10, mset11, mget0, mget1, mget2, mget3, mget4, mget5, mget6, mget7, mget8, mget9, mget10, mget11, r4E_new, r4E_len, r4E_ok, r4E_tk, r4E_st, r4E_g0, r4E_g1, r4E_g2, r4E_g3, r4E_s0, r4E_s1, r4E_s2, r4E_s3, Bool.not_false, Bool.not_true]
    refine lp_step ?_
    simp only [↓R0, R1, simprocAttr, -Int.reduceAbs, setR_length, rE_len, rE_ok, st3, st3', tk3, lz, oz, tz, sz, w0, w1, w2, w3, w4, w5, w6, w7, w8, w9, w10, w11, w12, mset0, mset1, mset2, mset3, mset4, mset5, mset6, mset7, mset8, mset9, mset10, mset11, mget0, mget1, mget2, mget3, mget4, mget5, mget6, mget7, mget8, mget9, mget10, mget11, r4E_new, r4E_len, r4E_ok, r4E_tk, r4E_st, r4E_g0, r4E_g1, r4E_g2, r4E_g3, r4E_s0, r4E_s1, r4E_s2, r4E_s3, Bool.not_false, Bool.not_true, M1]
    refine lp_step ?_
    simp only [↓R0, R1, simprocAttr, -Int.reduceAbs, setR_length, rE_len, rE_ok, st3, st3', tk3, lz, oz, tz, sz, w0, w1, w2, w3, w4, w5, w6, w7, w8, w9, w10, w11, w12, mset0, mset1, mset2, mset3, mset4, mset5, mset6, mset7, mset8, mset9, mset10, mset11, mget0, mget1, mget2, mget3, mget4, mget5, mget6, mget7, mget8, mget9, mget10, mget11, r4E_new, r4E_len, r4E_ok, r4E_tk, r4E_st, r4E_g0, r4E_g1, r4E_g2, r4E_g3, r4E_s0, r4E_s1, r4E_s2, r4E_s3, Bool.not_false, Bool.not_true, M2]
    refine lp_step ?_
    simp only [↓R0, R1, simprocAttr, -Int.reduceAbs, setR_length, rE_len, rE_ok, st3, st3', tk3, lz, oz, tz, sz, w0, w1, w2, w3, w4, w5, w6, w7, w8, w9, w10, w11, w12, mset0, mset1, mset2, mset3, mset4, mset5, mset6, mset7, mset8, mset9, mset10, mset11, mget0, mget1, mget2, mget3, mget4, mget5, mget6, mget7, mget8, mget9, mget10, mget11, r4E_new, r4E_len, r4E_ok, r4E_tk, r4E_st, r4E_g0, r4E_g1, r4E_g2, r4E_g3, r4E_s0, r4E_s1, r4E_s2, r4E_s3, Bool.not_false, Bool.not_true, M3]
    refine lp_step ?_
    simp only [↓R0, R1, simprocAttr, -Int.reduceAbs, setR_length, rE_len, rE_ok, st3, st3', tk3, lz, oz, tz, sz, w0, w1, w2, w3, w4, w5, w6, w7, w8, w9, w10, w11, w12, mset0, mset1, mset2, mset3, mset4, mset5, mset6, mset7, mset8, mset9, mset10, mset11, mget0, mget1, mget2, mget3, mget4, mget5, mget6, mget7, mget8, mget9, mget10, mget11, r4E_new, r4E_len, r4E_ok, r4E_tk, r4E_st, r4E_g0, r4E_g1, r4E_g2, r4E_g3, r4E_s0, r4E_s1, r4E_s2, r4E_s3, Bool.not_false, Bool.not_true, M4]
    refine lp_step ?_
    simp only [↓R0, R1, simprocAttr, -Int.reduceAbs, setR_length, rE_len, rE_ok, st3, st3', tk3, lz, oz, tz, sz, w0, w1, w2, w3, w4, w5, w6, w7, w8, w9, w10, w11, w12, mset0, mset1, mset2, mset3, mset4, mset5, mset6, mset7, mset8, mset9, mset10, mset11, mget0, mget1, mget2, mget3, mget4, mget5, mget6, mget7, mget8, mget9, mget10, mget11, r4E_new, r4E_len, r4E_ok, r4E_tk, r4E_st, r4E_g0, r4E_g1, r4E_g2, r4E_g3, r4E_s0, r4E_s1, r4E_s2, r4E_s3, Bool.not_false, Bool.not_true, num0]
    refine lp_step ?_
    simp only [↓R0, R1, simprocAttr, -Int.reduceAbs, setR_length, rE_len, rE_ok, st3, st3', tk3, lz, oz, tz, sz, w0, w1, w2, w3, w4, w5, w6, w7, w8, w9, w10, w11, w12, mset0, mset1, mset2, mset3, mset4, mset5, mset6, mset7, mset8, mset9, mset10, mset11, mget0, mget1, mget2, mget3, mget4, mget5, mget6, mget7, mget8, mget9, mget10, mget11, r4E_new, r4E_len, r4E_ok, r4E_tk, r4E_st, r4E_g0, r4E_g1, r4E_g2, r4E_g3, r4E_s0, r4E_s1, r4E_s2, r4E_s3, Bool.not_false, Bool.not_true, p0, a0]
    refine lp_step ?_
    simp only [↓R0, R1, simprocAttr, -Int.reduceAbs, setR_length, rE_len, rE_ok, st3, st3', tk3, lz, oz, tz, sz, w0, w1, w2, w3, w4, w5, w6, w7, w8, w9, w10, w11, w12, mset0, mset1, mset2, mset3, mset4, mset5, mset6, mset7, mset8, mset9, mset10, mset11, mget0, mget1, mget2, mget3, mget4, mget5, mget6, mget7, mget8, mget9, mget10, mget11, r4E_new, r4E_len, r4E_ok, r4E_tk, r4E_st, r4E_g0, r4E_g1, r4E_g2, r4E_g3, r4E_s0, r4E_s1, r4E_s2, r4E_s3, Bool.not_false, Bool.not_true, p1, a1]
    refine lp_step ?_
    simp only [↓R0, R1, simprocAttr, -Int.reduceAbs, setR_length, rE_len, rE_ok, st3, st3', tk3, lz, oz, tz, sz, w0, w1, w2, w3, w4, w5, w6, w7, w8, w9, w10, w11, w12, mset0, mset1, mset2, mset3, mset4, mset5, mset6, mset7, mset8, mset9, mset10, mset11, mget0, mget1, mget2, mget3, mget4, mget5, mget6, mget7, mget8, mget9, mget10, mget11, r4E_new, r4E_len, r4E_ok, r4E_tk, r4E_st, r4E_g0, r4E_g1, r4E_g2, r4E_g3, r4E_s0, r4E_s1, r4E_s2, r4E_s3, Bool.not_false, Bool.not_true, p2, a2]
    refine lp_step ?_
    simp only [↓R0, R1, simprocAttr, -Int.reduceAbs, ← ez, setR_length, rE_len, rE_ok, st3, st3', tk3, lz, oz, tz, sz, w0, w1, w2, w3, w4, w5, w6, w7, w8, w9, w10, w11, w12, mset0, mset1, mset2, mset3, mset4, mset5, mset6, mset7, mset8, mset9, mset10, mset11, mget0, mget1, mget2, mget3, mget4, mget5, mget6, mget7, mget8, mget9, mget10, mget11, r4E_new, r4E_len, r4E_ok, r4E_tk, r4E_st, r4E_g0, r4E_g1, r4E_g2, r4E_g3, r4E_s0, r4E_s1, r4E_s2, r4E_s3, Bool.not_false, Bool.not_true, sg, sid, Fin, isEnd, resL, res1]
    exact ⟨_, rfl, rfl, fun k hk => by simp only [ne_nb hk, if_false]⟩
  rw [if_neg h0]
  have s0 : (S.num.sign = 0) = False := eq_false (fun e => h0 (Rat.num_eq_zero.1 (Int.sign_eq_zero_iff_zero.1 e)))
  generalize S.num.sign = sn at *
  have two : RB 2 2 := RB.two.le (by omega)
  have m0 := (RC.rE two).mul (RC.rE B1) (by omega) (by omega)
  have n0 := two.mul B1 (k := 1100) (by omega)
  have d0 := (RC.rE n0).div (RC.rE t2) (by omega) (by omega) h0
  have f0 := n0.div t2 (k := 10000) (by omega) (by omega)
  obtain ⟨Y0, y0⟩ : ∃ z, 2 * A / S = z := ⟨_, rfl⟩
  rw [y0] at d0 f0
  have u00 := (RC.rE f0).mul (RC.rE B1) (by omega) (by omega)
  have v00 := f0.mul B1 (k := 20000) (by omega)
  have i00 : idM 0 = 1 := rfl
  have x00 := (RC.rE RB.one).sub (RC.rE v00) (by omega) (by omega)
  have u01 := (RC.rE f0).mul (RC.rE B2) (by omega) (by omega)
  have v01 := f0.mul B2 (k := 20000) (by omega)
  have i01 : idM 1 = 0 := rfl
  have x01 := (RC.rE RB.zero).sub (RC.rE v01) (by omega) (by omega)
  have u02 := (RC.rE f0).mul (RC.rE B3) (by omega) (by omega)
  have v02 := f0.mul B3 (k := 20000) (by omega)
  have i02 : idM 2 = 0 := rfl
  have x02 := (RC.rE RB.zero).sub (RC.rE v02) (by omega) (by omega)
  have z0 := (RC.rE f0).mul (RC.rE B4) (by omega) (by omega)
  have m1 := (RC.rE two).mul (RC.rE B2) (by omega) (by omega)
  have n1 := two.mul B2 (k := 1100) (by omega)
  have d1 := (RC.rE n1).div (RC.rE t2) (by omega) (by omega) h0
  have f1 := n1.div t2 (k := 10000) (by omega) (by omega)
  obtain ⟨Y1, y1⟩ : ∃ z, 2 * B / S = z := ⟨_, rfl⟩
  rw [y1] at d1 f1
  have u10 := (RC.rE f1).mul (RC.rE B1) (by omega) (by omega)
  have v10 := f1.mul B1 (k := 20000) (by omega)
  have i10 : idM 4 = 0 := rfl
  have x10 := (RC.rE RB.zero).sub (RC.rE v10) (by omega) (by omega)
  have u11 := (RC.rE f1).mul (RC.rE B2) (by omega) (by omega)
  have v11 := f1.mul B2 (k := 20000) (by omega)
  have i11 : idM 5 = 1 := rfl
  have x11 := (RC.rE RB.one).sub (RC.rE v11) (by omega) (by omega)
  have u12 := (RC.rE f1).mul (RC.rE B3) (by omega) (by omega)
  have v12 := f1.mul B3 (k := 20000) (by omega)
  have i12 : idM 6 = 0 := rfl
  have x12 := (RC.rE RB.zero).sub (RC.rE v12) (by omega) (by omega)
  have z1 := (RC.rE f1).mul (RC.rE B4) (by omega) (by omega)
  have m2 := (RC.rE two).mul (RC.rE B3) (by omega) (by omega)
  have n2 := two.mul B3 (k := 1100) (by omega)
  have d2 := (RC.rE n2).div (RC.rE t2) (by omega) (by omega) h0
  have f2 := n2.div t2 (k := 10000) (by omega) (by omega)
  obtain ⟨Y2, y2⟩ : ∃ z, 2 * C / S = z := ⟨_, rfl⟩
  rw [y2] at d2 f2
  have u20 := (RC.rE f2).mul (RC.rE B1) (by omega) (by omega)
  have v20 := f2.mul B1 (k := 20000) (by omega)
  have i20 : idM 8 = 0 := rfl
  have x20 := (RC.rE RB.zero).sub (RC.rE v20) (by omega) (by omega)
  have u21 := (RC.rE f2).mul (RC.rE B2) (by omega) (by omega)
  have v21 := f2.mul B2 (k := 20000) (by omega)
  have i21 : idM 9 = 0 := rfl
  have x21 := (RC.rE RB.zero).sub (RC.rE v21) (by omega) (by omega)
  have u22 := (RC.rE f2).mul (RC.rE B3) (by omega) (by omega)
  have v22 := f2.mul B3 (k := 20000) (by omega)
  have i22 : idM 10 = 1 := rfl
  have x22 := (RC.rE RB.one).sub (RC.rE v22) (by omega) (by omega)
  have z2 := (RC.rE f2).mul (RC.rE B4) (by omega) (by omega)
  have fin : mE (upd (upd (upd (upd (upd (upd (upd (upd (upd (upd (upd (upd idM 0 (1 - Y0 * A)) 1 (0 - Y0 * B)) 2 (0 - Y0 * C)) 3 (Y0 * D)) 4 (0 - Y1 * A)) 5 (1 - Y1 * B)) 6 (0 - Y1 * C)) 7 (Y1 * D)) 8 (0 - Y2 * A)) 9 (0 - Y2 * B)) 10 (1 - Y2 * C)) 11 (Y2 * D)) = mE (reflM A B C D) := by
    have hd : dotN (nrm A B C D) (nrm A B C D) 3 = S := by rw [nrm_sq, hS]
    refine mE_congr (each12 ?_ ?_ ?_ ?_ ?_ ?_ ?_ ?_ ?_ ?_ ?_ ?_)
    · show 1 - Y0 * A = idM 0 - 2 * (nrm A B C D 0 * nrm A B C D 0) / dotN (nrm A B C D) (nrm A B C D) 3
      rw [hd, ← y0, show idM 0 = 1 from rfl, show nrm A B C D 0 = A from rfl]; grind
    · show 0 - Y0 * B = idM 1 - 2 * (nrm A B C D 0 * nrm A B C D 1) / dotN (nrm A B C D) (nrm A B C D) 3
      rw [hd, ← y0, show idM 1 = 0 from rfl, show nrm A B C D 0 = A from rfl, show nrm A B C D 1 = B from rfl]; grind
    · show 0 - Y0 * C = idM 2 - 2 * (nrm A B C D 0 * nrm A B C D 2) / dotN (nrm A B C D) (nrm A B C D) 3
      rw [hd, ← y0, show idM 2 = 0 from rfl, show nrm A B C D 0 = A from rfl, show nrm A B C D 2 = C from rfl]; grind
    · show Y0 * D = idM 3 - 2 * (nrm A B C D 0 * nrm A B C D 3) / dotN (nrm A B C D) (nrm A B C D) 3
      rw [hd, ← y0, show idM 3 = 0 from rfl, show nrm A B C D 0 = A from rfl, show nrm A B C D 3 = -D from rfl]; grind
    · show 0 - Y1 * A = idM 4 - 2 * (nrm A B C D 1 * nrm A B C D 0) / dotN (nrm A B C D) (nrm A B C D) 3
      rw [hd, ← y1, show idM 4 = 0 from rfl, show nrm A B C D 1 = B from rfl, show nrm A B C D 0 = A from rfl]; grind
    · show 1 - Y1 * B = idM 5 - 2 * (nrm A B C D 1 * nrm A B C D 1) / dotN (nrm A B C D) (nrm A B C D) 3
      rw [hd, ← y1, show idM 5 = 1 from rfl, show nrm A B C D 1 = B from rfl]; grind
    · show 0 - Y1 * C = idM 6 - 2 * (nrm A B C D 1 * nrm A B C D 2) / dotN (nrm A B C D) (nrm A B C D) 3
      rw [hd, ← y1, show idM 6 = 0 from rfl, show nrm A B C D 1 = B from rfl, show nrm A B C D 2 = C from rfl]; grind
    · show Y1 * D = idM 7 - 2 * (nrm A B C D 1 * nrm A B C D 3) / dotN (nrm A B C D) (nrm A B C D) 3
      rw [hd, ← y1, show idM 7 = 0 from rfl, show nrm A B C D 1 = B from rfl, show nrm A B C D 3 = -D from rfl]; grind
    · show 0 - Y2 * A = idM 8 - 2 * (nrm A B C D 2 * nrm A B C D 0) / dotN (nrm A B C D) (nrm A B C D) 3
      rw [hd, ← y2, show idM 8 = 0 from rfl, show nrm A B C D 2 = C from rfl, show nrm A B C D 0 = A from rfl]; grind
    · show 0 - Y2 * B = idM 9 - 2 * (nrm A B C D 2 * nrm A B C D 1) / dotN (nrm A B C D) (nrm A B C D) 3
      rw [hd, ← y2, show idM 9 = 0 from rfl, show nrm A B C D 2 = C from rfl, show nrm A B C D 1 = B from rfl]; grind
    · show 1 - Y2 * C = idM 10 - 2 * (nrm A B C D 2 * nrm A B C D 2) / dotN (nrm A B C D) (nrm A B C D) 3
      rw [hd, ← y2, show idM 10 = 1 from rfl, show nrm A B C D 2 = C from rfl]; grind
    · show Y2 * D = idM 11 - 2 * (nrm A B C D 2 * nrm A B C D 3) / dotN (nrm A B C D) (nrm A B C D) 3
      rw [hd, ← y2, show idM 11 = 0 from rfl, show nrm A B C D 2 = C from rfl, show nrm A B C D 3 = -D from rfl]; grind
  simp only [c38, G0, Nat.reduceAdd]
  simp only [↓R0, R1, simprocAttr, -Int.reduceAbs, ← ez, r4E_new, setR_length, rE_len, rE_ok, st3, st3', tk3, lz, oz, tz, sz, w0, w1, w2, w3, w4, w5, w6, w7, w8, w9, w10, w11, w12, mset0, mset1, mset2, mset3, mset4, mset5, mset6, mset7, mset8, mset9, mset10, mset11, mget0, mget1, mget2, mget3, mget4, mget5, mget6, mget7, mget8, mget9, mget10, mget11, r4E_new, r4E_len, r4E_ok, r4E_tk, r4E_st, r4E_g0, r4E_g1, r4E_g2, r4E_g3, r4E_s0, r4E_s1, r4E_s2, r4E_s3, Bool.not_false, Bool.not_true]
  refine lp_step ?_
  simp only [↓R0, R1, simprocAttr, -Int.reduceAbs, setR_length, rE_len, rE_ok, st3, st3', tk3, lz, oz, tz, sz, w0, w1, w2, w3, w4, w5, w6, w7, w8, w9, w10, w11, w12, mset0, mset1, mset2, mset3, mset4, mset5, mset6, mset7, mset8, mset9, mset10, mset11, mget0, mget1, mget2, mget3, mget4, mget5, mget6, mget7, mget8, mget9, mget10, mget11, r4E_new, r4E_len, r4E_ok, r4E_tk, r4E_st, r4E_g0, r4E_g1, r4E_g2, r4E_g3, r4E_s0, r4E_s1, r4E_s2, r4E_s3, Bool.not_false, Bool.not_true, M1]
  refine lp_step ?_
  simp only [↓R0, R1, simprocAttr, -Int.reduceAbs, setR_length, rE_len, rE_ok, st3, st3', tk3, lz, oz, tz, sz, w0, w1, w2, w3, w4, w5, w6, w7, w8, w9, w10, w11, w12, mset0, mset1, mset2, mset3, mset4, mset5, mset6, mset7, mset8, mset9, mset10, mset11, mget0, mget1, mget2, mget3, mget4, mget5, mget6, mget7, mget8, mget9, mget10, mget11, r4E_new, r4E_len, r4E_ok, r4E_tk, r4E_st, r4E_g0, r4E_g1, r4E_g2, r4E_g3, r4E_s0, r4E_s1, r4E_s2, r4E_s3, Bool.not_false, Bool.not_true, M2]
  refine lp_step ?_
  simp only [↓R0, R1, simprocAttr, -Int.reduceAbs, setR_length, rE_len, rE_ok, st3, st3', tk3, lz, oz, tz, sz, w0, w1, w2, w3, w4, w5, w6, w7, w8, w9, w10, w11, w12, mset0, mset1, mset2, mset3, mset4, mset5, mset6, mset7, mset8, mset9, mset10, mset11, mget0, mget1, mget2, mget3, mget4, mget5, mget6, mget7, mget8, mget9, mget10, mget11, r4E_new, r4E_len, r4E_ok, r4E_tk, r4E_st, r4E_g0, r4E_g1, r4E_g2, r4E_g3, r4E_s0, r4E_s1, r4E_s2, r4E_s3, Bool.not_false, Bool.not_true, M3]
  refine lp_step ?_
  simp only [↓R0, R1, simprocAttr, -Int.reduceAbs, setR_length, rE_len, rE_ok, st3, st3', tk3, lz, oz, tz, sz, w0, w1, w2, w3, w4, w5, w6, w7, w8, w9, w10, w11, w12, mset0, mset1, mset2, mset3, mset4, mset5, mset6, mset7, mset8, mset9, mset10, mset11, mget0, mget1, mget2, mget3, mget4, mget5, mget6, mget7, mget8, mget9, mget10, mget11, r4E_new, r4E_len, r4E_ok, r4E_tk, r4E_st, r4E_g0, r4E_g1, r4E_g2, r4E_g3, r4E_s0, r4E_s1, r4E_s2, r4E_s3, Bool.not_false, Bool.not_true, M4]
  refine lp_step ?_
  simp only [↓R0, R1, simprocAttr, -Int.reduceAbs, setR_length, rE_len, rE_ok, st3, st3', tk3, lz, oz, tz, sz, w0, w1, w2, w3, w4, w5, w6, w7, w8, w9, w10, w11, w12, mset0, mset1, mset2, mset3, mset4, mset5, mset6, mset7, mset8, mset9, mset10, mset11, mget0, mget1, mget2, mget3, mget4, mget5, mget6, mget7, mget8, mget9, mget10, mget11, r4E_new, r4E_len, r4E_ok, r4E_tk, r4E_st, r4E_g0, r4E_g1, r4E_g2, r4E_g3, r4E_s0, r4E_s1, r4E_s2, r4E_s3, Bool.not_false, Bool.not_true, num0]
  refine lp_step ?_
  simp only [↓R0, R1, simprocAttr, -Int.reduceAbs, setR_length, rE_len, rE_ok, st3, st3', tk3, lz, oz, tz, sz, w0, w1, w2, w3, w4, w5, w6, w7, w8, w9, w10, w11, w12, mset0, mset1, mset2, mset3, mset4, mset5, mset6, mset7, mset8, mset9, mset10, mset11, mget0, mget1, mget2, mget3, mget4, mget5, mget6, mget7, mget8, mget9, mget10, mget11, r4E_new, r4E_len, r4E_ok, r4E_tk, r4E_st, r4E_g0, r4E_g1, r4E_g2, r4E_g3, r4E_s0, r4E_s1, r4E_s2, r4E_s3, Bool.not_false, Bool.not_true, p0, a0]
  refine lp_step ?_
  simp only [↓R0, R1, simprocAttr, -Int.reduceAbs, setR_length, rE_len, rE_ok, st3, st3', tk3, lz, oz, tz, sz, w0, w1, w2, w3, w4, w5, w6, w7, w8, w9, w10, w11, w12, mset0, mset1, mset2, mset3, mset4, mset5, mset6, mset7, mset8, mset9, mset10, mset11, mget0, mget1, mget2, mget3, mget4, mget5, mget6, mget7, mget8, mget9, mget10, mget11, r4E_new, r4E_len, r4E_ok, r4E_tk, r4E_st, r4E_g0, r4E_g1, r4E_g2, r4E_g3, r4E_s0, r4E_s1, r4E_s2, r4E_s3, Bool.not_false, Bool.not_true, p1, a1]
  refine lp_step ?_
  simp only [↓R0, R1, simprocAttr, -Int.reduceAbs, setR_length, rE_len, rE_ok, st3, st3', tk3, lz, oz, tz, sz, w0, w1, w2, w3, w4, w5, w6, w7, w8, w9, w10, w11, w12, mset0, mset1, mset2, mset3, mset4, mset5, mset6, mset7, mset8, mset9, mset10, mset11, mget0, mget1, mget2, mget3, mget4, mget5, mget6, mget7, mget8, mget9, mget10, mget11, r4E_new, r4E_len, r4E_ok, r4E_tk, r4E_st, r4E_g0, r4E_g1, r4E_g2, r4E_g3, r4E_s0, r4E_s1, r4E_s2, r4E_s3, Bool.not_false, Bool.not_true, p2, a2]
  refine lp_step ?_
  simp only [↓R0, R1, simprocAttr, -Int.reduceAbs, ← ez, setR_length, rE_len, rE_ok, st3, st3', tk3, lz, oz, tz, sz, w0, w1, w2, w3, w4, w5, w6, w7, w8, w9, w10, w11, w12, mset0, mset1, mset2, mset3, mset4, mset5, mset6, mset7, mset8, mset9, mset10, mset11, mget0, mget1, mget2, mget3, mget4, mget5, mget6, mget7, mget8, mget9, mget10, mget11, r4E_new, r4E_len, r4E_ok, r4E_tk, r4E_st, r4E_g0, r4E_g1, r4E_g2, r4E_g3, r4E_s0, r4E_s1, r4E_s2, r4E_s3, Bool.not_false, Bool.not_true, sg, s0, sid]
  have ne : ∀ (g : Nat → Rat) (x : Rat) (i k : Nat), i < k → upd g i x k = g k := fun g x i k h => if_neg (by omega)
  refine lp_step ?_
  simp only [↓R0, R1, simprocAttr, -Int.reduceAbs, setR_length, rE_len, rE_ok, st3, st3', tk3, lz, oz, tz, sz, w0, w1, w2, w3, w4, w5, w6, w7, w8, w9, w10, w11, w12, mset0, mset1, mset2, mset3, mset4, mset5, mset6, mset7, mset8, mset9, mset10, mset11, mget0, mget1, mget2, mget3, mget4, mget5, mget6, mget7, mget8, mget9, mget10, mget11, r4E_new, r4E_len, r4E_ok, r4E_tk, r4E_st, r4E_g0, r4E_g1, r4E_g2, r4E_g3, r4E_s0, r4E_s1, r4E_s2, r4E_s3, Bool.not_false, Bool.not_true, num2, m0, d0]
  have j00 : idM 0 = 1 := rfl
  refine lp_step ?_
  simp only [↓R0, R1, simprocAttr, -Int.reduceAbs, setR_length, rE_len, rE_ok, st3, st3', tk3, lz, oz, tz, sz, w0, w1, w2, w3, w4, w5, w6, w7, w8, w9, w10, w11, w12, mset0, mset1, mset2, mset3, mset4, mset5, mset6, mset7, mset8, mset9, mset10, mset11, mget0, mget1, mget2, mget3, mget4, mget5, mget6, mget7, mget8, mget9, mget10, mget11, r4E_new, r4E_len, r4E_ok, r4E_tk, r4E_st, r4E_g0, r4E_g1, r4E_g2, r4E_g3, r4E_s0, r4E_s1, r4E_s2, r4E_s3, Bool.not_false, Bool.not_true, u00, j00, x00]
  have j01 : (upd idM 0 (1 - Y0 * A)) 1 = 0 := rfl
  refine lp_step ?_
  simp only [↓R0, R1, simprocAttr, -Int.reduceAbs, setR_length, rE_len, rE_ok, st3, st3', tk3, lz, oz, tz, sz, w0, w1, w2, w3, w4, w5, w6, w7, w8, w9, w10, w11, w12, mset0, mset1, mset2, mset3, mset4, mset5, mset6, mset7, mset8, mset9, mset10, mset11, mget0, mget1, mget2, mget3, mget4, mget5, mget6, mget7, mget8, mget9, mget10, mget11, r4E_new, r4E_len, r4E_ok, r4E_tk, r4E_st, r4E_g0, r4E_g1, r4E_g2, r4E_g3, r4E_s0, r4E_s1, r4E_s2, r4E_s3, Bool.not_false, Bool.not_true, u01, j01, x01]
  have j02 : (upd (upd idM 0 (1 - Y0 * A)) 1 (0 - Y0 * B)) 2 = 0 := rfl
  refine lp_step ?_
  simp only [↓R0, R1, simprocAttr, -Int.reduceAbs, setR_length, rE_len, rE_ok, st3, st3', tk3, lz, oz, tz, sz, w0, w1, w2, w3, w4, w5, w6, w7, w8, w9, w10, w11, w12, mset0, mset1, mset2, mset3, mset4, mset5, mset6, mset7, mset8, mset9, mset10, mset11, mget0, mget1, mget2, mget3, mget4, mget5, mget6, mget7, mget8, mget9, mget10, mget11, r4E_new, r4E_len, r4E_ok, r4E_tk, r4E_st, r4E_g0, r4E_g1, r4E_g2, r4E_g3, r4E_s0, r4E_s1, r4E_s2, r4E_s3, Bool.not_false, Bool.not_true, u02, j02, x02]
  refine lp_step ?_
  simp only [↓R0, R1, simprocAttr, -Int.reduceAbs, setR_length, rE_len, rE_ok, st3, st3', tk3, lz, oz, tz, sz, w0, w1, w2, w3, w4, w5, w6, w7, w8, w9, w10, w11, w12, mset0, mset1, mset2, mset3, mset4, mset5, mset6, mset7, mset8, mset9, mset10, mset11, mget0, mget1, mget2, mget3, mget4, mget5, mget6, mget7, mget8, mget9, mget10, mget11, r4E_new, r4E_len, r4E_ok, r4E_tk, r4E_st, r4E_g0, r4E_g1, r4E_g2, r4E_g3, r4E_s0, r4E_s1, r4E_s2, r4E_s3, Bool.not_false, Bool.not_true, z0]
  refine lp_step ?_
  simp only [↓R0, R1, simprocAttr, -Int.reduceAbs, setR_length, rE_len, rE_ok, st3, st3', tk3, lz, oz, tz, sz, w0, w1, w2, w3, w4, w5, w6, w7, w8, w9, w10, w11, w12, mset0, mset1, mset2, mset3, mset4, mset5, mset6, mset7, mset8, mset9, mset10, mset11, mget0, mget1, mget2, mget3, mget4, mget5, mget6, mget7, mget8, mget9, mget10, mget11, r4E_new, r4E_len, r4E_ok, r4E_tk, r4E_st, r4E_g0, r4E_g1, r4E_g2, r4E_g3, r4E_s0, r4E_s1, r4E_s2, r4E_s3, Bool.not_false, Bool.not_true, num2, m1, d1]
  have j10 : (upd (upd (upd (upd idM 0 (1 - Y0 * A)) 1 (0 - Y0 * B)) 2 (0 - Y0 * C)) 3 (Y0 * D)) 4 = 0 := rfl
  refine lp_step ?_
  simp only [↓R0, R1, simprocAttr, -Int.reduceAbs, setR_length, rE_len, rE_ok, st3, st3', tk3, lz, oz, tz, sz, w0, w1, w2, w3, w4, w5, w6, w7, w8, w9, w10, w11, w12, mset0, mset1, mset2, mset3, mset4, mset5, mset6, mset7, mset8, mset9, mset10, mset11, mget0, mget1, mget2, mget3, mget4, mget5, mget6, mget7, mget8, mget9, mget10, mget11, r4E_new, r4E_len, r4E_ok, r4E_tk, r4E_st, r4E_g0, r4E_g1, r4E_g2, r4E_g3, r4E_s0, r4E_s1, r4E_s2, r4E_s3, Bool.not_false, Bool.not_true, u10, j10, x10]
  have j11 : (upd (upd (upd (upd (upd idM 0 (1 - Y0 * A)) 1 (0 - Y0 * B)) 2 (0 - Y0 * C)) 3 (Y0 * D)) 4 (0 - Y1 * A)) 5 = 1 := rfl
  refine lp_step ?_
  simp only [↓R0, R1, simprocAttr, -Int.reduceAbs, setR_length, rE_len, rE_ok, st3, st3', tk3, lz, oz, tz, sz, w0, w1, w2, w3, w4, w5, w6, w7, w8, w9, w10, w11, w12, mset0, mset1, mset2, mset3, mset4, mset5, mset6, mset7, mset8, mset9, mset10, mset11, mget0, mget1, mget2, mget3, mget4, mget5, mget6, mget7, mget8, mget9, mget10, mget11, r4E_new, r4E_len, r4E_ok, r4E_tk, r4E_st, r4E_g0, r4E_g1, r4E_g2, r4E_g3, r4E_s0, r4E_s1, r4E_s2, r4E_s3, Bool.not_false, Bool.not_true, u11, j11, x11]
  have j12 : (upd (upd (upd (upd (upd (upd idM 0 (1 - Y0 * A)) 1 (0 - Y0 * B)) 2 (0 - Y0 * C)) 3 (Y0 * D)) 4 (0 - Y1 * A)) 5 (1 - Y1 * B)) 6 = 0 := rfl
  refine lp_step ?_
  simp only [↓R0, R1, simprocAttr, -Int.reduceAbs, setR_length, rE_len, rE_ok, st3, st3', tk3, lz, oz, tz, sz, w0, w1, w2, w3, w4, w5, w6, w7, w8, w9, w10, w11, w12, mset0, mset1, mset2, mset3, mset4, mset5, mset6, mset7, mset8, mset9, mset10, mset11, mget0, mget1, mget2, mget3, mget4, mget5, mget6, mget7, mget8, mget9, mget10, mget11, r4E_new, r4E_len, r4E_ok, r4E_tk, r4E_st, r4E_g0, r4E_g1, r4E_g2, r4E_g3, r4E_s0, r4E_s1, r4E_s2, r4E_s3, Bool.not_false, Bool.not_true, u12, j12, x12]
  refine lp_step ?_
  simp only [↓R0, R1, simprocAttr, -Int.reduceAbs, setR_length, rE_len, rE_ok, st3, st3', tk3, lz, oz, tz, sz, w0, w1, w2, w3, w4, w5, w6, w7, w8, w9, w10, w11, w12, mset0, mset1, mset2, mset3, mset4, mset5, mset6, mset7, mset8, mset9, mset10, mset11, mget0, mget1, mget2, mget3, mget4, mget5, mget6, mget7, mget8, mget9, mget10, mget11, r4E_new, r4E_len, r4E_ok, r4E_tk, r4E_st, r4E_g0, r4E_g1, r4E_g2, r4E_g3, r4E_s0, r4E_s1, r4E_s2, r4E_s3, Bool.not_false, Bool.not_true, z1]
  refine lp_step ?_
  simp only [↓R0, R1, simprocAttr, -Int.reduceAbs, setR_length, rE_len, rE_ok, st3, st3', tk3, lz, oz, tz, sz, w0, w1, w2, w3, w4, w5, w6, w7, w8, w9, w10, w11, w12, mset0, mset1, mset2, mset3, mset4, mset5, mset6, mset7, mset8, mset9, mset10, mset11, mget0, mget1, mget2, mget3, mget4, mget5, mget6, mget7, mget8, mget9, mget10, mget11, r4E_new, r4E_len, r4E_ok, r4E_tk, r4E_st, r4E_g0, r4E_g1, r4E_g2, r4E_g3, r4E_s0, r4E_s1, r4E_s2, r4E_s3, Bool.not_false, Bool.not_true, num2, m2, d2]
  have j20 : (upd (upd (upd (upd (upd (upd (upd (upd idM 0 (1 - Y0 * A)) 1 (0 - Y0 * B)) 2 (0 - Y0 * C)) 3 (Y0 * D)) 4 (0 - Y1 * A)) 5 (1 - Y1 * B)) 6 (0 - Y1 * C)) 7 (Y1 * D)) 8 = 0 := rfl
  refine lp_step ?_
  simp only [↓R0, R1, simprocAttr, -Int.reduceAbs, setR_length, rE_len, rE_ok, st3, st3', tk3, lz, oz, tz, sz, w0, w1, w2, w3, w4, w5, w6, w7, w8, w9, w10, w11, w12, mset0, mset1, mset2, mset3, mset4, mset5, mset6, mset7, mset8, mset9, mset10, mset11, mget0, mget1, mget2, mget3, mget4, mget5, mget6, mget7, mget8, mget9, mget10, mget11, r4E_new, r4E_len, r4E_ok, r4E_tk, r4E_st, r4E_g0, r4E_g1, r4E_g2, r4E_g3, r4E_s0, r4E_s1, r4E_s2, r4E_s3, Bool.not_false, Bool.not_true, u20, j20, x20]
  have j21 : (upd (upd (upd (upd (upd (upd (upd (upd (upd idM 0 (1 - Y0 * A)) 1 (0 - Y0 * B)) 2 (0 - Y0 * C)) 3 (Y0 * D)) 4 (0 - Y1 * A)) 5 (1 - Y1 * B)) 6 (0 - Y1 * C)) 7 (Y1 * D)) 8 (0 - Y2 * A)) 9 = 0 := rfl
  refine lp_step ?_
  simp only [↓R0, R1, simprocAttr, -Int.reduceAbs, setR_length, rE_len, rE_ok, st3, st3', tk3, lz, oz, tz, sz, w0, w1, w2, w3, w4, w5, w6, w7, w8, w9, w10, w11, w12, mset0, mset1, mset2, mset3, mset4, mset5, mset6, mset7, mset8, mset9, mset10, mset11, mget0, mget1, mget2, mget3, mget4, mget5, mget6, mget7, mget8, mget9, mget10, mget11, r4E_new, r4E_len, r4E_ok, r4E_tk, r4E_st, r4E_g0, r4E_g1, r4E_g2, r4E_g3, r4E_s0, r4E_s1, r4E_s2, r4E_s3, Bool.not_false, Bool.not_true, u21, j21, x21]
  have j22 : (upd (upd (upd (upd (upd (upd (upd (upd (upd (upd idM 0 (1 - Y0 * A)) 1 (0 - Y0 * B)) 2 (0 - Y0 * C)) 3 (Y0 * D)) 4 (0 - Y1 * A)) 5 (1 - Y1 * B)) 6 (0 - Y1 * C)) 7 (Y1 * D)) 8 (0 - Y2 * A)) 9 (0 - Y2 * B)) 10 = 1 := rfl
  refine lp_step ?_
  simp only [↓R0, R1, simprocAttr, -Int.reduceAbs, setR_length, rE_len, rE_ok, st3, st3', tk3, lz, oz, tz, sz, w0, w1, w2, w3, w4, w5, w6, w7, w8, w9, w10, w11, w12, mset0, mset1, mset2, mset3, mset4, mset5, mset6, mset7, mset8, mset9, mset10, mset11, mget0, mget1, mget2, mget3, mget4, mget5, mget6, mget7, mget8, mget9, mget10, mget11, r4E_new, r4E_len, r4E_ok, r4E_tk, r4E_st, r4E_g0, r4E_g1, r4E_g2, r4E_g3, r4E_s0, r4E_s1, r4E_s2, r4E_s3, Bool.not_false, Bool.not_true, u22, j22, x22]
  refine lp_step ?_
  simp only [↓R0, R1, simprocAttr, -Int.reduceAbs, setR_length, rE_len, rE_ok, st3, st3', tk3, lz, oz, tz, sz, w0, w1, w2, w3, w4, w5, w6, w7, w8, w9, w10, w11, w12, mset0, mset1, mset2, mset3, mset4, mset5, mset6, mset7, mset8, mset9, mset10, mset11, mget0, mget1, mget2, mget3, mget4, mget5, mget6, mget7, mget8, mget9, mget10, mget11, r4E_new, r4E_len, r4E_ok, r4E_tk, r4E_st, r4E_g0, r4E_g1, r4E_g2, r4E_g3, r4E_s0, r4E_s1, r4E_s2, r4E_s3, Bool.not_false, Bool.not_true, z2]
  refine lp_step ?_
  simp only [↓R0, R1, simprocAttr, -Int.reduceAbs, setR_length, rE_len, rE_ok, st3, st3', tk3, lz, oz, tz, sz, w0, w1, w2, w3, w4, w5, w6, w7, w8, w9, w10, w11, w12, mset0, mset1, mset2, mset3, mset4, mset5, mset6, mset7, mset8, mset9, mset10, mset11, mget0, mget1, mget2, mget3, mget4, mget5, mget6, mget7, mget8, mget9, mget10, mget11, r4E_new, r4E_len, r4E_ok, r4E_tk, r4E_st, r4E_g0, r4E_g1, r4E_g2, r4E_g3, r4E_s0, r4E_s1, r4E_s2, r4E_s3, Bool.not_false, Bool.not_true, fin, Fin, isEnd, resL, res1]
  exact ⟨_, rfl, rfl, fun k hk => by simp only [ne_nb hk, if_false]⟩
end Go.Eng
end
section
set_option linter.unusedVariables false
set_option linter.unusedSimpArgs false
set_option linter.unusedSectionVars false
set_option maxRecDepth 20000
namespace Go.Eng
open Go Go.Proofs Go.IntWalk
theorem ceq_pZ : ceq [.b, .s, .b, .s, .b, .s, .b, .s] pZ pZ = some true := ceq_self8 ⟨_, _, _, _, _, _, _, _, rfl⟩
end Go.Eng
end
section
set_option linter.unusedVariables false
set_option linter.unusedSimpArgs false
set_option linter.unusedSectionVars false
set_option maxRecDepth 20000
namespace Go.Eng
open Go Go.Proofs Go.IntWalk
theorem refl_lE {A B C D : Int} {k : Nat} (p : PL A B C D k) (hk : k ≤ 65536) : spArefl [.agg ⟨lE A B C D⟩] = some (.agg ⟨mE (reflM A B C D)⟩) := by
  rw [p.can]
  have h1 := p.l1; have h2 := p.l2; have h3 := p.l3; have h4 := p.l4
  unfold spArefl iE
  simp only [List.cons_append, List.nil_append]
  rw [if_pos ⟨by omega, by omega, by omega, by omega⟩]
  simp only [sv_can]
end Go.Eng
end
section
set_option linter.unusedVariables false
set_option linter.unusedSimpArgs false
set_option linter.unusedSectionVars false
set_option maxRecDepth 20000
namespace Go.Eng
open Go Go.Proofs Go.IntWalk
theorem PL.r7plane {A B C D : Int} {k : Nat} (p : PL A B C D k) (hk : k ≤ 1000) {c : List Value} {f : Nat → Rat} (h : MS c f 1000) :
    spR7Plane [.agg ⟨c⟩, .agg ⟨lE A B C D⟩] = some (if detM f = 0 then .tuple ⟨[.agg ⟨pZ⟩, .bool false]⟩ else fcR (aplQ (invM f) A B C D)) := by
  obtain ⟨q, a, b, e⟩ := h
  rw [p.can]
  have h1 := p.l1; have h2 := p.l2; have h3 := p.l3; have h4 := p.l4
  unfold spR7Plane iE
  simp only [List.cons_append, List.nil_append, a]
  rw [if_pos ⟨b, by omega, by omega, by omega, by omega⟩]
  simp only [sv_can]
  rw [detM_congr e, fcR_congr (apl_congr (fun i _ => invM_congr e i) _ _ _ _)]
theorem PL.mirror {A B C D : Int} {k : Nat} (p : PL A B C D k) (hk : k ≤ 1000) (hS : (A : Rat) * A + B * B + C * C ≠ 0) : spR7Mirror [.agg ⟨lE A B C D⟩] = some (.agg ⟨mE (reflM A B C D)⟩) := by
  rw [p.can]
  have h1 := p.l1; have h2 := p.l2; have h3 := p.l3; have h4 := p.l4
  unfold spR7Mirror iE
  simp only [List.cons_append, List.nil_append]
  rw [if_pos ⟨by omega, by omega, by omega, by omega⟩]
  simp only [sv_can]
  rw [if_neg hS]
def spLPls : List Value → Option Value
  | [.agg ⟨ca⟩, .agg ⟨[.bool t1, .string ⟨⟨m1⟩⟩, .bool t2, .string ⟨⟨m2⟩⟩, .bool t3, .string ⟨⟨m3⟩⟩, .bool t4, .string ⟨⟨m4⟩⟩]⟩] => match mapOf ca with
    | some _ => some (.bool true)
    | _ => none
  | _ => none
def c7 : ICode :=
  (.seq (.reg [qq 2 (.box 29 36 (.t 0)), qq 3 (.box 48 8 (.t 1)), qq 4 (.mv (.c (.bool false)))]) (.seq (.reg [qq 13 (.build [(.bool false), e0, (.bool false), e0, (.bool false), e0, (.bool false), e0] []), qq 14 (.load true 8 (.t 3)), qq 15 (.call 24 [(.t 13), (.t 14)]), qq 12 (.mv (.t 15)), qq 16 (.ext (.t 12) 0), qq 17 (.ext (.t 12) 1), qq 18 (.ext (.t 12) 2), qq 5 (.alloc 39 8 [(.bool false), e0, (.bool false), e0, (.bool false), e0, (.bool false), e0]), qq 6 (.alloc 48 8 [(.bool false), e0, (.bool false), e0, (.bool false), e0, (.bool false), e0]), qn (.store 8 (.t 5) (.t 16)), qn (.store 8 (.t 6) (.t 17)), qq 7 (.mv (.t 18))]) (.seq (.seq (.reg [qq 19 (.mv (.t 7)), qq 20 (.un .not (.t 19)), qq 21 (.mv (.t 20)), ⟨(some 22), (some (21, false)), (.load true 36 (.t 2))⟩, ⟨(some 23), (some (21, false)), (.call 18 [(.t 22)])⟩, ⟨(some 24), (some (21, false)), (.bin .gtr (.t 23) (ci 0))⟩, qq 25 (.pick (.t 21) (.c (.bool true)) (.t 24))]) (.cond (.t 25) (.seq (.reg [qq 26 (.call 11 []), qq 4 (.mv (.t 26))]) .ret) .skip)) (.seq (.reg [qq 28 (.load true 36 (.t 2)), qq 29 (.load true 8 (.t 6)), qq 30 (.call 36 [(.t 28), (.t 29)]), qq 27 (.mv (.t 30)), qq 31 (.ext (.t 27) 0), qq 32 (.ext (.t 27) 1), qq 8 (.alloc 48 8 [(.bool false), e0, (.bool false), e0, (.bool false), e0, (.bool false), e0]), qn (.store 8 (.t 8) (.t 31)), qq 9 (.mv (.t 32))]) (.seq (.reg [qq 34 (.load true 36 (.t 2)), qq 35 (.load true 8 (.t 6)), qq 36 (.call 37 [(.t 34), (.t 35)]), qq 33 (.mv (.t 36)), qq 37 (.ext (.t 33) 0), qq 38 (.ext (.t 33) 1), qq 10 (.alloc 48 8 [(.bool false), e0, (.bool false), e0, (.bool false), e0, (.bool false), e0]), qn (.store 8 (.t 10) (.t 37)), qq 11 (.mv (.t 38))]) (.seq (.dreg [qu 39 (.load true 8 (.t 8)), qu 40 (.load true 8 (.t 10)), qu 41 (.eqa false [.b, .s, .b, .s, .b, .s, .b, .s] (.t 39) (.t 40)), qu 42 (.mv (.t 41)), ⟨(some 43), (some (42, true)), [], (.mv (.t 9))⟩, ⟨(some 44), (some (42, true)), [], (.mv (.t 11))⟩, ⟨(some 45), (some (42, true)), [], (.eqb false (.t 43) (.t 44))⟩, qu 46 (.pick (.t 42) (.t 45) (.c (.bool false))), qu 47 (.mv (.t 46)), ⟨(some 48), (some (47, true)), [], (.load true 8 (.t 6))⟩, ⟨(some 49), (some (47, true)), [], (.call 25 [(.t 48)])⟩, ⟨(some 50), (some (47, true)), [10], (.load true 8 (.t 6))⟩, ⟨(some 51), (some (47, true)), [], (.call 38 [(.t 50)])⟩, ⟨(some 52), (some (47, true)), [], (.eqa false [.b, .s, .s, .b, .s, .s, .b, .s, .s, .b, .s, .s, .b, .s, .s, .b, .s, .s, .b, .s, .s, .b, .s, .s, .b, .s, .s, .b, .s, .s, .b, .s, .s, .b, .s, .s] (.t 49) (.t 51))⟩, qu 53 (.pick (.t 47) (.t 52) (.c (.bool false))), qu 54 (.mv (.t 53)), ⟨(some 55), (some (54, true)), [], (.call 11 [])⟩, qu 56 (.pick (.t 54) (.t 55) (.c (.bool false))), qu 4 (.mv (.t 56))]) .ret))))))
theorem tr7 : trFun Tryz.prog 7 = some ⟨57, [.t 4], c7⟩ := by kernel_rfl
set_option maxHeartbeats 4000000 in
theorem ok_LPls : SpecOK Tryz.prog 7 (flat spLPls) := by
  refine flat_run (env_cons ok_LForm (env_cons ok_LAaw (env_cons ok_r7Great (env_cons ok_Aapl (env_cons ok_r7Plane (env_cons ok_Arefl (env_cons ok_r7Mirror (env_nil _)))))))) mixed tr7 ?_
  intro args v h N hG
  unfold spLPls at hG
  split at hG
  case h_2 => cases hG
  rename_i ca t1 m1 t2 m2 t3 m3 t4 m4
  split at hG
  case h_2 => cases hG
  rename_i pa ha
  cases hG
  refine ⟨rfl, by simp, ?_⟩
  have ga := r7Great_of ha
  have la := (mapOf_spec ha).1
  have ta : ca.take 36 = ca := List.take_of_length_le (by omega)
  have aw : spLAaw [] = some (.bool true) := rfl
  have sx : ∀ P Q : List Value, P.length = 8 → Q.length = 8 → setR P 0 Q = Q := fun P Q h h' => setR_all _ _ (h.trans h'.symm)
  have zz : ([.bool false, .string ⟨⟨[]⟩⟩, .bool false, .string ⟨⟨[]⟩⟩, .bool false, .string ⟨⟨[]⟩⟩, .bool false, .string ⟨⟨[]⟩⟩] : List Value).length = 8 := rfl
  rcases form_cases false [] false [] false [] false [] t1 m1 t2 m2 t3 m3 t4 m4 with ⟨P, Q, ff, lP, lQ, oP, oQ⟩ | ⟨x, y, z, A, B, C, D, ff, bx, by', bz, pl⟩
  · have u1 := sx _ P zz lP
    have u2 := sx _ Q zz lQ
    simp only [c7, G0, Nat.reduceAdd]
    simp only [↓R0, R1, simprocAttr, -Int.reduceAbs, Bool.not_false, Bool.not_true, la, ta, ff, lP, lQ, oP, oQ, u1, u2, aw, Fin, isEnd, resL, res1, iE, rE]
    exact ⟨_, rfl, rfl, fun k hk => by simp only [ne_nb hk, if_false]⟩
  have lP : (mkE x y z).length = 8 := rfl
  have oP : (mkE x y z).all okCell = true := rfl
  have tP : (mkE x y z).take 8 = mkE x y z := rfl
  have lQ : (lE A B C D).length = 8 := rfl
  have oQ : (lE A B C D).all okCell = true := rfl
  have tQ : (lE A B C D).take 8 = lE A B C D := rfl
  have u1 := sx _ _ zz lP
  have u2 := sx _ _ zz lQ
  by_cases G : mapOk 6 pa
  case neg =>
    rw [if_neg G] at ga
    generalize mkE x y z = P at *
    generalize lE A B C D = Q at *
    simp only [c7, G0, Nat.reduceAdd]
    simp only [↓R0, R1, simprocAttr, -Int.reduceAbs, Bool.not_false, Bool.not_true, la, ta, ff, lP, lQ, oP, oQ, tP, tQ, u1, u2, aw, ga, Fin, isEnd, resL, res1, iE, rE]
    exact ⟨_, rfl, rfl, fun k hk => by simp only [ne_nb hk, if_false]⟩
  rw [if_pos G] at ga
  have ma := MS.of ha G
  generalize (fun i => (pa i).v) = a at *
  have hS : (A : Rat) * A + B * B + C * C ≠ 0 := by have := sq3_ne pl.ne; rwa [nrm_sq] at this
  have f1 := pl.apl (by omega) (ma.le (k := 1048576) (by omega))
  have f2 := pl.r7plane (by omega) (ma.le (k := 1000) (by omega))
  have f3 := refl_lE pl (by omega)
  have f4 := pl.mirror (by omega) hS
  have cq := ceq_mE' (reflM A B C D)
  generalize mE (reflM A B C D) = M at *
  have fin : ∃ Q' b, (if detM a = 0 then Value.tuple ⟨[.agg ⟨pZ⟩, .bool false]⟩ else fcR (aplQ (invM a) A B C D)) = .tuple ⟨[.agg ⟨Q'⟩, .bool b]⟩ ∧ Q'.length = 8 ∧ Q'.all okCell = true ∧ ceq [.b, .s, .b, .s, .b, .s, .b, .s] Q' Q' = some true := by
    split
    · exact ⟨_, _, rfl, rfl, rfl, ceq_pZ⟩
    · unfold fcR
      split
      · exact ⟨_, _, rfl, rfl, rfl, ceq_pZ⟩
      · exact ⟨_, _, rfl, rfl, rfl, ceq_lE _ _ _ _⟩
  obtain ⟨R, b, e, lR, oR, cR⟩ := fin
  rw [e] at f1 f2
  have u3 := sx _ R zz lR
  have tR : R.take 8 = R := List.take_of_length_le (by omega)
  generalize mkE x y z = P at *
  generalize lE A B C D = Q at *
  have bb : (b == b) = true := by cases b <;> rfl
  simp only [c7, G0, Nat.reduceAdd]
  simp only [↓R0, R1, simprocAttr, -Int.reduceAbs, Bool.not_false, Bool.not_true, la, ta, ff, lP, lQ, oP, oQ, tP, tQ, u1, u2, aw, ga, f1, f2, f3, f4, cq, lR, oR, cR, u3, tR, bb, Fin, isEnd, resL, res1]
  exact ⟨_, rfl, rfl, fun k hk => by simp only [ne_nb hk, if_false]⟩
end Go.Eng
end
section
set_option linter.unusedVariables false
set_option linter.unusedSimpArgs false
set_option linter.unusedSectionVars false
namespace Go.Eng.K
open Go.Eng
inductive Ki where
  | b | i (k : IntKind) | s
def kiFs (ty : TypeId → Option (List Ki)) (P : Program) : List Field → Nat → Option (List Ki)
  | [], _ => some []
  | f :: r, off =>
    if f.name ≠ "_" ∧ f.offset = off then
      match ty f.type, szOf P f.type with
      | some ks, some n => if ks.length = n then (kiFs ty P r (off + n)).map (ks ++ ·) else none
      | _, _ => none
    else none
def kiTy (P : Program) : Nat → TypeId → Option (List Ki)
  | 0, _ => none
  | d + 1, t =>
    match P.underlying t with
    | some .bool => some [.b]
    | some (.int k) => some [.i k]
    | some .string => some [.s]
    | some (.struct fs) => if P.stoodInHeld t then none else kiFs (kiTy P d) P fs.toList 0
    | some (.array len e) => match kiTy P d e, szOf P e with
      | some ks, some n => if ks.length = n then some (List.replicate len ks).flatten else none
      | _, _ => none
    | _ => none
def kmatch : List Ki → List Value → Prop
  | [], [] => True
  | .b :: ks, .bool _ :: r => kmatch ks r
  | .i k :: ks, .int k' n :: r => (k' = k ∧ (Lit.int k n).wf = true) ∧ kmatch ks r
  | .s :: ks, .string s :: r => s.size ≤ maxLen ∧ kmatch ks r
  | _, _ => False
theorem kmatch_append : ∀ {ks ks' : List Ki} {cs cs' : List Value}, kmatch ks cs → kmatch ks' cs' → kmatch (ks ++ ks') (cs ++ cs')
  | [], _, [], _, _, h => h
  | [], _, _ :: _, _, h, _ => h.elim
  | .b :: ks, ks', cs, cs', h, h' => by
    match cs, h with
    | .bool _ :: r, h => exact kmatch_append (ks := ks) h h'
  | .i k :: ks, ks', cs, cs', h, h' => by
    match cs, h with
    | .int _ _ :: r, h => exact ⟨h.1, kmatch_append (ks := ks) h.2 h'⟩
  | .s :: ks, ks', cs, cs', h, h' => by
    match cs, h with
    | .string _ :: r, h => exact ⟨h.1, kmatch_append (ks := ks) h.2 h'⟩
section
variable {H : Type} {enc : TypeId × Value → H} {P : Program}
theorem cellsOf_sz {t : TypeId} {n : Nat} (h : szOf P t = some n) : P.cellsOf t = n := by
  unfold Program.cellsOf; unfold szOf at h; rw [h]; rfl
def Plain (P : Program) (enc : TypeId × Value → H) (fuel : Nat) (t : TypeId) (ks : List Ki) : Prop :=
  ∀ (w : World) (base : Nat) (spare : Nat → Bool) (held : Bool) (cs : List Value) (x : DataW H × List MemPlace), DataW.trod enc P w base spare held fuel t cs = some x →
    kmatch ks cs ∧ x.2 = [] ∧ ∀ w' base' spare' held', DataW.trod enc P w' base' spare' held' fuel t cs = some x
theorem plain_fields {fuel : Nat} {ty : TypeId → Option (List Ki)} (hty : ∀ t ks n, ty t = some ks → szOf P t = some n → ks.length = n → Plain P enc fuel t ks) :
    ∀ (fs : List Field) (off : Nat) (ks : List Ki), kiFs ty P fs off = some ks → ∀ (w : World) (base : Nat) (spare : Nat → Bool) (held : Bool) (cs : List Value) (xs : List (DataW H × List MemPlace)),
      (fs.mapM fun f => DataW.trod enc P w base spare held fuel f.type ((cs.drop f.offset).take (P.cellsOf f.type))) = some xs → cs.length = off + ks.length →
      kmatch ks (cs.drop off) ∧ xs.flatMap (·.2) = [] ∧ ∀ w' base' spare' held', (fs.mapM fun f => DataW.trod enc P w' base' spare' held' fuel f.type ((cs.drop f.offset).take (P.cellsOf f.type))) = some xs
  | [], off, ks, h, w, base, spare, held, cs, xs, hm, hl => by
    simp only [kiFs, Option.some.injEq] at h
    subst h
    simp only [List.mapM_nil, Option.pure_def, Option.some.injEq] at hm
    subst hm
    simp only [List.length_nil, Nat.add_zero] at hl
    rw [List.drop_eq_nil_of_le (by omega)]
    exact ⟨trivial, rfl, fun _ _ _ _ => rfl⟩
  | f :: r, off, ks, h, w, base, spare, held, cs, xs, hm, hl => by
    simp only [kiFs] at h
    split at h
    case isFalse => cases h
    rename_i hc
    obtain ⟨_, hoff⟩ := hc
    split at h
    case h_2 => cases h
    rename_i ks0 n hk hn
    split at h
    case isFalse => cases h
    rename_i hlen
    rw [Option.map_eq_some_iff] at h
    obtain ⟨ks1, h1, rfl⟩ := h
    have hsz := cellsOf_sz hn
    simp only [List.mapM_cons, Option.bind_eq_bind, Option.bind_eq_some_iff, Option.pure_def, Option.some.injEq] at hm
    obtain ⟨y, hy, ys, hys, rfl⟩ := hm
    have hp := hty f.type ks0 n hk hn hlen w base spare held _ y hy
    obtain ⟨p1, p2, p3⟩ := hp
    simp only [List.length_append] at hl
    obtain ⟨q1, q2, q3⟩ := plain_fields hty r (off + n) ks1 h1 w base spare held cs ys hys (by omega)
    rw [hoff, hsz] at p1
    refine ⟨?_, ?_, ?_⟩
    · have e : cs.drop off = (cs.drop off).take n ++ cs.drop (off + n) := by
        rw [← List.drop_drop, List.take_append_drop]
      rw [e]
      exact kmatch_append p1 q1
    · simp only [List.flatMap_cons, p2, q2, List.nil_append]
    · intro w' base' spare' held'
      simp only [List.mapM_cons, Option.bind_eq_bind, Option.bind_eq_some_iff, Option.pure_def, Option.some.injEq]
      exact ⟨y, p3 w' base' spare' held', ys, q3 w' base' spare' held', rfl⟩
theorem plain_elems {fuel : Nat} {e : TypeId} {ks : List Ki} {n : Nat} (hn : szOf P e = some n) (hl : ks.length = n) (he : Plain P enc fuel e ks) :
    ∀ (m i0 : Nat) (w : World) (base : Nat) (spare : Nat → Bool) (held : Bool) (cs : List Value) (xs : List (DataW H × List MemPlace)),
      ((List.range' i0 m).mapM fun i => DataW.trod enc P w base spare held fuel e ((cs.drop (i * P.cellsOf e)).take (P.cellsOf e))) = some xs → cs.length = (i0 + m) * n →
      kmatch (List.replicate m ks).flatten (cs.drop (i0 * n)) ∧ xs.flatMap (·.2) = [] ∧ ∀ w' base' spare' held', ((List.range' i0 m).mapM fun i => DataW.trod enc P w' base' spare' held' fuel e ((cs.drop (i * P.cellsOf e)).take (P.cellsOf e))) = some xs
  | 0, i0, w, base, spare, held, cs, xs, hm, hlen => by
    simp only [List.range'_zero, List.mapM_nil, Option.pure_def, Option.some.injEq] at hm
    subst hm
    simp only [Nat.add_zero] at hlen
    rw [List.drop_eq_nil_of_le (by omega)]
    exact ⟨trivial, rfl, fun _ _ _ _ => by simp⟩
  | m + 1, i0, w, base, spare, held, cs, xs, hm, hlen => by
    have hsz := cellsOf_sz hn
    simp only [List.range'_succ, List.mapM_cons, Option.bind_eq_bind, Option.bind_eq_some_iff, Option.pure_def, Option.some.injEq] at hm
    obtain ⟨y, hy, ys, hys, rfl⟩ := hm
    obtain ⟨p1, p2, p3⟩ := he w base spare held _ y hy
    obtain ⟨q1, q2, q3⟩ := plain_elems hn hl he m (i0 + 1) w base spare held cs ys hys (by rw [hlen]; congr 1; omega)
    rw [hsz] at p1
    refine ⟨?_, ?_, ?_⟩
    · rw [List.replicate_succ, List.flatten_cons]
      have e : cs.drop (i0 * n) = (cs.drop (i0 * n)).take n ++ cs.drop ((i0 + 1) * n) := by
        rw [Nat.succ_mul, ← List.drop_drop, List.take_append_drop]
      rw [e]
      exact kmatch_append p1 q1
    · simp only [List.flatMap_cons, p2, q2, List.nil_append]
    · intro w' base' spare' held'
      simp only [List.range'_succ, List.mapM_cons, Option.bind_eq_bind, Option.bind_eq_some_iff, Option.pure_def, Option.some.injEq]
      exact ⟨y, p3 w' base' spare' held', ys, q3 w' base' spare' held', rfl⟩
theorem plain_ty : ∀ (fuel d : Nat) (t : TypeId) (ks : List Ki) (n : Nat), kiTy P d t = some ks → szOf P t = some n → ks.length = n → Plain P enc fuel t ks
  | 0, d, t, ks, n, h, hn, hl => by intro w base spare held cs x hx; simp [DataW.trod] at hx
  | fuel + 1, 0, t, ks, n, h, hn, hl => by simp [kiTy] at h
  | fuel + 1, d + 1, t, ks, n, h, hn, hl => by
    intro w base spare held cs x hx
    unfold kiTy at h
    unfold DataW.trod at hx ⊢
    split at h
    · rename_i hu
      cases h
      rw [hu] at hx ⊢
      match cs, hx with
      | [.bool b], hx => simp only [Option.some.injEq] at hx; subst hx; exact ⟨trivial, rfl, fun _ _ _ _ => rfl⟩
    · rename_i k hu
      cases h
      rw [hu] at hx ⊢
      match cs, hx with
      | [.int k' m], hx =>
        simp only at hx
        split at hx
        · rename_i hc
          simp only [Option.some.injEq] at hx; subst hx
          exact ⟨⟨hc, trivial⟩, rfl, fun _ _ _ _ => by simp only; rw [if_pos hc]⟩
        · cases hx
    · rename_i hu
      cases h
      rw [hu] at hx ⊢
      match cs, hx with
      | [.string s], hx =>
        simp only at hx
        split at hx
        · rename_i hc
          simp only [Option.some.injEq] at hx; subst hx
          exact ⟨⟨hc, trivial⟩, rfl, fun _ _ _ _ => by simp only; rw [if_pos hc]⟩
        · cases hx
    · rename_i fs hu
      split at h
      · cases h
      rw [hu] at hx ⊢
      simp only at hx ⊢
      split at hx
      case isFalse => cases hx
      rename_i hlen
      rw [Option.map_eq_some_iff] at hx
      obtain ⟨xs, hxs, rfl⟩ := hx
      rw [cellsOf_sz hn, ← hl] at hlen
      obtain ⟨p1, p2, p3⟩ := plain_fields (fuel := fuel) (fun t ks n h1 h2 h3 => plain_ty fuel d t ks n h1 h2 h3) fs.toList 0 ks h w base spare held cs xs hxs (by omega)
      refine ⟨by simpa using p1, p2, fun w' base' spare' held' => ?_⟩
      rw [if_pos (by rw [cellsOf_sz hn, ← hl, hlen]), p3]; rfl
    · rename_i len e hu
      split at h
      case h_2 => cases h
      rename_i ks0 m hk hm
      split at h
      case isFalse => cases h
      rename_i hlm
      simp only [Option.some.injEq] at h
      subst h
      rw [hu] at hx ⊢
      simp only at hx ⊢
      split at hx
      case isFalse => cases hx
      rename_i hlen
      rw [Option.map_eq_some_iff] at hx
      obtain ⟨xs, hxs, rfl⟩ := hx
      rw [cellsOf_sz hn, ← hl] at hlen
      rw [List.range_eq_range'] at hxs
      have hfl : ((List.replicate len ks0).flatten).length = len * m := by rw [List.length_flatten]; simp [hlm]
      obtain ⟨p1, p2, p3⟩ := plain_elems hm hlm (plain_ty fuel d e ks0 m hk hm hlm) len 0 w base spare held cs xs hxs (by rw [hlen, hfl, Nat.zero_add])
      refine ⟨by simpa using p1, p2, fun w' base' spare' held' => ?_⟩
      rw [if_pos (by rw [cellsOf_sz hn, ← hl, hlen]), List.range_eq_range', p3]; rfl
    · cases h
theorem trod_plain {w : World} {t : TypeId} {v : Value} {d : DataW H} {ps : List MemPlace} {ks : List Ki} {n : Nat} {base : Nat} {spare : Nat → Bool} {held : Bool}
    (hf : kiTy P 20 t = some ks) (hs : szOf P t = some n) (hl : ks.length = n) (h : DataW.Trod enc P w base spare held t v d ps) :
    kmatch ks v.cells.toList ∧ ps = [] ∧ ∀ w' base' spare' held', DataW.Trod enc P w' base' spare' held' t v d ps := by
  obtain ⟨fuel, h⟩ := h
  obtain ⟨p1, p2, p3⟩ := plain_ty fuel 20 t ks n hf hs hl w base spare held _ _ h
  exact ⟨p1, p2, fun w' base' spare' held' => ⟨fuel, p3 w' base' spare' held'⟩⟩
end
theorem agg_of {v : Value} {cs : List Value} (h : v.cells.toList = cs) (h2 : 2 ≤ cs.length) : v = .agg ⟨cs⟩ := by
  rw [vcells_eq] at h
  cases v <;> simp [vcells] at h <;> subst h <;> first | rfl | simp at h2
theorem flat_calls {P : Program} {f : Nat} {G : List Value → Option Value} (hS : SpecOK P f (flat G)) {args : List Value} {v : Value} (hG : G args = some v) (ha : ∀ β, VRs β args args) (hv : isBase v = true) (w : World) :
    Calls P f ⟨args⟩ w fun e w' => e = .returned v ∧ w.keptBut w' (fun _ => False) := by
  have h := hS.ok args [] 0 (v, [], 0) (by simp [flat, hG]) (fun _ => none) w args (ha _)
    ⟨fun k b e => by simp [hget] at e, fun k k' L L' e => by simp [hget] at e, fun k L e => by cases e⟩ (fun _ _ _ => rfl) ⟨0, fun k e => absurd rfl e⟩
  refine h.mono ?_
  rintro e w' ⟨β', v', he, hvr, hrel, hfr, _⟩
  refine ⟨?_, hfr.os, hfr.out, fun i hi => ?_⟩
  · rw [he, hvr.base_left hv]
  · rw [hfr.keep i hi (fun k L hk => by obtain ⟨b, e, _⟩ := hk; simp [hget] at e)]
    cases w.heap[i]? with
    | none => rfl
    | some o =>
      cases o with
      | cells c t fr => exact ⟨rfl, rfl, rfl, fun _ _ => rfl⟩
      | map es cl => exact .inr ⟨rfl, rfl⟩
      | _ => rfl
end Go.Eng.K
end
