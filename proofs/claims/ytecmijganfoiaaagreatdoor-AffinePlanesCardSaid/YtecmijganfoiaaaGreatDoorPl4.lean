/-
  A part of the proof: the machine, the contracts of the functions and the plain laws, merged from smaller texts.
-/
import Derived.Test.YtecmijganfoiaaaGreatDoorPl3
section
set_option linter.unusedVariables false
set_option linter.unusedSimpArgs false
set_option linter.unusedSectionVars false
set_option maxRecDepth 20000
namespace Go.Eng
open Go Go.Proofs Go.IntWalk
def getL : List (Nat × (List Value → Heap → Option Value)) → Nat → List Value → Heap → Option Value
  | [], _, _, _ => none
  | (f, g) :: r, k, args, h => if f = k then g args h else getL r k args h
def rdL' (L : List (Nat × (List Value → Heap → Option Value))) : List (Nat × Spec) := L.map fun x => (x.1, rdS x.2)
theorem mkEnv_rd : ∀ (L : List (Nat × (List Value → Heap → Option Value))) (f : Nat) (args : List Value) (h : Heap) (n : Nat), mkEnv (rdL' L) f args h n = rdS (getL L f) args h n
  | [], _, _, _, _ => rfl
  | (g, G) :: r, f, args, h, n => by
    have := mkEnv_rd r f args h n
    unfold rdL' at this ⊢
    simp only [List.map_cons, mkEnv, rdS, getL] at this ⊢
    by_cases e : g = f
    · simp only [e, if_true]
    · simp only [e, if_false]; exact this
theorem getL_mono {P : Program} {L : List (Nat × (List Value → Heap → Option Value))} (hE : EnvOK P (mkEnv (rdL' L))) {f : Nat} {args : List Value} {h h' : Heap} {v : Value} (hl : hle h h') (e : getL L f args h = some v) : getL L f args h' = some v := by
  have := hE.mono f args h h' 0 (v, [], 0) hl (by rw [mkEnv_rd, rdS, e]; rfl)
  rw [mkEnv_rd] at this
  simp only [rdS, Option.map_eq_some_iff, Prod.mk.injEq] at this
  obtain ⟨w, e1, rfl, _⟩ := this
  exact e1
def ratV (k : Nat) : Option Value → Option RQ
  | some (.agg ⟨[.bool s, .string ⟨⟨n⟩⟩, .string ⟨⟨d⟩⟩]⟩) => if n.length ≤ k ∧ d.length ≤ k then some ⟨s, n, d⟩ else none
  | _ => none
theorem ratV_eq {k : Nat} {o : Option Value} {q : RQ} (e : ratV k o = some q) : o = some (.agg ⟨[.bool q.s, .string ⟨⟨q.n⟩⟩, .string ⟨⟨q.d⟩⟩]⟩) ∧ q.n.length ≤ k ∧ q.d.length ≤ k := by
  unfold ratV at e
  split at e
  · split at e
    · rename_i h; cases e; exact ⟨rfl, h⟩
    · cases e
  · cases e
theorem ratV_mk {k : Nat} {q : RQ} (h : q.ok k) : ratV k (some (.agg ⟨q.cells⟩)) = some q := by
  unfold ratV RQ.cells; exact if_pos h
def twelve (g : Nat → Option RQ) : Option (Nat → RQ) := if ((List.range 12).all fun i => (g i).isSome) = true then some (fun i => (g i).getD RQ.zero) else none
theorem twelve_eq {g : Nat → Option RQ} {p : Nat → RQ} (e : twelve g = some p) : ∀ i, i < 12 → g i = some (p i) := by
  unfold twelve at e
  split at e
  · rename_i h
    cases e
    intro i hi
    have := List.all_eq_true.1 h i (List.mem_range.2 hi)
    cases hg : g i with
    | none => rw [hg] at this; cases this
    | some q => simp only [hg]; rfl
  · cases e
theorem twelve_mk {g : Nat → Option RQ} {p : Nat → RQ} (h : ∀ i, i < 12 → g i = some (p i)) : ∃ p', twelve g = some p' ∧ ∀ i, i < 12 → p' i = p i := by
  refine ⟨fun i => (g i).getD RQ.zero, ?_, fun i hi => by simp only [h i hi]; rfl⟩
  unfold twelve
  rw [if_pos (List.all_eq_true.2 fun i hi => by rw [h i (List.mem_range.1 hi)]; rfl)]
def spAof (L : List (Nat × (List Value → Heap → Option Value))) : List Value → Heap → Option Value
  | [.func (.func f) ⟨[]⟩ ⟨cs⟩], h => if f = 93 then none else
    match twelve (fun i => ratV 17179869184 (getL L f ([.int .i64 ((i / 4 : Nat) : Int), .int .i64 ((i % 4 : Nat) : Int)] ++ cs) h)) with
    | some p => some (.agg ⟨mE (fun i => (p i).v)⟩)
    | none => none
  | _, _ => none
theorem spAof_mk {L : List (Nat × (List Value → Heap → Option Value))} {f : Nat} {cs : List Value} {h : Heap} {p : Nat → RQ} (hf : f ≠ 93) (hp : ∀ i, i < 12 → getL L f ([.int .i64 ((i / 4 : Nat) : Int), .int .i64 ((i % 4 : Nat) : Int)] ++ cs) h = some (.agg ⟨(p i).cells⟩) ∧ (p i).ok 17179869184) :
    spAof L [.func (.func f) ⟨[]⟩ ⟨cs⟩] h = some (.agg ⟨mE (fun i => (p i).v)⟩) := by
  obtain ⟨p', e1, e2⟩ := twelve_mk (g := fun i => ratV 17179869184 (getL L f ([.int .i64 ((i / 4 : Nat) : Int), .int .i64 ((i % 4 : Nat) : Int)] ++ cs) h)) (p := p) (fun i hi => by rw [(hp i hi).1]; exact ratV_mk (hp i hi).2)
  unfold spAof
  simp only
  rw [if_neg hf, e1]
  simp only
  rw [mE_congr (fun i hi => by rw [e2 i hi])]
def part12 (f : Nat → Rat) (i : Nat) : List Value := ((List.range i).flatMap fun j => rE (f j)) ++ (List.replicate (12 - i) [.bool false, .string ⟨⟨[]⟩⟩, .string ⟨⟨[]⟩⟩]).flatten
theorem flat3_len (f : Nat → Rat) : ∀ i, ((List.range i).flatMap fun j => rE (f j)).length = i * 3
  | 0 => rfl
  | i + 1 => by rw [List.range_succ, List.flatMap_append, List.length_append, flat3_len f i]; simp [rE]; omega
theorem part12_len (f : Nat → Rat) {i : Nat} (hi : i ≤ 12) : (part12 f i).length = 36 := by
  unfold part12
  rw [List.length_append, flat3_len, List.length_flatten]
  simp; omega
theorem setR_mid : ∀ (vs A C Z : List Value), C.length = vs.length → setR (A ++ (C ++ Z)) A.length vs = A ++ (vs ++ Z) := by
  intro vs
  induction vs with
  | nil => intro A C Z h; simp at h; subst h; rfl
  | cons v vs ih =>
    intro A C Z h
    cases C with
    | nil => simp at h
    | cons c C =>
      have e : (A ++ (c :: C ++ Z)).set A.length v = (A ++ [v]) ++ (C ++ Z) := by simp
      have := ih (A ++ [v]) C Z (by simpa using h)
      simp only [setR]
      rw [e, show A.length + 1 = (A ++ [v]).length by simp, this]; simp
theorem part12_set (f : Nat → Rat) {i : Nat} (hi : i < 12) : setR (part12 f i) (i * 3) (rE (f i)) = part12 f (i + 1) := by
  unfold part12
  obtain ⟨m, hm⟩ : ∃ m, 12 - i = m + 1 := ⟨11 - i, by omega⟩
  have hm' : 12 - (i + 1) = m := by omega
  rw [hm, hm', List.replicate_succ, List.flatten_cons, List.range_succ, List.flatMap_append, ← flat3_len f i]
  refine (setR_mid (rE (f i)) _ [.bool false, .string ⟨⟨[]⟩⟩, .string ⟨⟨[]⟩⟩] _ rfl).trans ?_
  simp only [List.flatMap_cons, List.flatMap_nil, List.append_nil, List.append_assoc]
theorem part12_zero (f : Nat → Rat) : part12 f 0 = [.bool false, .string ⟨⟨[]⟩⟩, .string ⟨⟨[]⟩⟩, .bool false, .string ⟨⟨[]⟩⟩, .string ⟨⟨[]⟩⟩, .bool false, .string ⟨⟨[]⟩⟩, .string ⟨⟨[]⟩⟩, .bool false, .string ⟨⟨[]⟩⟩, .string ⟨⟨[]⟩⟩, .bool false, .string ⟨⟨[]⟩⟩, .string ⟨⟨[]⟩⟩, .bool false, .string ⟨⟨[]⟩⟩, .string ⟨⟨[]⟩⟩, .bool false, .string ⟨⟨[]⟩⟩, .string ⟨⟨[]⟩⟩, .bool false, .string ⟨⟨[]⟩⟩, .string ⟨⟨[]⟩⟩, .bool false, .string ⟨⟨[]⟩⟩, .string ⟨⟨[]⟩⟩, .bool false, .string ⟨⟨[]⟩⟩, .string ⟨⟨[]⟩⟩, .bool false, .string ⟨⟨[]⟩⟩, .string ⟨⟨[]⟩⟩, .bool false, .string ⟨⟨[]⟩⟩, .string ⟨⟨[]⟩⟩] := rfl
theorem part12_end (f : Nat → Rat) : part12 f 12 = mE f := by unfold part12 mE; simp
theorem mE_len (f : Nat → Rat) : (mE f).length = 36 := flat3_len f 12
theorem rE_len (q : Rat) : (rE q).length = 3 := rfl
theorem rE_ok (q : Rat) : (rE q).all okCell = true := rfl
theorem mE_ok (f : Nat → Rat) : (mE f).all okCell = true := by
  rw [List.all_eq_true]
  intro v hv
  have := List.all_eq_true.1 (mE_base f) v hv
  cases v <;> simp [isBase] at this <;> rfl
theorem setR_all (vs C : List Value) (h : C.length = vs.length) : setR C 0 vs = vs := by
  have := setR_mid vs [] C [] h
  simpa using this
def c42 : ICode :=
  (.seq (.reg [qq 2 (.alloc 29 36 [(.bool false), e0, e0, (.bool false), e0, e0, (.bool false), e0, e0, (.bool false), e0, e0, (.bool false), e0, e0, (.bool false), e0, e0, (.bool false), e0, e0, (.bool false), e0, e0, (.bool false), e0, e0, (.bool false), e0, e0, (.bool false), e0, e0, (.bool false), e0, e0])]) (.seq (.reg [qq 3 (.alloc 29 36 [(.bool false), e0, e0, (.bool false), e0, e0, (.bool false), e0, e0, (.bool false), e0, e0, (.bool false), e0, e0, (.bool false), e0, e0, (.bool false), e0, e0, (.bool false), e0, e0, (.bool false), e0, e0, (.bool false), e0, e0, (.bool false), e0, e0, (.bool false), e0, e0])]) (.seq (.seq (.reg [qq 5 (.mv (ci 0))]) (.block 0 (.loop (.seq (.reg [qq 6 (.bin .lss (.t 5) (ci 12))]) (.seq (.cond (.t 6) .skip (.exit 0)) (.seq (.block 1 (.seq (.reg [qq 7 (.mv (.t 5)), qq 4 (.mv (.t 7))]) (.reg [qq 8 (.mv (.t 4)), qq 9 (.mv (.t 0)), qq 10 (.mv (.t 4)), qq 11 (.bin .quo (.t 10) (ci 4)), qq 12 (.mv (.t 4)), qq 13 (.bin .rem (.t 12) (ci 4)), qq 14 (.callv (.t 9) [(.t 11), (.t 13)]), qq 15 (.call 93 [(.t 14)]), qq 16 (.ixarr 12 3 (.t 3) (.t 8)), qn (.store 3 (.t 16) (.t 15))]))) (.reg [qq 17 (.bin .add (.t 5) (ci 1)), qq 5 (.mv (.t 17))]))))))) (.seq (.reg [qq 18 (.load true 36 (.t 3)), qn (.store 36 (.t 2) (.t 18))]) .ret))))
theorem tr42 : trFun Tryz.prog 42 = some ⟨19, [.cell 2 true 36], c42⟩ := by kernel_rfl
set_option maxHeartbeats 2000000 in
theorem ok_Aof {L : List (Nat × (List Value → Heap → Option Value))} (hL : EnvOK Tryz.prog (mkEnv (rdL' L))) : SpecOK Tryz.prog 42 (rdS (spAof L)) := by
  refine rd_run (env_cons ok_qNorm hL) mixed tr42 ?_ ?_
  · intro args h h' v hle e
    unfold spAof at e ⊢
    split at e
    · rename_i f cs
      split at e
      · cases e
      rename_i hf
      split at e
      · rename_i p hp
        have := twelve_eq hp
        obtain ⟨p', e1, e2⟩ := twelve_mk (g := fun i => ratV 17179869184 (getL L f ([.int .i64 ((i / 4 : Nat) : Int), .int .i64 ((i % 4 : Nat) : Int)] ++ cs) h')) (p := p) (fun i hi => by
          obtain ⟨g1, g2, g3⟩ := ratV_eq (this i hi)
          rw [getL_mono hL hle g1]; exact ratV_mk ⟨g2, g3⟩)
        rw [if_neg hf, e1]
        simp only at e ⊢
        rw [← e, mE_congr (fun i hi => by rw [e2 i hi])]
      · cases e
    · cases e
  intro args v h N hG hN
  unfold spAof at hG
  split at hG
  case h_2 => cases hG
  rename_i f cs
  split at hG
  case isTrue => cases hG
  rename_i hf
  split at hG
  case h_2 => cases hG
  rename_i p hp
  have hp := twelve_eq hp
  cases hG
  refine ⟨mE_base (fun i => (p i).v), by simp, ?_⟩
  simp only [c42, G0, Nat.reduceAdd]
  simp only [↓R0, R1, simprocAttr, -Int.reduceAbs]
  refine lp_parts (fun m tm hp' nx => ∃ i, m + i = 12 ∧ tmget tm 5 = .int .i64 (i : Nat) ∧ tmget tm 0 = .func (.func f) ⟨[]⟩ ⟨cs⟩ ∧ tmget tm 2 = .pointer (some ⟨N + 0, 0, none⟩) ∧ tmget tm 3 = .pointer (some ⟨N + 1, 0, none⟩) ∧
      hget hp' (N + 0) = some ⟨29, 36, true, part12 (fun i => (p i).v) 0⟩ ∧ hget hp' (N + 1) = some ⟨29, 36, true, part12 (fun i => (p i).v) i⟩ ∧ (∀ k, k < N → hget hp' k = hget h k) ∧ nx = N + 2) ?_ 12 ⟨0, rfl, ?_, ?_, ?_, ?_, ?_, ?_, ?_, rfl⟩
  · rintro m tm hp' nx ⟨i, hm, t5, t0, t2, t3, b0, b1, hh, rfl⟩
    by_cases c : i < 12
    · have c1 : ((i : Int) < 12) = True := eq_true (by omega)
      obtain ⟨g1, g2, g3⟩ := ratV_eq (hp i c)
      have hl : hle h hp' := fun k b e => by rw [hh k (hN k b e)]; exact e
      have g4 := getL_mono hL hl g1
      have q1 : IntKind.i64.wrap (Int.tdiv (i : Int) 4) = ((i / 4 : Nat) : Int) := by rw [Int.tdiv_eq_ediv_of_nonneg (by omega), i64_in _ (by omega)]; rfl
      have q2 : Int.tmod (i : Int) 4 = ((i % 4 : Nat) : Int) := by rw [Int.tmod_eq_emod_of_nonneg (by omega)]; rfl
      have q3 : IntKind.i64.wrap ((i : Int) + 1) = ((i + 1 : Nat) : Int) := by rw [i64_in _ (by omega)]; omega
      have pl := part12_len (fun i => (p i).v) (Nat.le_of_lt c)
      have ps := part12_set (fun i => (p i).v) c
      have w1 : ((0 : Int) ≤ (i : Int)) = True := eq_true (by omega)
      have w2 : (i * 3 + 3 ≤ 36) = True := eq_true (by omega)
      have hf' : (93 = f) = False := eq_false (fun e => hf e.symm)
      have en : ∀ args h n, mkEnv (rdL' L) f args h n = (getL L f args h).map fun v => (v, [], 0) := fun args h n => mkEnv_rd L f args h n
      have g4' : getL L f (.int .i64 ((i / 4 : Nat) : Int) :: .int .i64 ((i % 4 : Nat) : Int) :: cs) hp' = some (.agg ⟨[.bool (p i).s, .string ⟨⟨(p i).n⟩⟩, .string ⟨⟨(p i).d⟩⟩]⟩) := g4
      simp only [↓R0, R1, simprocAttr, -Int.reduceAbs, t5, t0, t2, t3, b0, b1, c1, q1, q2, q3, callF, hf', en, g4', spQNorm, g2, g3, w1, w2, pl, rE_len, rE_ok, Int.ofNat_lt, c]
      refine ⟨m - 1, by omega, i + 1, by omega, ?_⟩
      simp only [↓R0, R1, simprocAttr, -Int.reduceAbs, t5, t0, t2, t3]
      refine ⟨?_, fun k hk => ?_⟩
      · exact congrArg (fun C => some (⟨29, 36, true, C⟩ : Blk)) ps
      · rw [if_neg (by omega)]; exact hh k hk
    · have e : i = 12 := by omega
      subst e
      have c1 : (((12 : Nat) : Int) < 12) = False := eq_false (by omega)
      have pl := mE_len (fun i => (p i).v)
      have po := mE_ok (fun i => (p i).v)
      have p0 := part12_len (fun i => (p i).v) (Nat.zero_le 12)
      have sa := setR_all (mE (fun i => (p i).v)) (part12 (fun i => (p i).v) 0) (by rw [pl, p0])
      have tk : (mE (fun i => (p i).v)).take 36 = mE (fun i => (p i).v) := List.take_of_length_le (by omega)
      rw [part12_end] at b1
      simp only [↓R0, R1, simprocAttr, -Int.reduceAbs, t5, t0, t2, t3, b0, b1, c1, pl, po, p0, sa, tk, Fin, isEnd, resL, res1, iE, rE]
      refine ⟨_, rfl, rfl, fun k hk => ?_⟩
      rw [if_neg (by omega)]; exact hh k hk
  · (first | (simp only [↓R0, R1, simprocAttr, -Int.reduceAbs]; done) | (simp only [↓R0, R1, simprocAttr, -Int.reduceAbs]; rfl) | rfl)
  · (first | (simp only [↓R0, R1, simprocAttr, -Int.reduceAbs]; done) | (simp only [↓R0, R1, simprocAttr, -Int.reduceAbs]; rfl) | rfl)
  · (first | (simp only [↓R0, R1, simprocAttr, -Int.reduceAbs]; done) | (simp only [↓R0, R1, simprocAttr, -Int.reduceAbs]; rfl) | rfl)
  · (first | (simp only [↓R0, R1, simprocAttr, -Int.reduceAbs]; done) | (simp only [↓R0, R1, simprocAttr, -Int.reduceAbs]; rfl) | rfl)
  · simp only [↓R0, R1, simprocAttr, -Int.reduceAbs]; rfl
  · simp only [↓R0, R1, simprocAttr, -Int.reduceAbs]; rfl
  · intro k hk
    simp only [↓R0, R1, simprocAttr, -Int.reduceAbs]
    rw [if_neg (by omega), if_neg (by omega)]
end Go.Eng
end
section
set_option linter.unusedVariables false
set_option linter.unusedSimpArgs false
set_option linter.unusedSectionVars false
namespace Go.Eng
def idM (i : Nat) : Rat := if i / 4 = i % 4 then 1 else 0
def arrOf (n : Nat) (cs : List Value) : Option (Nat → RQ) := match ratsOf cs with
  | some l => if l.length = n then some (fun i => (l[i]?).getD RQ.zero) else none
  | none => none
theorem arrOf_spec {n : Nat} {cs : List Value} {p : Nat → RQ} (h : arrOf n cs = some p) : cs.length = n * 3 ∧ (∀ i, i < n → (cs.drop (i * 3)).take 3 = (p i).cells) ∧ cs.all okCell = true := by
  unfold arrOf at h
  split at h
  · rename_i l hl
    split at h
    · rename_i hlen
      cases h
      have e := ratsOf_eq hl
      subst e
      refine ⟨by rw [rqs_length, hlen], fun i hi => ?_, ?_⟩
      · have : l[i]? = some l[i] := List.getElem?_eq_getElem (by omega)
        rw [rqs_at l i _ this]; simp only [this]; rfl
      · rw [List.all_eq_true]
        intro v hv
        unfold rqs at hv
        rw [List.mem_flatMap] at hv
        obtain ⟨q, _, hq⟩ := hv
        simp [RQ.cells] at hq
        rcases hq with rfl | rfl | rfl <;> rfl
    · cases h
  · cases h
def rotQ (x i : Nat) : Rat :=
  if i / 4 = (x + 2) % 3 ∧ i % 4 = (x + 1) % 3 then 1 else if i / 4 = (x + 1) % 3 ∧ i % 4 = (x + 2) % 3 then -1 else if i / 4 = x ∧ i % 4 = x then 1 else 0
def rotM (x : Nat) : Nat → Nat → Rat
  | 0 => idM
  | n + 1 => compM (rotQ x) (rotM x n)
theorem rot_vals : ∀ x, x < 3 → ∀ n, n < 6 → ∀ i, i < 12 → rotM x n i = 0 ∨ rotM x n i = 1 ∨ rotM x n i = -1 := by decide +kernel
theorem rotQ_vals (x i : Nat) : rotQ x i = 0 ∨ rotQ x i = 1 ∨ rotQ x i = -1 := by
  unfold rotQ; split
  · exact .inr (.inl rfl)
  · split
    · exact .inr (.inr rfl)
    · split
      · exact .inr (.inl rfl)
      · exact .inl rfl
theorem RB.unit {q : Rat} (h : q = 0 ∨ q = 1 ∨ q = -1) : RB q 1 := by
  rcases h with rfl | rfl | rfl
  · exact RB.zero
  · exact RB.one
  · exact RB.one.neg
def minorM (f : Nat → Rat) (r c : Nat) : Rat := f (4 * ((r + 1) % 3) + (c + 1) % 3) * f (4 * ((r + 2) % 3) + (c + 2) % 3) - f (4 * ((r + 1) % 3) + (c + 2) % 3) * f (4 * ((r + 2) % 3) + (c + 1) % 3)
def detM (f : Nat → Rat) : Rat := dotN f (fun k => minorM f 0 k) 3
def innM (f : Nat → Rat) (i : Nat) : Rat := if i % 4 = 3 then 0 else minorM f (i % 4) (i / 4) / detM f
def invM (f : Nat → Rat) (i : Nat) : Rat := if i % 4 < 3 then innM f i else -dotN (fun k => innM f (4 * (i / 4) + k)) (fun k => f (4 * k + 3)) 3
theorem minorM_RB {f : Nat → Rat} {i : Nat} (h : ∀ k, k < 12 → RB (f k) i) (r c : Nat) : RB (minorM f r c) (4 * i + 1) :=
  ((h _ (by omega)).mul (h _ (by omega)) (k := 2 * i) (by omega)).sub ((h _ (by omega)).mul (h _ (by omega)) (k := 2 * i) (by omega)) (by omega)
theorem detM_RB {f : Nat → Rat} {i : Nat} (h : ∀ k, k < 12 → RB (f k) i) : RB (detM f) (15 * i + 7) :=
  dotN_RB (fun k hk => h k (by omega)) (fun k hk => minorM_RB h 0 k) (by omega)
theorem innM_RB {f : Nat → Rat} {i : Nat} (h : ∀ k, k < 12 → RB (f k) i) : ∀ k, RB (innM f k) (19 * i + 8) := fun k => by
  unfold innM; split
  · exact RB.zero.le (by omega)
  · exact (minorM_RB h _ _).div (detM_RB h) (by omega) (by omega)
theorem invM_RB {f : Nat → Rat} {i : Nat} (h : ∀ k, k < 12 → RB (f k) i) : ∀ k, k < 12 → RB (invM f k) (60 * i + 28) := fun k hk => by
  unfold invM; split
  · exact (innM_RB h k).le (by omega)
  · exact (dotN_RB (fun q hq => innM_RB h _) (fun q hq => h _ (by omega)) (by omega)).neg
def vec4 (x y z : Rat) (k : Nat) : Rat := if k = 0 then x else if k = 1 then y else if k = 2 then z else 1
def appM (f : Nat → Rat) (x y z : Rat) (i : Nat) : Rat := dotN (fun k => f (4 * i + k)) (vec4 x y z) 4
theorem appM_RB {f : Nat → Rat} {x y z : Rat} {i j : Nat} (h : ∀ k, k < 12 → RB (f k) i) (hx : RB x j) (hy : RB y j) (hz : RB z j) (hj : 1 ≤ j) {n : Nat} (hn : n < 3) : RB (appM f x y z n) (4 * (i + j + 1) + 1) := by
  refine dotN_RB (i := i) (j := j) (fun k hk => h _ (by omega)) (fun k hk => ?_) (by omega)
  unfold vec4
  split
  · exact hx
  · split
    · exact hy
    · split
      · exact hz
      · exact RB.one.le hj
def nrm (a b c d : Rat) (k : Nat) : Rat := if k = 0 then a else if k = 1 then b else if k = 2 then c else -d
def reflM (a b c d : Rat) (i : Nat) : Rat := idM i - (2 * (nrm a b c d (i / 4) * nrm a b c d (i % 4))) / dotN (nrm a b c d) (nrm a b c d) 3
end Go.Eng
end
section
set_option linter.unusedVariables false
set_option linter.unusedSimpArgs false
set_option linter.unusedSectionVars false
set_option maxRecDepth 20000
namespace Go.Eng
open Go Go.Proofs Go.IntWalk
theorem rv0 : rv false [] [] = 0 := RQ.zero_v
theorem qcells (q : RQ) : q.cells = [.bool q.s, .string ⟨⟨q.n⟩⟩, .string ⟨⟨q.d⟩⟩] := rfl
theorem cells_len (q : RQ) : q.cells.length = 3 := rfl
theorem one_one : ((1 : Int) : Rat) = 1 := rfl
def spAone : List Value → Option Value
  | [.int .i64 r, .int .i64 c] => some (.agg ⟨rE (if r = c then 1 else 0)⟩)
  | _ => none
def c46 : ICode :=
  (.seq (.reg [qq 4 (.alloc 23 3 [(.bool false), e0, e0])]) (.seq (.seq (.reg [qq 5 (.mv (.t 0)), qq 6 (.mv (.t 1)), qq 7 (.bin .eql (.t 5) (.t 6))]) (.cond (.t 7) (.seq (.reg [qq 8 (.call 27 [(ci 1)]), qn (.store 3 (.t 4) (.t 8))]) .ret) .skip)) (.seq (.reg [qq 9 (.build [(.bool false), e0, e0] []), qn (.store 3 (.t 4) (.t 9))]) .ret)))
theorem tr46 : trFun Tryz.prog 46 = some ⟨10, [.cell 4 true 3], c46⟩ := by kernel_rfl
theorem ok_Aone : SpecOK Tryz.prog 46 (flat spAone) := by
  refine flat_run (env_cons ok_qFrom (env_nil _)) mixed tr46 ?_
  intro args v h N hG
  unfold spAone at hG
  split at hG
  case h_2 => cases hG
  rename_i r c
  cases hG
  refine ⟨rfl, by simp, ?_⟩
  by_cases e : r = c
  · simp only [c46, G0, Nat.reduceAdd]
    simp only [↓R0, R1, simprocAttr, -Int.reduceAbs, e, spQFrom, one_one, Fin, isEnd, resL, res1, iE, rE]
    exact ⟨_, rfl, rfl, fun k hk => by simp only [ne_nb hk, if_false]⟩
  · rw [if_neg e, rE_zero]
    simp only [c46, G0, Nat.reduceAdd]
    simp only [↓R0, R1, simprocAttr, -Int.reduceAbs, e, Fin, isEnd, resL, res1, iE, rE]
    exact ⟨_, rfl, rfl, fun k hk => by simp only [ne_nb hk, if_false]⟩
def spAid : List Value → Option Value
  | [] => some (.agg ⟨mE idM⟩)
  | _ => none
def c17 : ICode :=
  (.seq (.reg [qq 0 (.alloc 29 36 [(.bool false), e0, e0, (.bool false), e0, e0, (.bool false), e0, e0, (.bool false), e0, e0, (.bool false), e0, e0, (.bool false), e0, e0, (.bool false), e0, e0, (.bool false), e0, e0, (.bool false), e0, e0, (.bool false), e0, e0, (.bool false), e0, e0, (.bool false), e0, e0])]) (.seq (.reg [qq 1 (.call 42 [(.c (.func (.func 46) ⟨[]⟩ ⟨[]⟩))]), qn (.store 36 (.t 0) (.t 1))]) .ret))
theorem tr17 : trFun Tryz.prog 17 = some ⟨2, [.cell 0 true 36], c17⟩ := by kernel_rfl
theorem Aof_id (h : Heap) : spAof [(46, fun a _ => spAone a)] [.func (.func 46) ⟨[]⟩ ⟨[]⟩] h = some (.agg ⟨mE idM⟩) := by
  rw [spAof_mk (p := fun i => RQ.of (idM i)) (by decide) (fun i hi => ?_)]
  · rw [mE_congr (fun i hi => RQ.of_v (idM i))]
  · refine ⟨?_, (RQ.of_ok (k := 1) ?_).le (by omega)⟩
    · simp only [List.append_nil, getL, if_true, spAone, RQ.of_cells, Int.ofNat_inj]; rfl
    · unfold idM; split; exact RB.one; exact RB.zero
theorem ok_Aid : SpecOK Tryz.prog 17 (flat spAid) := by
  refine flat_run (env_cons (ok_Aof (L := [(46, fun a _ => spAone a)]) (env_cons ok_Aone (env_nil _))) (env_nil _)) mixed tr17 ?_
  intro args v h N hG
  unfold spAid at hG
  split at hG
  case h_2 => cases hG
  cases hG
  refine ⟨mE_base idM, by simp, ?_⟩
  have pl := mE_len idM
  have po := mE_ok idM
  have sa := setR_all (mE idM) (part12 idM 0) (by rw [pl, part12_len _ (Nat.zero_le _)])
  rw [part12_zero] at sa
  have tk : (mE idM).take 36 = mE idM := List.take_of_length_le (by omega)
  simp only [c17, G0, Nat.reduceAdd]
  simp only [↓R0, R1, simprocAttr, -Int.reduceAbs, Aof_id, rdS, pl, po, setR_all, tk, part12_zero, sa, Fin, isEnd, resL, res1, iE, rE]
  exact ⟨_, rfl, rfl, fun k hk => by simp only [ne_nb hk, if_false]⟩
def spAat : List Value → Option Value
  | [.agg ⟨cs⟩, .int .i64 r, .int .i64 c] => match mapOf cs with
    | some p => if (0 ≤ r ∧ r < 4) ∧ 0 ≤ c ∧ c < 4 then some (.agg ⟨(atQ p r.toNat c.toNat).cells⟩) else none
    | none => none
  | _ => none
def c50 : ICode :=
  (.seq (.reg [qq 3 (.box 29 36 (.t 0)), qq 6 (.alloc 23 3 [(.bool false), e0, e0])]) (.seq (.block 0 (.seq (.reg [qq 8 (.mv (.t 1)), qq 9 (.bin .lss (.t 8) (ci 3)), qq 7 (.mv (.t 9))]) (.cond (.t 7) (.seq (.reg [qq 10 (.mv (.t 1)), qq 11 (.bin .mul (ci 4) (.t 10)), qq 12 (.mv (.t 2)), qq 13 (.bin .add (.t 11) (.t 12)), qq 14 (.ixarr 12 3 (.t 3) (.t 13)), qq 15 (.load true 3 (.t 14)), qn (.store 3 (.t 6) (.t 15))]) .ret) (.seq (.reg [qq 17 (.mv (.t 2)), qq 18 (.bin .eql (.t 17) (ci 3)), qq 16 (.mv (.t 18))]) (.cond (.t 16) (.seq (.reg [qq 19 (.call 27 [(ci 1)]), qn (.store 3 (.t 6) (.t 19))]) .ret) .skip))))) (.seq (.reg [qq 20 (.build [(.bool false), e0, e0] []), qn (.store 3 (.t 6) (.t 20))]) .ret)))
theorem tr50 : trFun Tryz.prog 50 = some ⟨21, [.cell 6 true 3], c50⟩ := by kernel_rfl
theorem ok_Aat : SpecOK Tryz.prog 50 (flat spAat) := by
  refine flat_run (env_cons ok_qFrom (env_nil _)) mixed tr50 ?_
  intro args v h N hG
  unfold spAat at hG
  split at hG
  case h_2 => cases hG
  rename_i cs r c
  split at hG
  case h_2 => cases hG
  rename_i p hp
  split at hG
  case isFalse => cases hG
  rename_i hl
  obtain ⟨⟨hr0, hr⟩, hc0, hc⟩ := hl
  obtain ⟨r, rfl⟩ := Int.eq_ofNat_of_zero_le hr0
  obtain ⟨c, rfl⟩ := Int.eq_ofNat_of_zero_le hc0
  simp only [Int.toNat_natCast] at hG
  cases hG
  obtain ⟨hlen, hat, hok⟩ := mapOf_spec hp
  refine ⟨rfl, by simp, ?_⟩
  unfold atQ
  by_cases c1 : r < 3
  · have c1' : ((r : Int) < 3) = True := eq_true (by omega)
    have e1 : IntKind.i64.wrap (4 * (r : Int)) = ((4 * r : Nat) : Int) := by rw [i64_in _ (by omega)]; omega
    have e2 : IntKind.i64.wrap (((4 * r : Nat) : Int) + (c : Int)) = ((4 * r + c : Nat) : Int) := by rw [i64_in _ (by omega)]; omega
    have w0 : (4 * r + c < 12) = True := eq_true (by omega)
    have w0' : (((4 * r + c : Nat) : Int) < 12) = True := eq_true (by omega)
    have w1 : ((4 * r + c) * 3 + 3 ≤ 36) = True := eq_true (by omega)
    have w2 := hat (4 * r + c) (by omega)
    rw [qcells] at w2
    simp only [c50, G0, Nat.reduceAdd]
    simp only [↓R0, R1, simprocAttr, -Int.reduceAbs, c1, c1', e1, e2, w0, w0', hlen, w1, w2, qcells, Fin, isEnd, resL, res1, iE, rE]
    exact ⟨_, rfl, rfl, fun k hk => by simp only [ne_nb hk, if_false]⟩
  · have c1' : ((r : Int) < 3) = False := eq_false (by omega)
    by_cases c2 : c = 3
    · subst c2
      simp only [c50, G0, Nat.reduceAdd]
      simp only [↓R0, R1, simprocAttr, -Int.reduceAbs, c1, c1', spQFrom, one_one, RQ.of, qcells, Fin, isEnd, resL, res1, iE, rE]
      exact ⟨_, rfl, rfl, fun k hk => by simp only [ne_nb hk, if_false]⟩
    · have c2' : ((c : Int) = 3) = False := eq_false (by omega)
      simp only [c50, G0, Nat.reduceAdd]
      simp only [↓R0, R1, simprocAttr, -Int.reduceAbs, c1, c1', c2, c2', RQ.zero, qcells, Fin, isEnd, resL, res1, iE, rE]
      exact ⟨_, rfl, rfl, fun k hk => by simp only [ne_nb hk, if_false]⟩
def mapOk (k : Nat) (p : Nat → RQ) : Prop := ((List.range 12).all fun i => decide ((p i).ok k)) = true
instance {k : Nat} {p : Nat → RQ} : Decidable (mapOk k p) := by unfold mapOk; infer_instance
theorem mapOk_iff {k : Nat} {p : Nat → RQ} : mapOk k p ↔ ∀ i, i < 12 → (p i).ok k := by
  unfold mapOk; rw [List.all_eq_true]
  exact ⟨fun h i hi => of_decide_eq_true (h i (List.mem_range.2 hi)), fun h i hi => decide_eq_true (h i (List.mem_range.1 hi))⟩
def spAcomp1 : List Value → Heap → Option Value
  | [.int .i64 r, .int .i64 c, .pointer (some ⟨k1, 0, none⟩), .pointer (some ⟨k2, 0, none⟩)], h => match hget h k1, hget h k2 with
    | some ⟨_, _, _, cs1⟩, some ⟨_, _, _, cs2⟩ => match mapOf cs1, mapOf cs2 with
      | some p, some q => if (0 ≤ r ∧ r < 4 ∧ 0 ≤ c ∧ c < 4) ∧ mapOk 1048576 p ∧ mapOk 1048576 q then
          some (.agg ⟨rE (dotN (fun k => (atQ p r.toNat k).v) (fun k => (atQ q k c.toNat).v) 4)⟩) else none
      | _, _ => none
    | _, _ => none
  | _, _ => none
def c48 : ICode :=
  (.seq (.reg [qq 6 (.alloc 23 3 [(.bool false), e0, e0])]) (.seq (.reg [qq 7 (.alloc 23 3 [(.bool false), e0, e0])]) (.seq (.seq (.reg [qq 9 (.mv (ci 0))]) (.block 0 (.loop (.seq (.reg [qq 10 (.bin .lss (.t 9) (ci 4))]) (.seq (.cond (.t 10) .skip (.exit 0)) (.seq (.block 1 (.seq (.reg [qq 11 (.mv (.t 9)), qq 8 (.mv (.t 11))]) (.dreg [qu 12 (.load true 3 (.t 7)), qu 13 (.load true 36 (.t 2)), qu 14 (.mv (.t 0)), qu 15 (.mv (.t 8)), qu 16 (.call 50 [(.t 13), (.t 14), (.t 15)]), qv 17 [4] (.load true 36 (.t 3)), qu 18 (.mv (.t 8)), qu 19 (.mv (.t 1)), qu 20 (.call 50 [(.t 17), (.t 18), (.t 19)]), qu 21 (.call 23 [(.t 16), (.t 20)]), qu 22 (.call 49 [(.t 12), (.t 21)]), qm (.store 3 (.t 7) (.t 22))]))) (.reg [qq 23 (.bin .add (.t 9) (ci 1)), qq 9 (.mv (.t 23))]))))))) (.seq (.reg [qq 24 (.load true 3 (.t 7)), qn (.store 3 (.t 6) (.t 24))]) .ret))))
theorem tr48 : trFun Tryz.prog 48 = some ⟨25, [.cell 6 true 3], c48⟩ := by kernel_rfl
set_option maxHeartbeats 2000000 in
theorem ok_Acomp1 : SpecOK Tryz.prog 48 (rdS spAcomp1) := by
  refine rd_run (env_cons ok_Aat (env_cons ok_qMul (env_cons ok_qAdd (env_nil _)))) mixed tr48 ?_ ?_
  · intro args h h' v hle e
    unfold spAcomp1 at e ⊢
    split at e
    · split at e
      · rename_i b1 b2
        simp only [hle _ _ b1, hle _ _ b2]; exact e
      · cases e
    · cases e
  intro args v h N hG hN
  unfold spAcomp1 at hG
  split at hG
  case h_2 => cases hG
  rename_i r c k1 k2
  split at hG
  case h_2 => cases hG
  rename_i e1 z1 x1 cs1 e2 z2 x2 cs2 hb1 hb2
  split at hG
  case h_2 => cases hG
  rename_i p q hp hq
  split at hG
  case isFalse => cases hG
  rename_i hl
  obtain ⟨⟨hr0, hr, hc0, hc⟩, hop, hoq⟩ := hl
  obtain ⟨r, rfl⟩ := Int.eq_ofNat_of_zero_le hr0
  obtain ⟨c, rfl⟩ := Int.eq_ofNat_of_zero_le hc0
  simp only [Int.toNat_natCast] at hG
  cases hG
  obtain ⟨l1, _, o1⟩ := mapOf_spec hp
  obtain ⟨l2, _, o2⟩ := mapOf_spec hq
  rw [mapOk_iff] at hop hoq
  refine ⟨rfl, by simp, ?_⟩
  have n1 := hN _ _ hb1
  have n2 := hN _ _ hb2
  have ne1 : ∀ j, (N + j = k1) = False := fun j => eq_false (by omega)
  have ne2 : ∀ j, (N + j = k2) = False := fun j => eq_false (by omega)
  have t1 : cs1.take 36 = cs1 := List.take_of_length_le (by omega)
  have t2 : cs2.take 36 = cs2 := List.take_of_length_le (by omega)
  have hr' : ((r : Int) < 4) = True := eq_true (by omega)
  have hc' : ((c : Int) < 4) = True := eq_true (by omega)
  have A0 := (atQ_ok hop (by omega) (r := r) (c := 0) (by omega) (by omega))
  have B0 := (atQ_ok hoq (by omega) (r := 0) (c := c) (by omega) (by omega))
  have A1 := (atQ_ok hop (by omega) (r := r) (c := 1) (by omega) (by omega))
  have B1 := (atQ_ok hoq (by omega) (r := 1) (c := c) (by omega) (by omega))
  have A2 := (atQ_ok hop (by omega) (r := r) (c := 2) (by omega) (by omega))
  have B2 := (atQ_ok hoq (by omega) (r := 2) (c := c) (by omega) (by omega))
  have A3 := (atQ_ok hop (by omega) (r := r) (c := 3) (by omega) (by omega))
  have B3 := (atQ_ok hoq (by omega) (r := 3) (c := c) (by omega) (by omega))
  have S0 := RB.zero
  obtain ⟨a0, ea0⟩ : ∃ z, atQ p r 0 = z := ⟨_, rfl⟩
  obtain ⟨b0, eb0⟩ : ∃ z, atQ q 0 c = z := ⟨_, rfl⟩
  rw [ea0] at A0
  rw [eb0] at B0
  have a0n := Nat.le_trans A0.1 (by omega : 1048576 ≤ 8589934592)
  have a0d := Nat.le_trans A0.2 (by omega : 1048576 ≤ 8589934592)
  have b0n := Nat.le_trans B0.1 (by omega : 1048576 ≤ 8589934592)
  have b0d := Nat.le_trans B0.2 (by omega : 1048576 ≤ 8589934592)
  have P0 : RB (rv a0.s a0.n a0.d * rv b0.s b0.n b0.d) 2097154 := A0.rb.mul B0.rb (by omega)
  have p0n := P0.num (k := 8589934592) (by omega)
  have p0d := P0.den (k := 8589934592) (by omega)
  have S1 : RB (0 + rv a0.s a0.n a0.d * rv b0.s b0.n b0.d) 2097156 := S0.add P0 (by omega)
  have s1n := S1.num (k := 8589934592) (by omega)
  have s1d := S1.den (k := 8589934592) (by omega)
  obtain ⟨a1, ea1⟩ : ∃ z, atQ p r 1 = z := ⟨_, rfl⟩
  obtain ⟨b1, eb1⟩ : ∃ z, atQ q 1 c = z := ⟨_, rfl⟩
  rw [ea1] at A1
  rw [eb1] at B1
  have a1n := Nat.le_trans A1.1 (by omega : 1048576 ≤ 8589934592)
  have a1d := Nat.le_trans A1.2 (by omega : 1048576 ≤ 8589934592)
  have b1n := Nat.le_trans B1.1 (by omega : 1048576 ≤ 8589934592)
  have b1d := Nat.le_trans B1.2 (by omega : 1048576 ≤ 8589934592)
  have P1 : RB (rv a1.s a1.n a1.d * rv b1.s b1.n b1.d) 2097154 := A1.rb.mul B1.rb (by omega)
  have p1n := P1.num (k := 8589934592) (by omega)
  have p1d := P1.den (k := 8589934592) (by omega)
  have S2 : RB (0 + rv a0.s a0.n a0.d * rv b0.s b0.n b0.d + rv a1.s a1.n a1.d * rv b1.s b1.n b1.d) 4194311 := S1.add P1 (by omega)
  have s2n := S2.num (k := 8589934592) (by omega)
  have s2d := S2.den (k := 8589934592) (by omega)
  obtain ⟨a2, ea2⟩ : ∃ z, atQ p r 2 = z := ⟨_, rfl⟩
  obtain ⟨b2, eb2⟩ : ∃ z, atQ q 2 c = z := ⟨_, rfl⟩
  rw [ea2] at A2
  rw [eb2] at B2
  have a2n := Nat.le_trans A2.1 (by omega : 1048576 ≤ 8589934592)
  have a2d := Nat.le_trans A2.2 (by omega : 1048576 ≤ 8589934592)
  have b2n := Nat.le_trans B2.1 (by omega : 1048576 ≤ 8589934592)
  have b2d := Nat.le_trans B2.2 (by omega : 1048576 ≤ 8589934592)
  have P2 : RB (rv a2.s a2.n a2.d * rv b2.s b2.n b2.d) 2097154 := A2.rb.mul B2.rb (by omega)
  have p2n := P2.num (k := 8589934592) (by omega)
  have p2d := P2.den (k := 8589934592) (by omega)
  have S3 : RB (0 + rv a0.s a0.n a0.d * rv b0.s b0.n b0.d + rv a1.s a1.n a1.d * rv b1.s b1.n b1.d + rv a2.s a2.n a2.d * rv b2.s b2.n b2.d) 6291466 := S2.add P2 (by omega)
  have s3n := S3.num (k := 8589934592) (by omega)
  have s3d := S3.den (k := 8589934592) (by omega)
  obtain ⟨a3, ea3⟩ : ∃ z, atQ p r 3 = z := ⟨_, rfl⟩
  obtain ⟨b3, eb3⟩ : ∃ z, atQ q 3 c = z := ⟨_, rfl⟩
  rw [ea3] at A3
  rw [eb3] at B3
  have a3n := Nat.le_trans A3.1 (by omega : 1048576 ≤ 8589934592)
  have a3d := Nat.le_trans A3.2 (by omega : 1048576 ≤ 8589934592)
  have b3n := Nat.le_trans B3.1 (by omega : 1048576 ≤ 8589934592)
  have b3d := Nat.le_trans B3.2 (by omega : 1048576 ≤ 8589934592)
  have P3 : RB (rv a3.s a3.n a3.d * rv b3.s b3.n b3.d) 2097154 := A3.rb.mul B3.rb (by omega)
  have p3n := P3.num (k := 8589934592) (by omega)
  have p3d := P3.den (k := 8589934592) (by omega)
  have S4 : RB (0 + rv a0.s a0.n a0.d * rv b0.s b0.n b0.d + rv a1.s a1.n a1.d * rv b1.s b1.n b1.d + rv a2.s a2.n a2.d * rv b2.s b2.n b2.d + rv a3.s a3.n a3.d * rv b3.s b3.n b3.d) 8388621 := S3.add P3 (by omega)
  have s4n := S4.num (k := 8589934592) (by omega)
  have s4d := S4.den (k := 8589934592) (by omega)
  have eD : dotN (fun k => (atQ p r k).v) (fun k => (atQ q k c).v) 4 = 0 + rv a0.s a0.n a0.d * rv b0.s b0.n b0.d + rv a1.s a1.n a1.d * rv b1.s b1.n b1.d + rv a2.s a2.n a2.d * rv b2.s b2.n b2.d + rv a3.s a3.n a3.d * rv b3.s b3.n b3.d := by simp only [dotN, ea0, eb0, ea1, eb1, ea2, eb2, ea3, eb3]; rfl
  rw [eD]
  simp only [c48, G0, Nat.reduceAdd]
  simp only [↓R0, R1, simprocAttr, -Int.reduceAbs]
  refine lp_step ?_
  simp only [↓R0, R1, simprocAttr, -Int.reduceAbs, spAat, qcells, rv0, spQMul, spQAdd, rE, rv_can, ne1, ne2, hb1, hb2, l1, l2, t1, t2, hr', hc', hp, hq, hr, hc, ea0, eb0, a0n, a0d, b0n, b0d, p0n, p0d, s1n, s1d, ea1, eb1, a1n, a1d, b1n, b1d, p1n, p1d, s2n, s2d, ea2, eb2, a2n, a2d, b2n, b2d, p2n, p2d, s3n, s3d, ea3, eb3, a3n, a3d, b3n, b3d, p3n, p3d, s4n, s4d]
  refine lp_step ?_
  simp only [↓R0, R1, simprocAttr, -Int.reduceAbs, spAat, qcells, rv0, spQMul, spQAdd, rE, rv_can, ne1, ne2, hb1, hb2, l1, l2, t1, t2, hr', hc', hp, hq, hr, hc, ea0, eb0, a0n, a0d, b0n, b0d, p0n, p0d, s1n, s1d, ea1, eb1, a1n, a1d, b1n, b1d, p1n, p1d, s2n, s2d, ea2, eb2, a2n, a2d, b2n, b2d, p2n, p2d, s3n, s3d, ea3, eb3, a3n, a3d, b3n, b3d, p3n, p3d, s4n, s4d]
  refine lp_step ?_
  simp only [↓R0, R1, simprocAttr, -Int.reduceAbs, spAat, qcells, rv0, spQMul, spQAdd, rE, rv_can, ne1, ne2, hb1, hb2, l1, l2, t1, t2, hr', hc', hp, hq, hr, hc, ea0, eb0, a0n, a0d, b0n, b0d, p0n, p0d, s1n, s1d, ea1, eb1, a1n, a1d, b1n, b1d, p1n, p1d, s2n, s2d, ea2, eb2, a2n, a2d, b2n, b2d, p2n, p2d, s3n, s3d, ea3, eb3, a3n, a3d, b3n, b3d, p3n, p3d, s4n, s4d]
  refine lp_step ?_
  simp only [↓R0, R1, simprocAttr, -Int.reduceAbs, spAat, qcells, rv0, spQMul, spQAdd, rE, rv_can, ne1, ne2, hb1, hb2, l1, l2, t1, t2, hr', hc', hp, hq, hr, hc, ea0, eb0, a0n, a0d, b0n, b0d, p0n, p0d, s1n, s1d, ea1, eb1, a1n, a1d, b1n, b1d, p1n, p1d, s2n, s2d, ea2, eb2, a2n, a2d, b2n, b2d, p2n, p2d, s3n, s3d, ea3, eb3, a3n, a3d, b3n, b3d, p3n, p3d, s4n, s4d]
  refine lp_step ?_
  simp only [↓R0, R1, simprocAttr, -Int.reduceAbs, ne1, ne2, hb1, hb2, l1, l2, t1, t2, hr', hc', hp, hq, hr, hc, ea0, eb0, a0n, a0d, b0n, b0d, p0n, p0d, s1n, s1d, ea1, eb1, a1n, a1d, b1n, b1d, p1n, p1d, s2n, s2d, ea2, eb2, a2n, a2d, b2n, b2d, p2n, p2d, s3n, s3d, ea3, eb3, a3n, a3d, b3n, b3d, p3n, p3d, s4n, s4d, Fin, isEnd, resL, res1, iE, rE]
  exact ⟨_, rfl, rfl, fun k hk => by simp only [ne_nb hk, if_false]⟩
theorem Aof_comp {h : Heap} {k1 k2 : Nat} {e1 z1 x1 cs1 e2 z2 x2 cs2} {p q : Nat → RQ} (hb1 : hget h k1 = some ⟨e1, z1, x1, cs1⟩) (hb2 : hget h k2 = some ⟨e2, z2, x2, cs2⟩) (hp : mapOf cs1 = some p) (hq : mapOf cs2 = some q) (hop : mapOk 1048576 p) (hoq : mapOk 1048576 q) :
    spAof [(48, spAcomp1)] [.func (.func 48) #[] ⟨[.pointer (some ⟨k1, 0, none⟩), .pointer (some ⟨k2, 0, none⟩)]⟩] h = some (.agg ⟨mE (compM (fun i => (p i).v) (fun i => (q i).v))⟩) := by
  have e : ∀ i, compM (fun i => (p i).v) (fun i => (q i).v) i = dotN (fun k => (atQ p (i / 4) k).v) (fun k => (atQ q k (i % 4)).v) 4 := fun i => by
    unfold compM; simp only [atQ_v]
  have r := compM_RB (f := fun i => (p i).v) (g := fun i => (q i).v) (fun k hk => (mapOk_iff.1 hop k hk).rb) (fun k hk => (mapOk_iff.1 hoq k hk).rb) (by omega) (by omega) (Nat.le_refl _)
  rw [show (#[] : Array Value) = ⟨[]⟩ from rfl, spAof_mk (p := fun i => RQ.of (compM (fun i => (p i).v) (fun i => (q i).v) i)) (by decide) (fun i hi => ?_)]
  · rw [mE_congr (fun i hi => RQ.of_v _)]
  · refine ⟨?_, (RQ.of_ok (r i hi)).le (by omega)⟩
    simp only [List.cons_append, List.nil_append, getL, if_true, spAcomp1, hb1, hb2, hp, hq, RQ.of_cells]
    rw [if_pos ⟨⟨by omega, by omega, by omega, by omega⟩, hop, hoq⟩, e i]; rfl
def spAcomp : List Value → Option Value
  | [.agg ⟨cs1⟩, .agg ⟨cs2⟩] => match mapOf cs1, mapOf cs2 with
    | some p, some q => if mapOk 1048576 p ∧ mapOk 1048576 q then some (.agg ⟨mE (compM (fun i => (p i).v) (fun i => (q i).v))⟩) else none
    | _, _ => none
  | _ => none
def c16 : ICode :=
  (.seq (.reg [qq 2 (.box 29 36 (.t 0)), qq 3 (.box 29 36 (.t 1)), qq 4 (.alloc 29 36 [(.bool false), e0, e0, (.bool false), e0, e0, (.bool false), e0, e0, (.bool false), e0, e0, (.bool false), e0, e0, (.bool false), e0, e0, (.bool false), e0, e0, (.bool false), e0, e0, (.bool false), e0, e0, (.bool false), e0, e0, (.bool false), e0, e0, (.bool false), e0, e0])]) (.seq (.reg [qq 5 (.mkfn 48 [(.t 2), (.t 3)]), qq 6 (.call 42 [(.t 5)]), qn (.store 36 (.t 4) (.t 6))]) .ret))
theorem tr16 : trFun Tryz.prog 16 = some ⟨7, [.cell 4 true 36], c16⟩ := by kernel_rfl
theorem ok_Acomp : SpecOK Tryz.prog 16 (flat spAcomp) := by
  refine flat_run (env_cons (ok_Aof (L := [(48, spAcomp1)]) (env_cons ok_Acomp1 (env_nil _))) (env_nil _)) mixed tr16 ?_
  intro args v h N hG
  unfold spAcomp at hG
  split at hG
  case h_2 => cases hG
  rename_i cs1 cs2
  split at hG
  case h_2 => cases hG
  rename_i p q hp hq
  split at hG
  case isFalse => cases hG
  rename_i hl
  cases hG
  have hc := fun (hp' : Heap) (b1 : hget hp' (N + 0) = some ⟨29, 36, true, cs1⟩) (b2 : hget hp' (N + 1) = some ⟨29, 36, true, cs2⟩) => Aof_comp b1 b2 hp hq hl.1 hl.2
  generalize compM (fun i => (p i).v) (fun i => (q i).v) = f at *
  refine ⟨mE_base f, by simp, ?_⟩
  have pl := mE_len f
  have po := mE_ok f
  have sa := setR_all (mE f) (part12 f 0) (by rw [pl, part12_len _ (Nat.zero_le _)])
  rw [part12_zero] at sa
  have tk : (mE f).take 36 = mE f := List.take_of_length_le (by omega)
  have b1 : ∀ z h, hget ((N + 2, z) :: (N + 1, some ⟨29, 36, true, cs2⟩) :: (N + 0, some ⟨29, 36, true, cs1⟩) :: h) (N + 0) = some ⟨29, 36, true, cs1⟩ := fun z h => by simp [hget]
  have b2 : ∀ z h, hget ((N + 2, z) :: (N + 1, some ⟨29, 36, true, cs2⟩) :: (N + 0, some ⟨29, 36, true, cs1⟩) :: h) (N + 1) = some ⟨29, 36, true, cs2⟩ := fun z h => by simp [hget]
  have hc' := fun z h => hc _ (b1 z h) (b2 z h)
  simp only [c16, G0, Nat.reduceAdd]
  simp only [↓R0, R1, simprocAttr, -Int.reduceAbs, rdS, hc', pl, po, tk, sa, Fin, isEnd, resL, res1, iE, rE]
  exact ⟨_, rfl, rfl, fun k hk => by simp only [ne_nb hk, if_false]⟩
end Go.Eng
end
section
set_option linter.unusedVariables false
set_option linter.unusedSimpArgs false
set_option linter.unusedSectionVars false
set_option maxRecDepth 20000
namespace Go.Eng
open Go Go.Proofs Go.IntWalk
theorem neg_one : ((-1 : Int) : Rat) = -1 := rfl
def spArot1 : List Value → Heap → Option Value
  | [.int .i64 r, .int .i64 c, .pointer (some ⟨k1, 0, none⟩), .pointer (some ⟨k2, 0, none⟩), .pointer (some ⟨k3, 0, none⟩)], h => match hget h k1, hget h k2, hget h k3 with
    | some ⟨_, _, _, [.int .i64 a]⟩, some ⟨_, _, _, [.int .i64 b]⟩, some ⟨_, _, _, [.int .i64 x]⟩ =>
      some (.agg ⟨rE (if r = a ∧ c = b then 1 else if r = b ∧ c = a then -1 else if r = x ∧ c = x then 1 else 0)⟩)
    | _, _, _ => none
  | _, _ => none
def c43 : ICode :=
  (.seq (.reg [qq 7 (.alloc 23 3 [(.bool false), e0, e0])]) (.seq (.block 0 (.seq (.reg [qq 9 (.mv (.t 0)), qq 10 (.load false 1 (.t 2)), qq 11 (.bin .eql (.t 9) (.t 10)), qq 12 (.mv (.t 11)), ⟨(some 13), (some (12, true)), (.mv (.t 1))⟩, ⟨(some 14), (some (12, true)), (.load false 1 (.t 3))⟩, ⟨(some 15), (some (12, true)), (.bin .eql (.t 13) (.t 14))⟩, qq 16 (.pick (.t 12) (.t 15) (.c (.bool false))), qq 8 (.mv (.t 16))]) (.cond (.t 8) (.seq (.reg [qq 17 (.call 27 [(ci 1)]), qn (.store 3 (.t 7) (.t 17))]) .ret) (.seq (.reg [qq 19 (.mv (.t 0)), qq 20 (.load false 1 (.t 3)), qq 21 (.bin .eql (.t 19) (.t 20)), qq 22 (.mv (.t 21)), ⟨(some 23), (some (22, true)), (.mv (.t 1))⟩, ⟨(some 24), (some (22, true)), (.load false 1 (.t 2))⟩, ⟨(some 25), (some (22, true)), (.bin .eql (.t 23) (.t 24))⟩, qq 26 (.pick (.t 22) (.t 25) (.c (.bool false))), qq 18 (.mv (.t 26))]) (.cond (.t 18) (.seq (.reg [qq 27 (.call 27 [(ci (-1))]), qn (.store 3 (.t 7) (.t 27))]) .ret) (.seq (.reg [qq 29 (.mv (.t 0)), qq 30 (.load false 1 (.t 4)), qq 31 (.bin .eql (.t 29) (.t 30)), qq 32 (.mv (.t 31)), ⟨(some 33), (some (32, true)), (.mv (.t 1))⟩, ⟨(some 34), (some (32, true)), (.load false 1 (.t 4))⟩, ⟨(some 35), (some (32, true)), (.bin .eql (.t 33) (.t 34))⟩, qq 36 (.pick (.t 32) (.t 35) (.c (.bool false))), qq 28 (.mv (.t 36))]) (.cond (.t 28) (.seq (.reg [qq 37 (.call 27 [(ci 1)]), qn (.store 3 (.t 7) (.t 37))]) .ret) .skip))))))) (.seq (.reg [qq 38 (.build [(.bool false), e0, e0] []), qn (.store 3 (.t 7) (.t 38))]) .ret)))
theorem tr43 : trFun Tryz.prog 43 = some ⟨39, [.cell 7 true 3], c43⟩ := by kernel_rfl
set_option maxHeartbeats 1000000 in
theorem ok_Arot1 : SpecOK Tryz.prog 43 (rdS spArot1) := by
  refine rd_run (env_cons ok_qFrom (env_nil _)) mixed tr43 ?_ ?_
  · intro args h h' v hle e
    unfold spArot1 at e ⊢
    split at e
    · split at e
      · rename_i b1 b2 b3
        simp only [hle _ _ b1, hle _ _ b2, hle _ _ b3]; exact e
      · cases e
    · cases e
  intro args v h N hG hN
  unfold spArot1 at hG
  split at hG
  case h_2 => cases hG
  rename_i r c k1 k2 k3
  split at hG
  case h_2 => cases hG
  rename_i e1 z1 x1 a e2 z2 x2 b e3 z3 x3 x hb1 hb2 hb3
  cases hG
  refine ⟨rfl, by simp, ?_⟩
  have n1 := hN _ _ hb1
  have n2 := hN _ _ hb2
  have n3 := hN _ _ hb3
  have ne1 : ∀ j, (N + j = k1) = False := fun j => eq_false (by omega)
  have ne2 : ∀ j, (N + j = k2) = False := fun j => eq_false (by omega)
  have ne3 : ∀ j, (N + j = k3) = False := fun j => eq_false (by omega)
  by_cases p1 : r = a
  case neg =>
    replace p1 := eq_false p1
    by_cases p2 : r = b
    case neg =>
      replace p2 := eq_false p2
      by_cases p3 : r = x
      case neg =>
        replace p3 := eq_false p3
        have z : (if r = a ∧ c = b then (1 : Rat) else if r = b ∧ c = a then -1 else if r = x ∧ c = x then 1 else 0) = 0 := by simp only [p1, p2, p3, and_self, and_true, and_false, false_and, true_and, if_true, if_false]
        rw [z, rE_zero]
        simp only [c43, G0, Nat.reduceAdd]
        simp only [↓R0, R1, simprocAttr, -Int.reduceAbs, ne1, ne2, ne3, hb1, hb2, hb3, p1, p2, p3, spQFrom, one_one, neg_one, Fin, isEnd, resL, res1, iE, rE]
        exact ⟨_, rfl, rfl, fun k hk => by simp only [ne_nb hk, if_false]⟩
      replace p3 := eq_true p3
      by_cases p4 : c = x
      case pos =>
        replace p4 := eq_true p4
        have z : (if r = a ∧ c = b then (1 : Rat) else if r = b ∧ c = a then -1 else if r = x ∧ c = x then 1 else 0) = 1 := by simp only [p1, p2, p3, p4, and_self, and_true, and_false, false_and, true_and, if_true, if_false]
        rw [z]
        simp only [c43, G0, Nat.reduceAdd]
        simp only [↓R0, R1, simprocAttr, -Int.reduceAbs, ne1, ne2, ne3, hb1, hb2, hb3, p1, p2, p3, p4, spQFrom, one_one, neg_one, Fin, isEnd, resL, res1, iE, rE]
        exact ⟨_, rfl, rfl, fun k hk => by simp only [ne_nb hk, if_false]⟩
      replace p4 := eq_false p4
      have z : (if r = a ∧ c = b then (1 : Rat) else if r = b ∧ c = a then -1 else if r = x ∧ c = x then 1 else 0) = 0 := by simp only [p1, p2, p3, p4, and_self, and_true, and_false, false_and, true_and, if_true, if_false]
      rw [z, rE_zero]
      simp only [c43, G0, Nat.reduceAdd]
      simp only [↓R0, R1, simprocAttr, -Int.reduceAbs, ne1, ne2, ne3, hb1, hb2, hb3, p1, p2, p3, p4, spQFrom, one_one, neg_one, Fin, isEnd, resL, res1, iE, rE]
      exact ⟨_, rfl, rfl, fun k hk => by simp only [ne_nb hk, if_false]⟩
    replace p2 := eq_true p2
    by_cases p5 : c = a
    case pos =>
      replace p5 := eq_true p5
      have z : (if r = a ∧ c = b then (1 : Rat) else if r = b ∧ c = a then -1 else if r = x ∧ c = x then 1 else 0) = -1 := by simp only [p1, p2, p5, and_self, and_true, and_false, false_and, true_and, if_true, if_false]
      rw [z]
      simp only [c43, G0, Nat.reduceAdd]
      simp only [↓R0, R1, simprocAttr, -Int.reduceAbs, ne1, ne2, ne3, hb1, hb2, hb3, p1, p2, p5, spQFrom, one_one, neg_one, Fin, isEnd, resL, res1, iE, rE]
      exact ⟨_, rfl, rfl, fun k hk => by simp only [ne_nb hk, if_false]⟩
    replace p5 := eq_false p5
    by_cases p6 : r = x
    case neg =>
      replace p6 := eq_false p6
      have z : (if r = a ∧ c = b then (1 : Rat) else if r = b ∧ c = a then -1 else if r = x ∧ c = x then 1 else 0) = 0 := by simp only [p1, p2, p5, p6, and_self, and_true, and_false, false_and, true_and, if_true, if_false]
      rw [z, rE_zero]
      simp only [c43, G0, Nat.reduceAdd]
      simp only [↓R0, R1, simprocAttr, -Int.reduceAbs, ne1, ne2, ne3, hb1, hb2, hb3, p1, p2, p5, p6, spQFrom, one_one, neg_one, Fin, isEnd, resL, res1, iE, rE]
      exact ⟨_, rfl, rfl, fun k hk => by simp only [ne_nb hk, if_false]⟩
    replace p6 := eq_true p6
    by_cases p7 : c = x
    case pos =>
      replace p7 := eq_true p7
      have z : (if r = a ∧ c = b then (1 : Rat) else if r = b ∧ c = a then -1 else if r = x ∧ c = x then 1 else 0) = 1 := by simp only [p1, p2, p5, p6, p7, and_self, and_true, and_false, false_and, true_and, if_true, if_false]
      rw [z]
      simp only [c43, G0, Nat.reduceAdd]
      simp only [↓R0, R1, simprocAttr, -Int.reduceAbs, ne1, ne2, ne3, hb1, hb2, hb3, p1, p2, p5, p6, p7, spQFrom, one_one, neg_one, Fin, isEnd, resL, res1, iE, rE]
      exact ⟨_, rfl, rfl, fun k hk => by simp only [ne_nb hk, if_false]⟩
    replace p7 := eq_false p7
    have z : (if r = a ∧ c = b then (1 : Rat) else if r = b ∧ c = a then -1 else if r = x ∧ c = x then 1 else 0) = 0 := by simp only [p1, p2, p5, p6, p7, and_self, and_true, and_false, false_and, true_and, if_true, if_false]
    rw [z, rE_zero]
    simp only [c43, G0, Nat.reduceAdd]
    simp only [↓R0, R1, simprocAttr, -Int.reduceAbs, ne1, ne2, ne3, hb1, hb2, hb3, p1, p2, p5, p6, p7, spQFrom, one_one, neg_one, Fin, isEnd, resL, res1, iE, rE]
    exact ⟨_, rfl, rfl, fun k hk => by simp only [ne_nb hk, if_false]⟩
  replace p1 := eq_true p1
  by_cases p8 : c = b
  case pos =>
    replace p8 := eq_true p8
    have z : (if r = a ∧ c = b then (1 : Rat) else if r = b ∧ c = a then -1 else if r = x ∧ c = x then 1 else 0) = 1 := by simp only [p1, p8, and_self, and_true, and_false, false_and, true_and, if_true, if_false]
    rw [z]
    simp only [c43, G0, Nat.reduceAdd]
    simp only [↓R0, R1, simprocAttr, -Int.reduceAbs, ne1, ne2, ne3, hb1, hb2, hb3, p1, p8, spQFrom, one_one, neg_one, Fin, isEnd, resL, res1, iE, rE]
    exact ⟨_, rfl, rfl, fun k hk => by simp only [ne_nb hk, if_false]⟩
  replace p8 := eq_false p8
  by_cases p9 : r = b
  case neg =>
    replace p9 := eq_false p9
    by_cases p10 : r = x
    case neg =>
      replace p10 := eq_false p10
      have z : (if r = a ∧ c = b then (1 : Rat) else if r = b ∧ c = a then -1 else if r = x ∧ c = x then 1 else 0) = 0 := by simp only [p1, p8, p9, p10, and_self, and_true, and_false, false_and, true_and, if_true, if_false]
      rw [z, rE_zero]
      simp only [c43, G0, Nat.reduceAdd]
      simp only [↓R0, R1, simprocAttr, -Int.reduceAbs, ne1, ne2, ne3, hb1, hb2, hb3, p1, p8, p9, p10, spQFrom, one_one, neg_one, Fin, isEnd, resL, res1, iE, rE]
      exact ⟨_, rfl, rfl, fun k hk => by simp only [ne_nb hk, if_false]⟩
    replace p10 := eq_true p10
    by_cases p11 : c = x
    case pos =>
      replace p11 := eq_true p11
      have z : (if r = a ∧ c = b then (1 : Rat) else if r = b ∧ c = a then -1 else if r = x ∧ c = x then 1 else 0) = 1 := by simp only [p1, p8, p9, p10, p11, and_self, and_true, and_false, false_and, true_and, if_true, if_false]
      rw [z]
      simp only [c43, G0, Nat.reduceAdd]
      simp only [↓R0, R1, simprocAttr, -Int.reduceAbs, ne1, ne2, ne3, hb1, hb2, hb3, p1, p8, p9, p10, p11, spQFrom, one_one, neg_one, Fin, isEnd, resL, res1, iE, rE]
      exact ⟨_, rfl, rfl, fun k hk => by simp only [ne_nb hk, if_false]⟩
    replace p11 := eq_false p11
    have z : (if r = a ∧ c = b then (1 : Rat) else if r = b ∧ c = a then -1 else if r = x ∧ c = x then 1 else 0) = 0 := by simp only [p1, p8, p9, p10, p11, and_self, and_true, and_false, false_and, true_and, if_true, if_false]
    rw [z, rE_zero]
    simp only [c43, G0, Nat.reduceAdd]
    simp only [↓R0, R1, simprocAttr, -Int.reduceAbs, ne1, ne2, ne3, hb1, hb2, hb3, p1, p8, p9, p10, p11, spQFrom, one_one, neg_one, Fin, isEnd, resL, res1, iE, rE]
    exact ⟨_, rfl, rfl, fun k hk => by simp only [ne_nb hk, if_false]⟩
  replace p9 := eq_true p9
  by_cases p12 : c = a
  case pos =>
    replace p12 := eq_true p12
    have z : (if r = a ∧ c = b then (1 : Rat) else if r = b ∧ c = a then -1 else if r = x ∧ c = x then 1 else 0) = -1 := by simp only [p1, p8, p9, p12, and_self, and_true, and_false, false_and, true_and, if_true, if_false]
    rw [z]
    simp only [c43, G0, Nat.reduceAdd]
    simp only [↓R0, R1, simprocAttr, -Int.reduceAbs, ne1, ne2, ne3, hb1, hb2, hb3, p1, p8, p9, p12, spQFrom, one_one, neg_one, Fin, isEnd, resL, res1, iE, rE]
    exact ⟨_, rfl, rfl, fun k hk => by simp only [ne_nb hk, if_false]⟩
  replace p12 := eq_false p12
  by_cases p13 : r = x
  case neg =>
    replace p13 := eq_false p13
    have z : (if r = a ∧ c = b then (1 : Rat) else if r = b ∧ c = a then -1 else if r = x ∧ c = x then 1 else 0) = 0 := by simp only [p1, p8, p9, p12, p13, and_self, and_true, and_false, false_and, true_and, if_true, if_false]
    rw [z, rE_zero]
    simp only [c43, G0, Nat.reduceAdd]
    simp only [↓R0, R1, simprocAttr, -Int.reduceAbs, ne1, ne2, ne3, hb1, hb2, hb3, p1, p8, p9, p12, p13, spQFrom, one_one, neg_one, Fin, isEnd, resL, res1, iE, rE]
    exact ⟨_, rfl, rfl, fun k hk => by simp only [ne_nb hk, if_false]⟩
  replace p13 := eq_true p13
  by_cases p14 : c = x
  case pos =>
    replace p14 := eq_true p14
    have z : (if r = a ∧ c = b then (1 : Rat) else if r = b ∧ c = a then -1 else if r = x ∧ c = x then 1 else 0) = 1 := by simp only [p1, p8, p9, p12, p13, p14, and_self, and_true, and_false, false_and, true_and, if_true, if_false]
    rw [z]
    simp only [c43, G0, Nat.reduceAdd]
    simp only [↓R0, R1, simprocAttr, -Int.reduceAbs, ne1, ne2, ne3, hb1, hb2, hb3, p1, p8, p9, p12, p13, p14, spQFrom, one_one, neg_one, Fin, isEnd, resL, res1, iE, rE]
    exact ⟨_, rfl, rfl, fun k hk => by simp only [ne_nb hk, if_false]⟩
  replace p14 := eq_false p14
  have z : (if r = a ∧ c = b then (1 : Rat) else if r = b ∧ c = a then -1 else if r = x ∧ c = x then 1 else 0) = 0 := by simp only [p1, p8, p9, p12, p13, p14, and_self, and_true, and_false, false_and, true_and, if_true, if_false]
  rw [z, rE_zero]
  simp only [c43, G0, Nat.reduceAdd]
  simp only [↓R0, R1, simprocAttr, -Int.reduceAbs, ne1, ne2, ne3, hb1, hb2, hb3, p1, p8, p9, p12, p13, p14, spQFrom, one_one, neg_one, Fin, isEnd, resL, res1, iE, rE]
  exact ⟨_, rfl, rfl, fun k hk => by simp only [ne_nb hk, if_false]⟩
def zmap : List Value := (List.replicate 12 [Value.bool false, .string ⟨⟨[]⟩⟩, .string ⟨⟨[]⟩⟩]).flatten
def spArot : List Value → Option Value
  | [.int .i64 a, .int .i64 q] => if (-9223372036854775808 ≤ a ∧ a ≤ 9223372036854775807) ∧ -9223372036854775808 ≤ q ∧ q ≤ 9223372036854775807 then
      (if a < 0 ∨ 3 ≤ a then some (.tuple ⟨[.agg ⟨zmap⟩, .bool false]⟩) else some (.tuple ⟨[.agg ⟨mE (rotM a.toNat ((q.tmod 4 + 4).tmod 4).toNat)⟩, .bool true]⟩)) else none
  | _ => none
def c12 : ICode :=
  (.seq (.reg [qq 2 (.box 3 1 (.t 0)), qq 4 (.alloc 29 36 [(.bool false), e0, e0, (.bool false), e0, e0, (.bool false), e0, e0, (.bool false), e0, e0, (.bool false), e0, e0, (.bool false), e0, e0, (.bool false), e0, e0, (.bool false), e0, e0, (.bool false), e0, e0, (.bool false), e0, e0, (.bool false), e0, e0, (.bool false), e0, e0]), qq 5 (.mv (.c (.bool false)))]) (.seq (.seq (.reg [qq 10 (.load false 1 (.t 2)), qq 11 (.bin .lss (.t 10) (ci 0)), qq 12 (.mv (.t 11)), ⟨(some 13), (some (12, false)), (.load false 1 (.t 2))⟩, ⟨(some 14), (some (12, false)), (.bin .geq (.t 13) (ci 3))⟩, qq 15 (.pick (.t 12) (.c (.bool true)) (.t 14))]) (.cond (.t 15) (.seq (.reg [qq 16 (.build [(.bool false), e0, e0, (.bool false), e0, e0, (.bool false), e0, e0, (.bool false), e0, e0, (.bool false), e0, e0, (.bool false), e0, e0, (.bool false), e0, e0, (.bool false), e0, e0, (.bool false), e0, e0, (.bool false), e0, e0, (.bool false), e0, e0, (.bool false), e0, e0] []), qn (.store 36 (.t 4) (.t 16)), qq 5 (.mv (.c (.bool false)))]) .ret) .skip)) (.seq (.dreg [qu 17 (.load false 1 (.t 2)), qu 18 (.bin .add (.t 17) (ci 1)), qu 19 (.bin .rem (.t 18) (ci 3)), qu 20 (.load false 1 (.t 2)), qu 21 (.bin .add (.t 20) (ci 2)), qu 22 (.bin .rem (.t 21) (ci 3)), qu 6 (.alloc 3 1 [(.int .i64 0)]), qu 7 (.alloc 3 1 [(.int .i64 0)]), ⟨none, none, [1003], (.store 1 (.t 6) (.t 19))⟩, qm (.store 1 (.t 7) (.t 22))]) (.seq (.reg [qq 23 (.mkfn 43 [(.t 7), (.t 6), (.t 2)]), qq 24 (.call 42 [(.t 23)]), qq 8 (.alloc 29 36 [(.bool false), e0, e0, (.bool false), e0, e0, (.bool false), e0, e0, (.bool false), e0, e0, (.bool false), e0, e0, (.bool false), e0, e0, (.bool false), e0, e0, (.bool false), e0, e0, (.bool false), e0, e0, (.bool false), e0, e0, (.bool false), e0, e0, (.bool false), e0, e0]), qn (.store 36 (.t 8) (.t 24))]) (.seq (.reg [qq 25 (.call 17 []), qq 9 (.alloc 29 36 [(.bool false), e0, e0, (.bool false), e0, e0, (.bool false), e0, e0, (.bool false), e0, e0, (.bool false), e0, e0, (.bool false), e0, e0, (.bool false), e0, e0, (.bool false), e0, e0, (.bool false), e0, e0, (.bool false), e0, e0, (.bool false), e0, e0, (.bool false), e0, e0]), qn (.store 36 (.t 9) (.t 25))]) (.seq (.seq (.reg [qq 26 (.mv (.t 1)), qq 27 (.bin .rem (.t 26) (ci 4)), qq 28 (.bin .add (.t 27) (ci 4)), qq 29 (.bin .rem (.t 28) (ci 4)), qq 30 (.mv (ci 0))]) (.block 0 (.loop (.seq (.reg [qq 31 (.bin .lss (.t 30) (.t 29))]) (.seq (.cond (.t 31) .skip (.exit 0)) (.seq (.block 1 (.reg [qq 32 (.load true 36 (.t 8)), qq 33 (.load true 36 (.t 9)), qq 34 (.call 16 [(.t 32), (.t 33)]), qn (.store 36 (.t 9) (.t 34))])) (.reg [qq 35 (.bin .add (.t 30) (ci 1)), qq 30 (.mv (.t 35))]))))))) (.seq (.reg [qq 36 (.load true 36 (.t 9)), qn (.store 36 (.t 4) (.t 36)), qq 5 (.mv (.c (.bool true)))]) .ret)))))))
theorem tr12 : trFun Tryz.prog 12 = some ⟨37, [.cell 4 true 36, .t 5], c12⟩ := by kernel_rfl
theorem Aof_rot {h : Heap} {k1 k2 k3 : Nat} {x : Nat} {e1 z1 x1 e2 z2 x2 e3 z3 x3} (hx : x < 3) (hb1 : hget h k1 = some ⟨e1, z1, x1, [.int .i64 (((x + 2) % 3 : Nat) : Int)]⟩) (hb2 : hget h k2 = some ⟨e2, z2, x2, [.int .i64 (((x + 1) % 3 : Nat) : Int)]⟩) (hb3 : hget h k3 = some ⟨e3, z3, x3, [.int .i64 (x : Int)]⟩) :
    spAof [(43, spArot1)] [.func (.func 43) #[] ⟨[.pointer (some ⟨k1, 0, none⟩), .pointer (some ⟨k2, 0, none⟩), .pointer (some ⟨k3, 0, none⟩)]⟩] h = some (.agg ⟨mE (rotQ x)⟩) := by
  rw [show (#[] : Array Value) = ⟨[]⟩ from rfl, spAof_mk (p := fun i => RQ.of (rotQ x i)) (by decide) (fun i hi => ?_)]
  · rw [mE_congr (fun i hi => RQ.of_v _)]
  · refine ⟨?_, (RQ.of_ok (RB.unit (rotQ_vals x i))).le (by omega)⟩
    simp only [List.cons_append, List.nil_append, getL, if_true, spArot1, hb1, hb2, hb3, RQ.of_cells, Int.ofNat_inj]; rfl
theorem Acomp_rot {x n : Nat} (hx : x < 3) (hn : n < 4) : spAcomp [.agg ⟨mE (rotQ x)⟩, .agg ⟨mE (rotM x n)⟩] = some (.agg ⟨mE (rotM x (n + 1))⟩) := by
  unfold spAcomp
  simp only [mapOf_mE]
  have o1 : mapOk 1048576 (fun i => if i < 12 then RQ.of (rotQ x i) else RQ.zero) := mapOk_iff.2 fun i hi => by
    simp only [hi, if_true]; exact (RQ.of_ok (RB.unit (rotQ_vals x i))).le (by omega)
  have o2 : mapOk 1048576 (fun i => if i < 12 then RQ.of (rotM x n i) else RQ.zero) := mapOk_iff.2 fun i hi => by
    simp only [hi, if_true]; exact (RQ.of_ok (RB.unit (rot_vals x hx n (by omega) i hi))).le (by omega)
  rw [if_pos ⟨o1, o2⟩]
  congr 3
  refine mE_congr fun i hi => ?_
  show compM _ _ i = compM (rotQ x) (rotM x n) i
  unfold compM
  refine dotN_congr 4 (fun k hk => ⟨?_, ?_⟩)
  · unfold atM; split
    · simp only [show 4 * (i / 4) + k < 12 by omega, if_true, RQ.of_v]
    · rfl
  · unfold atM; split
    · simp only [show 4 * k + i % 4 < 12 by omega, if_true, RQ.of_v]
    · rfl
set_option maxHeartbeats 4000000 in
theorem ok_Arot : SpecOK Tryz.prog 12 (flat spArot) := by
  refine flat_run (env_cons (ok_Aof (L := [(43, spArot1)]) (env_cons ok_Arot1 (env_nil _))) (env_cons ok_Aid (env_cons ok_Acomp (env_nil _)))) mixed tr12 ?_
  intro args v h N hG
  unfold spArot at hG
  split at hG
  case h_2 => cases hG
  rename_i a q
  split at hG
  case isFalse => cases hG
  rename_i hl
  split at hG
  · rename_i hc
    cases hG
    refine ⟨rfl, by simp, ?_⟩
    by_cases c1 : a < 0
    · simp only [c12, G0, Nat.reduceAdd]
      simp only [↓R0, R1, simprocAttr, -Int.reduceAbs, c1, zmap, List.replicate_succ, List.replicate_zero, List.flatten_cons, List.flatten_nil, Fin, isEnd, resL, res1, iE, rE]
      exact ⟨_, rfl, rfl, fun k hk => by simp only [ne_nb hk, if_false]⟩
    · have c2 : (a ≥ 3) = True := eq_true (by omega)
      simp only [c12, G0, Nat.reduceAdd]
      simp only [↓R0, R1, simprocAttr, -Int.reduceAbs, c1, c2, zmap, List.replicate_succ, List.replicate_zero, List.flatten_cons, List.flatten_nil, Fin, isEnd, resL, res1, iE, rE]
      exact ⟨_, rfl, rfl, fun k hk => by simp only [ne_nb hk, if_false]⟩
  rename_i hc
  obtain ⟨x, rfl⟩ := Int.eq_ofNat_of_zero_le (by omega : 0 ≤ a)
  have hx : x < 3 := by omega
  have hn0 : 0 ≤ (q.tmod 4 + 4).tmod 4 := Int.tmod_nonneg _ (by have := Int.lt_tmod_of_pos q (show (0 : Int) < 4 by omega); omega)
  have hn1 : (q.tmod 4 + 4).tmod 4 < 4 := Int.tmod_lt_of_pos _ (by omega)
  have b1 := Int.lt_tmod_of_pos q (show (0 : Int) < 4 by omega)
  have b2 := Int.tmod_lt_of_pos q (show (0 : Int) < 4 by omega)
  have w0 : IntKind.i64.wrap (q.tmod 4 + 4) = q.tmod 4 + 4 := i64_in _ (by omega)
  obtain ⟨n, hn⟩ := Int.eq_ofNat_of_zero_le hn0
  rw [hn] at hG hn1
  simp only [Int.toNat_natCast] at hG
  cases hG
  have hn4 : n < 4 := by omega
  refine ⟨by
    have := mE_base (rotM x n)
    show (List.all [Value.agg ⟨mE (rotM x n)⟩, .bool true] flatV) = true
    simp only [List.all_cons, List.all_nil, Bool.and_true, Bool.and_eq_true]
    exact ⟨this, rfl⟩, by simp, ?_⟩
  have c1 : ((x : Int) < 0) = False := eq_false (by omega)
  have c2 : ((x : Int) ≥ 3) = False := eq_false (by omega)
  have w1 : IntKind.i64.wrap ((x : Int) + 1) = ((x + 1 : Nat) : Int) := by rw [i64_in _ (by omega)]; omega
  have w2 : IntKind.i64.wrap ((x : Int) + 2) = ((x + 2 : Nat) : Int) := by rw [i64_in _ (by omega)]; omega
  have m1 : Int.tmod ((x + 1 : Nat) : Int) 3 = (((x + 1) % 3 : Nat) : Int) := by rw [Int.tmod_eq_emod_of_nonneg (by omega)]; rfl
  have m2 : Int.tmod ((x + 2 : Nat) : Int) 3 = (((x + 2) % 3 : Nat) : Int) := by rw [Int.tmod_eq_emod_of_nonneg (by omega)]; rfl
  have pl := mE_len (rotQ x)
  have po := mE_ok (rotQ x)
  have sa := setR_all (mE (rotQ x)) (part12 (rotQ x) 0) (by rw [pl, part12_len _ (Nat.zero_le _)])
  rw [part12_zero] at sa
  have sb := setR_all (mE idM) (part12 idM 0) (by rw [mE_len, part12_len _ (Nat.zero_le _)])
  rw [part12_zero] at sb
  have hof : ∀ z h, spAof [(43, spArot1)] [.func (.func 43) #[] ⟨[.pointer (some ⟨N + 3, 0, none⟩), .pointer (some ⟨N + 2, 0, none⟩), .pointer (some ⟨N + 0, 0, none⟩)]⟩]
      ((N + 3, some ⟨3, 1, true, [.int .i64 (((x + 2) % 3 : Nat) : Int)]⟩) :: (N + 2, some ⟨3, 1, true, [.int .i64 (((x + 1) % 3 : Nat) : Int)]⟩) :: (N + 3, some ⟨3, 1, true, [.int .i64 0]⟩) :: (N + 2, some ⟨3, 1, true, [.int .i64 0]⟩) :: (N + 1, z) :: (N + 0, some ⟨3, 1, true, [.int .i64 (x : Int)]⟩) :: h) = some (.agg ⟨mE (rotQ x)⟩) :=
    fun z h => Aof_rot (e1 := 3) (z1 := 1) (x1 := true) (e2 := 3) (z2 := 1) (x2 := true) (e3 := 3) (z3 := 1) (x3 := true) hx (by simp [hget]) (by simp [hget]) (by simp [hget])
  simp only [c12, G0, Nat.reduceAdd]
  simp only [↓R0, R1, simprocAttr, -Int.reduceAbs, c1, c2, w1, w2, m1, m2, rdS, hof, pl, po, sa, spAid, mE_len, mE_ok, sb, w0, hn]
  have nb : ∀ k, k < N → ∀ j, (N + j = k) = False := fun k hk j => eq_false (by omega)
  refine lp_parts (fun m tm hp nx => ∃ j, m + j = n ∧ tmget tm 30 = .int .i64 (j : Nat) ∧ tmget tm 29 = .int .i64 (n : Nat) ∧ tmget tm 8 = .pointer (some ⟨N + 4, 0, none⟩) ∧ tmget tm 9 = .pointer (some ⟨N + 5, 0, none⟩) ∧ tmget tm 4 = .pointer (some ⟨N + 1, 0, none⟩) ∧
      hget hp (N + 4) = some ⟨29, 36, true, mE (rotQ x)⟩ ∧ hget hp (N + 5) = some ⟨29, 36, true, mE (rotM x j)⟩ ∧ (∃ C, hget hp (N + 1) = some ⟨29, 36, true, C⟩ ∧ C.length = 36) ∧ (∀ k, k < N → hget hp k = hget h k) ∧ nx = N + 6) ?_ n ⟨0, rfl, ?_, ?_, ?_, ?_, ?_, ?_, ?_, ?_, ?_, rfl⟩
  · rintro m tm hp nx ⟨j, hm, t30, t29, t8, t9, t4, b4, b5, ⟨C, b1, hC⟩, hh, rfl⟩
    have pj := mE_len (rotM x j)
    have oj := mE_ok (rotM x j)
    have tj : (mE (rotM x j)).take 36 = mE (rotM x j) := List.take_of_length_le (by omega)
    have tq : (mE (rotQ x)).take 36 = mE (rotQ x) := List.take_of_length_le (by omega)
    by_cases c : j < n
    · have ac := Acomp_rot hx (by omega : j < 4)
      have e1 : IntKind.i64.wrap ((j : Int) + 1) = ((j + 1 : Nat) : Int) := by rw [i64_in _ (by omega)]; omega
      have pj1 := mE_len (rotM x (j + 1))
      have oj1 := mE_ok (rotM x (j + 1))
      have sj := setR_all (mE (rotM x (j + 1))) (mE (rotM x j)) (by rw [pj, pj1])
      simp only [↓R0, R1, simprocAttr, -Int.reduceAbs, t30, t29, t8, t9, t4, b4, b5, b1, c, pj, oj, pl, tj, tq, ac, e1, pj1, oj1, sj]
      refine ⟨m - 1, by omega, j + 1, by omega, rfl, rfl, ⟨C, rfl, hC⟩, fun k hk => ?_⟩
      rw [if_neg (by omega)]; exact hh k hk
    · have e : j = n := by omega
      subst e
      have sj := setR_all (mE (rotM x j)) C (by rw [pj, hC])
      simp only [↓R0, R1, simprocAttr, -Int.reduceAbs, t30, t29, t8, t9, t4, b4, b5, b1, c, pj, oj, tj, hC, sj, Fin, isEnd, resL, res1, iE, rE]
      refine ⟨_, rfl, rfl, fun k hk => ?_⟩
      rw [if_neg (by omega)]; exact hh k hk
  all_goals first | (simp only [↓R0, R1, simprocAttr, -Int.reduceAbs]; done) | (simp only [↓R0, R1, simprocAttr, -Int.reduceAbs]; rfl) | skip
  · simp only [↓R0, R1, simprocAttr, -Int.reduceAbs]
    exact ⟨_, rfl, rfl⟩
  · intro k hk
    simp only [↓R0, R1, simprocAttr, -Int.reduceAbs, nb k hk]
end Go.Eng
end
section
set_option linter.unusedVariables false
set_option linter.unusedSimpArgs false
set_option linter.unusedSectionVars false
set_option maxRecDepth 20000
namespace Go.Eng
open Go Go.Proofs Go.IntWalk
def arrOk (n k : Nat) (p : Nat → RQ) : Prop := ((List.range n).all fun i => decide ((p i).ok k)) = true
instance {n k : Nat} {p : Nat → RQ} : Decidable (arrOk n k p) := by unfold arrOk; infer_instance
theorem arrOk_iff {n k : Nat} {p : Nat → RQ} : arrOk n k p ↔ ∀ i, i < n → (p i).ok k := by
  unfold arrOk; rw [List.all_eq_true]
  exact ⟨fun h i hi => of_decide_eq_true (h i (List.mem_range.2 hi)), fun h i hi => decide_eq_true (h i (List.mem_range.1 hi))⟩
def dotL (l m : List RQ) : Rat := dotN (fun k => ((l[k]?).getD RQ.zero).v) (fun k => ((m[k]?).getD RQ.zero).v) l.length
def spAdot : List Value → Heap → Option Value
  | [v, w], h => match listAt 3 dec1 h v, listAt 3 dec1 h w with
    | some l, some m => if l.length ≤ m.length ∧ l.length ≤ 8 ∧ (l.all fun q => decide (q.ok 67108864)) = true ∧ (m.all fun q => decide (q.ok 67108864)) = true then some (.agg ⟨rE (dotL l m)⟩) else none
    | _, _ => none
  | _, _ => none
def c58 : ICode :=
  (.seq (.reg [qq 4 (.alloc 23 3 [(.bool false), e0, e0])]) (.seq (.reg [qq 5 (.alloc 23 3 [(.bool false), e0, e0])]) (.seq (.seq (.reg [qq 7 (.mv (.t 0)), qq 8 (.lensl (.t 7)), qq 9 (.mv (ci 0))]) (.block 0 (.loop (.seq (.reg [qq 10 (.bin .lss (.t 9) (.t 8))]) (.seq (.cond (.t 10) .skip (.exit 0)) (.seq (.block 1 (.seq (.reg [qq 11 (.mv (.t 9)), qq 6 (.mv (.t 11))]) (.dreg [qu 12 (.load true 3 (.t 5)), qu 13 (.mv (.t 0)), qu 14 (.mv (.t 6)), qu 15 (.ixsl 3 (.t 13) (.t 14)), qu 16 (.load true 3 (.t 15)), qu 17 (.mv (.t 1)), qu 18 (.mv (.t 6)), qu 19 (.ixsl 3 (.t 17) (.t 18)), qu 20 (.load true 3 (.t 19)), qu 21 (.call 23 [(.t 16), (.t 20)]), qu 22 (.call 49 [(.t 12), (.t 21)]), qm (.store 3 (.t 5) (.t 22))]))) (.reg [qq 23 (.bin .add (.t 9) (ci 1)), qq 9 (.mv (.t 23))]))))))) (.seq (.reg [qq 24 (.load true 3 (.t 5)), qn (.store 3 (.t 4) (.t 24))]) .ret))))
theorem tr58 : trFun Tryz.prog 58 = some ⟨25, [.cell 4 true 3], c58⟩ := by kernel_rfl
set_option maxHeartbeats 2000000 in
theorem ok_Adot : SpecOK Tryz.prog 58 (rdS spAdot) := by
  refine rd_run (env_cons ok_qMul (env_cons ok_qAdd (env_nil _))) mixed tr58 ?_ ?_
  · intro args h h' v hle e
    unfold spAdot at e ⊢
    split at e
    · split at e
      · rename_i l m e1 e2
        simp only [listAt_mono hle (fun _ _ h => h) e1, listAt_mono hle (fun _ _ h => h) e2]; exact e
      · cases e
    · cases e
  intro args v h N hG hN
  unfold spAdot at hG
  split at hG
  case h_2 => cases hG
  rename_i v w
  split at hG
  case h_2 => cases hG
  rename_i l m el em
  split at hG
  case isFalse => cases hG
  rename_i hl
  obtain ⟨hlm, hl8, hol, hom⟩ := hl
  cases hG
  obtain ⟨a, c, rfl⟩ := listAt_sl el
  obtain ⟨b, d, rfl⟩ := listAt_sl em
  refine ⟨rfl, by simp, ?_⟩
  unfold dotL
  obtain ⟨f, hf⟩ : ∃ f : Nat → Rat, (fun k => ((l[k]?).getD RQ.zero).v) = f := ⟨_, rfl⟩
  obtain ⟨g, hg⟩ : ∃ g : Nat → Rat, (fun k => ((m[k]?).getD RQ.zero).v) = g := ⟨_, rfl⟩
  rw [hf, hg]
  have fb : ∀ k, k < l.length → RB (f k) 67108865 := fun k hk => by
    rw [← hf]; simp only [List.getElem?_eq_getElem hk, Option.getD_some]
    exact (of_decide_eq_true (List.all_eq_true.1 hol _ (List.getElem_mem hk))).rb
  have gb : ∀ k, k < l.length → RB (g k) 67108865 := fun k hk => by
    rw [← hg]; simp only [List.getElem?_eq_getElem (by omega : k < m.length), Option.getD_some]
    exact (of_decide_eq_true (List.all_eq_true.1 hom _ (List.getElem_mem _))).rb
  simp only [c58, G0, Nat.reduceAdd]
  simp only [↓R0, R1, simprocAttr, -Int.reduceAbs]
  refine lp_parts (fun n tm hp nx => ∃ i, n + i = l.length ∧ tmget tm 9 = .int .i64 (i : Nat) ∧ tmget tm 8 = .int .i64 (l.length : Nat) ∧ tmget tm 0 = .slice a l.length c ∧ tmget tm 1 = .slice b m.length d ∧ tmget tm 4 = .pointer (some ⟨N + 0, 0, none⟩) ∧ tmget tm 5 = .pointer (some ⟨N + 1, 0, none⟩) ∧
      hget hp (N + 0) = some ⟨23, 3, true, [.bool false, .string ⟨⟨[]⟩⟩, .string ⟨⟨[]⟩⟩]⟩ ∧ hget hp (N + 1) = some ⟨23, 3, true, rE (dotN f g i)⟩ ∧ (∀ k, k < N → hget hp k = hget h k) ∧ nx = N + 2) ?_ l.length ⟨0, by omega, ?_, ?_, ?_, ?_, ?_, ?_, ?_, ?_, ?_, rfl⟩
  · rintro n tm hp nx ⟨i, hn, t9, t8, t0, t1, t4, t5, b0, b1, hh, rfl⟩
    by_cases ci : i < l.length
    · obtain ⟨k1, o1, blk1, rfl, g1, _, _, G1⟩ := listAt_get el (by omega)
      obtain ⟨k2, o2, blk2, rfl, g2, _, _, G2⟩ := listAt_get em (by omega)
      obtain ⟨B1, D1⟩ := G1 i _ (List.getElem?_eq_getElem ci)
      obtain ⟨B2, D2⟩ := G2 i _ (List.getElem?_eq_getElem (by omega))
      have D1 := dec1_eq D1
      have D2 := dec1_eq D2
      have ol := of_decide_eq_true (List.all_eq_true.1 hol _ (List.getElem_mem ci))
      have om := of_decide_eq_true (List.all_eq_true.1 hom _ (List.getElem_mem (by omega : i < m.length)))
      have F1 := fb i ci
      have F2 := gb i ci
      have ef : f i = rv (l[i]).s (l[i]).n (l[i]).d := by rw [← hf]; simp only [List.getElem?_eq_getElem ci, Option.getD_some]; rfl
      have eg : g i = rv (m[i]).s (m[i]).n (m[i]).d := by rw [← hg]; simp only [List.getElem?_eq_getElem (by omega : i < m.length), Option.getD_some]; rfl
      have S0 := dotN_RB (K := 1 + i * 134217731) (n := i) (fun k hk => fb k (by omega)) (fun k hk => gb k (by omega)) (by omega)
      have hi8 : i * 134217731 ≤ 7 * 134217731 := Nat.mul_le_mul_right _ (by omega)
      have P0 := F1.mul F2 (k := 134217730) (by omega)
      have S1 := S0.add P0 (k := 8589934592) (by omega)
      have s0n := S0.num (k := 8589934592) (by omega)
      have s0d := S0.den (k := 8589934592) (by omega)
      have p0n := P0.num (k := 8589934592) (by omega)
      have p0d := P0.den (k := 8589934592) (by omega)
      generalize l[i] = x at *
      generalize m[i] = y at *
      have xn := Nat.le_trans ol.1 (by omega : 67108864 ≤ 8589934592)
      have xd := Nat.le_trans ol.2 (by omega : 67108864 ≤ 8589934592)
      have yn := Nat.le_trans om.1 (by omega : 67108864 ≤ 8589934592)
      have yd := Nat.le_trans om.2 (by omega : 67108864 ≤ 8589934592)
      have k1N := hN _ _ g1
      have k2N := hN _ _ g2
      have h1 := (hh k1 k1N).trans g1
      have h2 := (hh k2 k2N).trans g2
      have im : i < m.length := by omega
      have e1 : IntKind.i64.wrap ((i : Int) + 1) = ((i + 1 : Nat) : Int) := by rw [i64_in _ (by omega)]; omega
      have b1' : hget hp (N + 1) = some ⟨23, 3, true, [.bool (decide ((dotN f g i).num < 0)), .string ⟨⟨bl (dotN f g i).num.natAbs⟩⟩, .string ⟨⟨if (dotN f g i).den = 1 then [] else bl (dotN f g i).den⟩⟩]⟩ := b1
      rw [ef, eg] at p0n p0d
      have ne : ∀ j, j < N → (N + 1 = j) = False := fun j hj => eq_false (by omega)
      simp only [↓R0, R1, simprocAttr, -Int.reduceAbs, t9, t8, t0, t1, t4, t5, b0, b1', ci, im, h1, h2, B1, B2, D1, D2, spQMul, spQAdd, rE, rv_can, xn, xd, yn, yd, s0n, s0d, p0n, p0d, e1]
      refine ⟨n - 1, by omega, i + 1, by omega, rfl, ?_, fun k hk => ?_⟩
      · rw [← ef, ← eg]; rfl
      · rw [if_neg (by omega)]; exact hh k hk
    · have e : i = l.length := by omega
      subst e
      simp only [↓R0, R1, simprocAttr, -Int.reduceAbs, t9, t8, t0, t1, t4, t5, b0, b1, rE_len, rE_ok, ci, Fin, isEnd, resL, res1, iE, rE]
      refine ⟨_, rfl, rfl, fun k hk => ?_⟩
      rw [if_neg (by omega)]; exact hh k hk
  all_goals first | (simp only [↓R0, R1, simprocAttr, -Int.reduceAbs]; done) | (simp only [↓R0, R1, simprocAttr, -Int.reduceAbs]; rfl) | skip
  · simp only [↓R0, R1, simprocAttr, -Int.reduceAbs]
    show _ = some (⟨23, 3, true, rE 0⟩ : Blk)
    rw [rE_zero]
  · intro k hk
    have nb : ∀ j, (N + j = k) = False := fun j => eq_false (by omega)
    simp only [↓R0, R1, simprocAttr, -Int.reduceAbs, nb]
end Go.Eng
end
section
set_option linter.unusedVariables false
set_option linter.unusedSimpArgs false
set_option linter.unusedSectionVars false
set_option maxRecDepth 20000
namespace Go.Eng
open Go Go.Proofs Go.IntWalk
def spAminor : List Value → Option Value
  | [.agg ⟨cs⟩, .int .i64 r, .int .i64 c] => match mapOf cs with
    | some p => if (0 ≤ r ∧ r < 3 ∧ 0 ≤ c ∧ c < 3) ∧ mapOk 1048576 p then some (.agg ⟨rE (minorM (fun i => (p i).v) r.toNat c.toNat)⟩) else none
    | none => none
  | _ => none
def c60 : ICode :=
  (.seq (.reg [qq 3 (.box 29 36 (.t 0)), qq 6 (.alloc 23 3 [(.bool false), e0, e0])]) (.seq (.reg [qq 11 (.mv (.t 1)), qq 12 (.bin .add (.t 11) (ci 1)), qq 13 (.bin .rem (.t 12) (ci 3)), qq 14 (.mv (.t 1)), qq 15 (.bin .add (.t 14) (ci 2)), qq 16 (.bin .rem (.t 15) (ci 3)), qq 7 (.mv (.t 13)), qq 8 (.mv (.t 16))]) (.seq (.reg [qq 17 (.mv (.t 2)), qq 18 (.bin .add (.t 17) (ci 1)), qq 19 (.bin .rem (.t 18) (ci 3)), qq 20 (.mv (.t 2)), qq 21 (.bin .add (.t 20) (ci 2)), qq 22 (.bin .rem (.t 21) (ci 3)), qq 9 (.mv (.t 19)), qq 10 (.mv (.t 22))]) (.seq (.dreg [qu 23 (.load true 36 (.t 3)), qu 24 (.mv (.t 7)), qu 25 (.mv (.t 9)), qu 26 (.call 50 [(.t 23), (.t 24), (.t 25)]), qv 27 [3] (.load true 36 (.t 3)), qu 28 (.mv (.t 8)), qu 29 (.mv (.t 10)), qu 30 (.call 50 [(.t 27), (.t 28), (.t 29)]), qu 31 (.call 23 [(.t 26), (.t 30)]), qv 32 [3, 7, 8] (.load true 36 (.t 3)), qu 33 (.mv (.t 7)), qu 34 (.mv (.t 10)), qu 35 (.call 50 [(.t 32), (.t 33), (.t 34)]), qv 36 [3, 7, 8, 12] (.load true 36 (.t 3)), qu 37 (.mv (.t 8)), qu 38 (.mv (.t 9)), qu 39 (.call 50 [(.t 36), (.t 37), (.t 38)]), qu 40 (.call 23 [(.t 35), (.t 39)]), qu 41 (.call 68 [(.t 31), (.t 40)]), qm (.store 3 (.t 6) (.t 41))]) .ret))))
theorem tr60 : trFun Tryz.prog 60 = some ⟨42, [.cell 6 true 3], c60⟩ := by kernel_rfl
theorem atQ_lt {p : Nat → RQ} {r c : Nat} (h : r < 3) : atQ p r c = p (4 * r + c) := by unfold atQ; rw [if_pos h]
set_option maxHeartbeats 2000000 in
theorem ok_Aminor : SpecOK Tryz.prog 60 (flat spAminor) := by
  refine flat_run (env_cons ok_Aat (env_cons ok_qMul (env_cons ok_qSub (env_nil _)))) mixed tr60 ?_
  intro args v h N hG
  unfold spAminor at hG
  split at hG
  case h_2 => cases hG
  rename_i cs r c
  split at hG
  case h_2 => cases hG
  rename_i p hp
  split at hG
  case isFalse => cases hG
  rename_i hl
  obtain ⟨⟨hr0, hr, hc0, hc⟩, hop⟩ := hl
  obtain ⟨r, rfl⟩ := Int.eq_ofNat_of_zero_le hr0
  obtain ⟨c, rfl⟩ := Int.eq_ofNat_of_zero_le hc0
  simp only [Int.toNat_natCast] at hG
  cases hG
  obtain ⟨l1, _, o1⟩ := mapOf_spec hp
  rw [mapOk_iff] at hop
  refine ⟨rfl, by simp, ?_⟩
  have t1 : cs.take 36 = cs := List.take_of_length_le (by omega)
  have wr1 : IntKind.i64.wrap ((r : Int) + 1) = ((r + 1 : Nat) : Int) := by rw [i64_in _ (by omega)]; omega
  have mr1 : Int.tmod ((r + 1 : Nat) : Int) 3 = (((r + 1) % 3 : Nat) : Int) := by rw [Int.tmod_eq_emod_of_nonneg (by omega)]; rfl
  have ur1 : ((((r + 1) % 3 : Nat) : Int) < 4) = True := eq_true (by omega)
  have vr1 : ((r + 1) % 3 < 4) = True := eq_true (by omega)
  have wr2 : IntKind.i64.wrap ((r : Int) + 2) = ((r + 2 : Nat) : Int) := by rw [i64_in _ (by omega)]; omega
  have mr2 : Int.tmod ((r + 2 : Nat) : Int) 3 = (((r + 2) % 3 : Nat) : Int) := by rw [Int.tmod_eq_emod_of_nonneg (by omega)]; rfl
  have ur2 : ((((r + 2) % 3 : Nat) : Int) < 4) = True := eq_true (by omega)
  have vr2 : ((r + 2) % 3 < 4) = True := eq_true (by omega)
  have wc1 : IntKind.i64.wrap ((c : Int) + 1) = ((c + 1 : Nat) : Int) := by rw [i64_in _ (by omega)]; omega
  have mc1 : Int.tmod ((c + 1 : Nat) : Int) 3 = (((c + 1) % 3 : Nat) : Int) := by rw [Int.tmod_eq_emod_of_nonneg (by omega)]; rfl
  have uc1 : ((((c + 1) % 3 : Nat) : Int) < 4) = True := eq_true (by omega)
  have vc1 : ((c + 1) % 3 < 4) = True := eq_true (by omega)
  have wc2 : IntKind.i64.wrap ((c : Int) + 2) = ((c + 2 : Nat) : Int) := by rw [i64_in _ (by omega)]; omega
  have mc2 : Int.tmod ((c + 2 : Nat) : Int) 3 = (((c + 2) % 3 : Nat) : Int) := by rw [Int.tmod_eq_emod_of_nonneg (by omega)]; rfl
  have uc2 : ((((c + 2) % 3 : Nat) : Int) < 4) = True := eq_true (by omega)
  have vc2 : ((c + 2) % 3 < 4) = True := eq_true (by omega)
  unfold minorM
  dsimp only
  have ea := atQ_lt (p := p) (r := (r + 1) % 3) (c := (c + 1) % 3) (by omega)
  have Oa := hop (4 * ((r + 1) % 3) + (c + 1) % 3) (by omega)
  obtain ⟨xa, exa⟩ : ∃ z, p (4 * ((r + 1) % 3) + (c + 1) % 3) = z := ⟨_, rfl⟩
  rw [exa] at Oa ea
  have an := Nat.le_trans Oa.1 (by omega : 1048576 ≤ 8589934592)
  have ad := Nat.le_trans Oa.2 (by omega : 1048576 ≤ 8589934592)
  rw [exa]
  have eb := atQ_lt (p := p) (r := (r + 2) % 3) (c := (c + 2) % 3) (by omega)
  have Ob := hop (4 * ((r + 2) % 3) + (c + 2) % 3) (by omega)
  obtain ⟨xb, exb⟩ : ∃ z, p (4 * ((r + 2) % 3) + (c + 2) % 3) = z := ⟨_, rfl⟩
  rw [exb] at Ob eb
  have bn := Nat.le_trans Ob.1 (by omega : 1048576 ≤ 8589934592)
  have bd := Nat.le_trans Ob.2 (by omega : 1048576 ≤ 8589934592)
  rw [exb]
  have ec := atQ_lt (p := p) (r := (r + 1) % 3) (c := (c + 2) % 3) (by omega)
  have Oc := hop (4 * ((r + 1) % 3) + (c + 2) % 3) (by omega)
  obtain ⟨xc, exc⟩ : ∃ z, p (4 * ((r + 1) % 3) + (c + 2) % 3) = z := ⟨_, rfl⟩
  rw [exc] at Oc ec
  have cn := Nat.le_trans Oc.1 (by omega : 1048576 ≤ 8589934592)
  have cd := Nat.le_trans Oc.2 (by omega : 1048576 ≤ 8589934592)
  rw [exc]
  have ed := atQ_lt (p := p) (r := (r + 2) % 3) (c := (c + 1) % 3) (by omega)
  have Od := hop (4 * ((r + 2) % 3) + (c + 1) % 3) (by omega)
  obtain ⟨xd, exd⟩ : ∃ z, p (4 * ((r + 2) % 3) + (c + 1) % 3) = z := ⟨_, rfl⟩
  rw [exd] at Od ed
  have dn := Nat.le_trans Od.1 (by omega : 1048576 ≤ 8589934592)
  have dd := Nat.le_trans Od.2 (by omega : 1048576 ≤ 8589934592)
  rw [exd]
  have P : RB (rv xa.s xa.n xa.d * rv xb.s xb.n xb.d) 2097154 := Oa.rb.mul Ob.rb (by omega)
  have Pn := P.num (k := 8589934592) (by omega)
  have Pd := P.den (k := 8589934592) (by omega)
  have Pd' := P.den' (k := 8589934592) (by omega)
  have Q : RB (rv xc.s xc.n xc.d * rv xd.s xd.n xd.d) 2097154 := Oc.rb.mul Od.rb (by omega)
  have Qn := Q.num (k := 8589934592) (by omega)
  have Qd := Q.den (k := 8589934592) (by omega)
  have Qd' := Q.den' (k := 8589934592) (by omega)
  simp only [c60, G0, Nat.reduceAdd]
  simp only [↓R0, R1, simprocAttr, -Int.reduceAbs, spAat, qcells, spQMul, spQSub, rE, rv_can, hp, l1, t1, o1, wr1, wr2, wc1, wc2, mr1, mr2, mc1, mc2, ur1, ur2, uc1, uc2, vr1, vr2, vc1, vc2, ea, an, ad, eb, bn, bd, ec, cn, cd, ed, dn, dd, Pn, Pd, Pd', Qn, Qd, Qd', Fin, isEnd, resL, res1, iE, rE]
  exact ⟨_, rfl, rfl, fun k hk => by simp only [ne_nb hk, if_false]⟩
def spAdet : List Value → Option Value
  | [.agg ⟨cs⟩] => match mapOf cs with
    | some p => if mapOk 1048576 p then some (.agg ⟨rE (detM (fun i => (p i).v))⟩) else none
    | none => none
  | _ => none
def c22 : ICode :=
  (.seq (.reg [qq 1 (.box 29 36 (.t 0)), qq 2 (.alloc 23 3 [(.bool false), e0, e0])]) (.seq (.reg [qq 3 (.alloc 23 3 [(.bool false), e0, e0])]) (.seq (.seq (.reg [qq 5 (.mv (ci 0))]) (.block 0 (.loop (.seq (.reg [qq 6 (.bin .lss (.t 5) (ci 3))]) (.seq (.cond (.t 6) .skip (.exit 0)) (.seq (.block 1 (.seq (.reg [qq 7 (.mv (.t 5)), qq 4 (.mv (.t 7))]) (.dreg [qu 8 (.load true 3 (.t 3)), qu 9 (.load true 36 (.t 1)), qu 10 (.mv (.t 4)), qu 11 (.call 50 [(.t 9), (ci 0), (.t 10)]), qv 12 [3] (.load true 36 (.t 1)), qu 13 (.mv (.t 4)), qu 14 (.call 60 [(.t 12), (ci 0), (.t 13)]), qu 15 (.call 23 [(.t 11), (.t 14)]), qu 16 (.call 49 [(.t 8), (.t 15)]), qm (.store 3 (.t 3) (.t 16))]))) (.reg [qq 17 (.bin .add (.t 5) (ci 1)), qq 5 (.mv (.t 17))]))))))) (.seq (.reg [qq 18 (.load true 3 (.t 3)), qn (.store 3 (.t 2) (.t 18))]) .ret))))
theorem tr22 : trFun Tryz.prog 22 = some ⟨19, [.cell 2 true 3], c22⟩ := by kernel_rfl
set_option maxHeartbeats 2000000 in
theorem ok_Adet : SpecOK Tryz.prog 22 (flat spAdet) := by
  refine flat_run (env_cons ok_Aat (env_cons ok_Aminor (env_cons ok_qMul (env_cons ok_qAdd (env_nil _))))) mixed tr22 ?_
  intro args v h N hG
  unfold spAdet at hG
  split at hG
  case h_2 => cases hG
  rename_i cs
  split at hG
  case h_2 => cases hG
  rename_i p hp
  split at hG
  case isFalse => cases hG
  rename_i ho
  cases hG
  obtain ⟨l1, _, o1⟩ := mapOf_spec hp
  have hop := mapOk_iff.1 ho
  have t1 : cs.take 36 = cs := List.take_of_length_le (by omega)
  refine ⟨rfl, by simp, ?_⟩
  unfold detM
  simp only [dotN]
  have S0 := RB.zero
  have e0 := atQ_lt (p := p) (r := 0) (c := 0) (by omega)
  simp only [Nat.reduceMul, Nat.reduceAdd, Nat.zero_add] at e0
  have O0 := hop 0 (by omega)
  have M0 := minorM_RB (f := fun i => (p i).v) (fun i hi => (hop i hi).rb) 0 0
  obtain ⟨m0, em0⟩ : ∃ z, minorM (fun i => (p i).v) 0 0 = z := ⟨_, rfl⟩
  rw [em0] at M0
  rw [em0]
  have M0n := M0.num (k := 8589934592) (by omega)
  have M0d := M0.den (k := 8589934592) (by omega)
  have O0n := Nat.le_trans O0.1 (by omega : 1048576 ≤ 8589934592)
  have O0d := Nat.le_trans O0.2 (by omega : 1048576 ≤ 8589934592)
  have P0 : RB (rv (p 0).s (p 0).n (p 0).d * m0) 16777216 := O0.rb.mul M0 (by omega)
  have P0n := P0.num (k := 8589934592) (by omega)
  have P0d := P0.den (k := 8589934592) (by omega)
  have S1 : RB (0 + rv (p 0).s (p 0).n (p 0).d * m0) 16777218 := S0.add P0 (by omega)
  have S1n := S1.num (k := 8589934592) (by omega)
  have S1d := S1.den (k := 8589934592) (by omega)
  have e1 := atQ_lt (p := p) (r := 0) (c := 1) (by omega)
  simp only [Nat.reduceMul, Nat.reduceAdd, Nat.zero_add] at e1
  have O1 := hop 1 (by omega)
  have M1 := minorM_RB (f := fun i => (p i).v) (fun i hi => (hop i hi).rb) 0 1
  obtain ⟨m1, em1⟩ : ∃ z, minorM (fun i => (p i).v) 0 1 = z := ⟨_, rfl⟩
  rw [em1] at M1
  rw [em1]
  have M1n := M1.num (k := 8589934592) (by omega)
  have M1d := M1.den (k := 8589934592) (by omega)
  have O1n := Nat.le_trans O1.1 (by omega : 1048576 ≤ 8589934592)
  have O1d := Nat.le_trans O1.2 (by omega : 1048576 ≤ 8589934592)
  have P1 : RB (rv (p 1).s (p 1).n (p 1).d * m1) 16777216 := O1.rb.mul M1 (by omega)
  have P1n := P1.num (k := 8589934592) (by omega)
  have P1d := P1.den (k := 8589934592) (by omega)
  have S2 : RB (0 + rv (p 0).s (p 0).n (p 0).d * m0 + rv (p 1).s (p 1).n (p 1).d * m1) 33554435 := S1.add P1 (by omega)
  have S2n := S2.num (k := 8589934592) (by omega)
  have S2d := S2.den (k := 8589934592) (by omega)
  have e2 := atQ_lt (p := p) (r := 0) (c := 2) (by omega)
  simp only [Nat.reduceMul, Nat.reduceAdd, Nat.zero_add] at e2
  have O2 := hop 2 (by omega)
  have M2 := minorM_RB (f := fun i => (p i).v) (fun i hi => (hop i hi).rb) 0 2
  obtain ⟨m2, em2⟩ : ∃ z, minorM (fun i => (p i).v) 0 2 = z := ⟨_, rfl⟩
  rw [em2] at M2
  rw [em2]
  have M2n := M2.num (k := 8589934592) (by omega)
  have M2d := M2.den (k := 8589934592) (by omega)
  have O2n := Nat.le_trans O2.1 (by omega : 1048576 ≤ 8589934592)
  have O2d := Nat.le_trans O2.2 (by omega : 1048576 ≤ 8589934592)
  have P2 : RB (rv (p 2).s (p 2).n (p 2).d * m2) 16777216 := O2.rb.mul M2 (by omega)
  have P2n := P2.num (k := 8589934592) (by omega)
  have P2d := P2.den (k := 8589934592) (by omega)
  have S3 : RB (0 + rv (p 0).s (p 0).n (p 0).d * m0 + rv (p 1).s (p 1).n (p 1).d * m1 + rv (p 2).s (p 2).n (p 2).d * m2) 50331652 := S2.add P2 (by omega)
  have S3n := S3.num (k := 8589934592) (by omega)
  have S3d := S3.den (k := 8589934592) (by omega)
  simp only [c22, G0, Nat.reduceAdd]
  simp only [↓R0, R1, simprocAttr, -Int.reduceAbs]
  refine lp_step ?_
  simp only [↓R0, R1, simprocAttr, -Int.reduceAbs, spAat, spAminor, qcells, rv0, spQMul, spQAdd, rE, rv_can, hp, l1, t1, o1, ho, e0, em0, M0n, M0d, O0n, O0d, P0n, P0d, S1n, S1d, e1, em1, M1n, M1d, O1n, O1d, P1n, P1d, S2n, S2d, e2, em2, M2n, M2d, O2n, O2d, P2n, P2d, S3n, S3d]
  refine lp_step ?_
  simp only [↓R0, R1, simprocAttr, -Int.reduceAbs, spAat, spAminor, qcells, rv0, spQMul, spQAdd, rE, rv_can, hp, l1, t1, o1, ho, e0, em0, M0n, M0d, O0n, O0d, P0n, P0d, S1n, S1d, e1, em1, M1n, M1d, O1n, O1d, P1n, P1d, S2n, S2d, e2, em2, M2n, M2d, O2n, O2d, P2n, P2d, S3n, S3d]
  refine lp_step ?_
  simp only [↓R0, R1, simprocAttr, -Int.reduceAbs, spAat, spAminor, qcells, rv0, spQMul, spQAdd, rE, rv_can, hp, l1, t1, o1, ho, e0, em0, M0n, M0d, O0n, O0d, P0n, P0d, S1n, S1d, e1, em1, M1n, M1d, O1n, O1d, P1n, P1d, S2n, S2d, e2, em2, M2n, M2d, O2n, O2d, P2n, P2d, S3n, S3d]
  refine lp_step ?_
  simp only [↓R0, R1, simprocAttr, -Int.reduceAbs, hp, l1, t1, o1, ho, e0, em0, M0n, M0d, O0n, O0d, P0n, P0d, S1n, S1d, e1, em1, M1n, M1d, O1n, O1d, P1n, P1d, S2n, S2d, e2, em2, M2n, M2d, O2n, O2d, P2n, P2d, S3n, S3d, Fin, isEnd, resL, res1, iE, rE]
  exact ⟨_, rfl, rfl, fun k hk => by simp only [ne_nb hk, if_false]⟩
def spAinv1 : List Value → Heap → Option Value
  | [.int .i64 r, .int .i64 c, .pointer (some ⟨k1, 0, none⟩), .pointer (some ⟨k2, 0, none⟩)], h => match hget h k1, hget h k2 with
    | some ⟨_, _, _, cs1⟩, some ⟨_, _, _, [.bool s, .string ⟨⟨n⟩⟩, .string ⟨⟨d⟩⟩]⟩ => match mapOf cs1 with
      | some p => if (0 ≤ r ∧ r < 3 ∧ 0 ≤ c ∧ c < 4) ∧ mapOk 1048576 p ∧ n.length ≤ 67108864 ∧ d.length ≤ 67108864 ∧ nl n ≠ 0 then
          some (.agg ⟨rE (if c = 3 then 0 else minorM (fun i => (p i).v) c.toNat r.toNat / rv s n d)⟩) else none
      | _ => none
    | _, _ => none
  | _, _ => none
def c75 : ICode :=
  (.seq (.reg [qq 6 (.alloc 23 3 [(.bool false), e0, e0])]) (.seq (.seq (.reg [qq 9 (.mv (.t 1)), qq 10 (.bin .eql (.t 9) (ci 3))]) (.cond (.t 10) (.seq (.reg [qq 11 (.build [(.bool false), e0, e0] []), qn (.store 3 (.t 6) (.t 11))]) .ret) .skip)) (.seq (.dreg [qu 13 (.load true 36 (.t 2)), qu 14 (.mv (.t 1)), qu 15 (.mv (.t 0)), qu 16 (.call 60 [(.t 13), (.t 14), (.t 15)]), qv 17 [3] (.load true 3 (.t 3)), qu 18 (.call 26 [(.t 16), (.t 17)]), qu 12 (.mv (.t 18)), qu 19 (.ext (.t 12) 0), qu 20 (.ext (.t 12) 1), qu 7 (.alloc 23 3 [(.bool false), e0, e0]), qm (.store 3 (.t 7) (.t 19)), qu 8 (.mv (.t 20))]) (.seq (.reg [qq 21 (.load true 3 (.t 7)), qn (.store 3 (.t 6) (.t 21))]) .ret))))
theorem tr75 : trFun Tryz.prog 75 = some ⟨22, [.cell 6 true 3], c75⟩ := by kernel_rfl
set_option maxHeartbeats 2000000 in
theorem ok_Ainv1 : SpecOK Tryz.prog 75 (rdS spAinv1) := by
  refine rd_run (env_cons ok_Aminor (env_cons ok_qDiv (env_nil _))) mixed tr75 ?_ ?_
  · intro args h h' v hle e
    unfold spAinv1 at e ⊢
    split at e
    · split at e
      · rename_i b1 b2
        simp only [hle _ _ b1, hle _ _ b2]; exact e
      · cases e
    · cases e
  intro args v h N hG hN
  unfold spAinv1 at hG
  split at hG
  case h_2 => cases hG
  rename_i r c k1 k2
  split at hG
  case h_2 => cases hG
  rename_i e1 z1 x1 cs1 e2 z2 x2 s n d hb1 hb2
  split at hG
  case h_2 => cases hG
  rename_i p hp
  split at hG
  case isFalse => cases hG
  rename_i hl
  obtain ⟨⟨hr0, hr, hc0, hc⟩, hop, hn, hd, hne⟩ := hl
  obtain ⟨r, rfl⟩ := Int.eq_ofNat_of_zero_le hr0
  obtain ⟨c, rfl⟩ := Int.eq_ofNat_of_zero_le hc0
  simp only [Int.toNat_natCast] at hG
  obtain ⟨l1, _, o1⟩ := mapOf_spec hp
  have n1 := hN _ _ hb1
  have n2 := hN _ _ hb2
  have ne1 : ∀ j, (N + j = k1) = False := fun j => eq_false (by omega)
  have ne2 : ∀ j, (N + j = k2) = False := fun j => eq_false (by omega)
  have t1 : cs1.take 36 = cs1 := List.take_of_length_le (by omega)
  by_cases e : (c : Int) = 3
  · rw [if_pos e, rE_zero] at hG
    cases hG
    refine ⟨rfl, by simp, ?_⟩
    simp only [c75, G0, Nat.reduceAdd]
    simp only [↓R0, R1, simprocAttr, -Int.reduceAbs, e, ne1, ne2, hb1, hb2, Fin, isEnd, resL, res1, iE, rE]
    exact ⟨_, rfl, rfl, fun k hk => by simp only [ne_nb hk, if_false]⟩
  rw [if_neg e] at hG
  cases hG
  refine ⟨rfl, by simp, ?_⟩
  have hc3 : ((c : Int) < 3) = True := eq_true (by omega)
  have hr3 : ((r : Int) < 3) = True := eq_true (by omega)
  have hc3' : (c < 3) = True := eq_true (by omega)
  have hr3' : (r < 3) = True := eq_true (by omega)
  have hn' := Nat.le_trans hn (by omega : 67108864 ≤ 8589934592)
  have hd' := Nat.le_trans hd (by omega : 67108864 ≤ 8589934592)
  have hne' := eq_false hne
  have M := minorM_RB (f := fun i => (p i).v) (fun i hi => (mapOk_iff.1 hop i hi).rb) c r
  obtain ⟨m, em⟩ : ∃ z, minorM (fun i => (p i).v) c r = z := ⟨_, rfl⟩
  rw [em] at M
  rw [em]
  have Mn := M.num (k := 8589934592) (by omega)
  have Md := M.den (k := 8589934592) (by omega)
  simp only [c75, G0, Nat.reduceAdd]
  simp only [↓R0, R1, simprocAttr, -Int.reduceAbs, e, ne1, ne2, hb1, hb2, l1, t1, o1, hp, hop, hc3, hr3, hc3', hr3', spAminor, em, spQDiv, hn', hd', hne', Mn, Md, rE, rv_can, Fin, isEnd, resL, res1, iE, rE]
  exact ⟨_, rfl, rfl, fun k hk => by simp only [ne_nb hk, if_false]⟩
theorem listAt_arr {h : Heap} {k e z : Nat} {x : Bool} {cs : List Value} {p : Nat → RQ} {len : Nat} (hb : hget h k = some ⟨e, z, x, cs⟩) (hlen : cs.length = len * 3) (hat : ∀ i, i < len → (cs.drop (i * 3)).take 3 = (p i).cells) {off n c : Nat} (h1 : off + n ≤ len) (h2 : n ≤ c) :
    listAt 3 dec1 h (.slice (some ⟨k, off * 3, none⟩) n c) = some ((List.range n).map fun j => p (off + j)) := by
  unfold listAt lay slen
  simp only [hb]
  rw [if_pos ⟨h2, by omega⟩, Option.bind_some]
  refine many_some (by simp) (fun i q hq => ?_)
  have hi : i < n := by
    have := (List.getElem?_eq_some_iff.1 hq).1
    simpa using this
  rw [List.getElem?_map, List.getElem?_range hi, Option.map_some, Option.some.injEq] at hq
  subst hq
  have e1 : ((cs.drop (off * 3)).take (n * 3)).drop (i * 3) = ((cs.drop ((off + i) * 3)).take (n * 3 - i * 3)) := by
    rw [List.drop_take, List.drop_drop]; congr 2; omega
  rw [e1, List.take_take, Nat.min_eq_left (by omega), hat (off + i) (by omega)]
  rfl
theorem listAt_rqs {h : Heap} {k e z : Nat} {x : Bool} {l : List RQ} {c : Nat} (hb : hget h k = some ⟨e, z, x, rqs l⟩) (h2 : l.length ≤ c) :
    listAt 3 dec1 h (.slice (some ⟨k, 0, none⟩) l.length c) = some l := by
  have := listAt_arr (p := fun i => (l[i]?).getD RQ.zero) hb (rqs_length l) (fun i hi => by rw [rqs_at l i _ (List.getElem?_eq_getElem hi)]; simp [List.getElem?_eq_getElem hi]) (off := 0) (n := l.length) (c := c) (by omega) h2
  rw [Nat.zero_mul] at this
  rw [this]
  congr 1
  apply List.ext_getElem?
  intro i
  by_cases hi : i < l.length
  · rw [List.getElem?_map, List.getElem?_range hi]; simp [List.getElem?_eq_getElem hi]
  · rw [List.getElem?_eq_none (by simp; omega), List.getElem?_eq_none (by omega)]
def spAinv2 : List Value → Heap → Option Value
  | [.int .i64 r, .int .i64 c, .pointer (some ⟨k1, 0, none⟩), .pointer (some ⟨k2, 0, none⟩)], h => match hget h k1, hget h k2 with
    | some ⟨_, _, x1, cs1⟩, some ⟨_, _, _, cs2⟩ => match mapOf cs1, mapOf cs2 with
      | some p, some q => if (0 ≤ r ∧ r < 3 ∧ 0 ≤ c ∧ c < 4) ∧ mapOk 67108864 p ∧ mapOk 1048576 q ∧ x1 = true then
          some (.agg ⟨if c < 3 then (p (4 * r.toNat + c.toNat)).cells else rE (-dotN (fun k => (p (4 * r.toNat + k)).v) (fun k => (q (4 * k + 3)).v) 3)⟩) else none
      | _, _ => none
    | _, _ => none
  | _, _ => none
def c76 : ICode :=
  (.seq (.reg [qq 6 (.alloc 23 3 [(.bool false), e0, e0])]) (.seq (.seq (.reg [qq 8 (.mv (.t 1)), qq 9 (.bin .lss (.t 8) (ci 3))]) (.cond (.t 9) (.seq (.reg [qq 10 (.load true 36 (.t 2)), qq 11 (.mv (.t 0)), qq 12 (.mv (.t 1)), qq 13 (.call 50 [(.t 10), (.t 11), (.t 12)]), qn (.store 3 (.t 6) (.t 13))]) .ret) .skip)) (.seq (.dreg [qu 14 (.load true 36 (.t 3)), qu 15 (.call 50 [(.t 14), (ci 0), (ci 3)]), qv 16 [1] (.load true 36 (.t 3)), qu 17 (.call 50 [(.t 16), (ci 1), (ci 3)]), qv 18 [1, 3] (.load true 36 (.t 3)), qu 19 (.call 50 [(.t 18), (ci 2), (ci 3)]), qu 20 (.bslice 23 3 3 [(.bool false), e0, e0, (.bool false), e0, e0, (.bool false), e0, e0] [(0, 3, (.t 15)), (3, 3, (.t 17)), (6, 3, (.t 19))]), qu 7 (.mv (.t 20))]) (.seq (.reg [qq 21 (.mv (.t 0)), qq 22 (.bin .mul (ci 4) (.t 21)), qq 23 (.mv (.t 0)), qq 24 (.bin .mul (ci 4) (.t 23)), qq 25 (.bin .add (.t 24) (ci 3)), qq 26 (.slarr 12 3 (.t 2) (some (.t 22)) (some (.t 25))), qq 27 (.mv (.t 7)), qq 28 (.call 58 [(.t 26), (.t 27)]), qq 29 (.call 66 [(.t 28)]), qn (.store 3 (.t 6) (.t 29))]) .ret))))
theorem tr76 : trFun Tryz.prog 76 = some ⟨30, [.cell 6 true 3], c76⟩ := by kernel_rfl
set_option maxHeartbeats 2000000 in
theorem ok_Ainv2 : SpecOK Tryz.prog 76 (rdS spAinv2) := by
  refine rd_run (env_cons ok_Aat (env_cons ok_Adot (env_cons ok_qNeg (env_nil _)))) mixed tr76 ?_ ?_
  · intro args h h' v hle e
    unfold spAinv2 at e ⊢
    split at e
    · split at e
      · rename_i b1 b2
        simp only [hle _ _ b1, hle _ _ b2]; exact e
      · cases e
    · cases e
  intro args v h N hG hN
  unfold spAinv2 at hG
  split at hG
  case h_2 => cases hG
  rename_i r c k1 k2
  split at hG
  case h_2 => cases hG
  rename_i e1 z1 x1 cs1 e2 z2 x2 cs2 hb1 hb2
  split at hG
  case h_2 => cases hG
  rename_i p q hp hq
  split at hG
  case isFalse => cases hG
  rename_i hl
  obtain ⟨⟨hr0, hr, hc0, hc⟩, hop, hoq, rfl⟩ := hl
  obtain ⟨r, rfl⟩ := Int.eq_ofNat_of_zero_le hr0
  obtain ⟨c, rfl⟩ := Int.eq_ofNat_of_zero_le hc0
  simp only [Int.toNat_natCast] at hG
  obtain ⟨l1, a1, o1⟩ := mapOf_spec hp
  obtain ⟨l2, _, o2⟩ := mapOf_spec hq
  have n1 := hN _ _ hb1
  have n2 := hN _ _ hb2
  have ne1 : ∀ j, (N + j = k1) = False := fun j => eq_false (by omega)
  have ne2 : ∀ j, (N + j = k2) = False := fun j => eq_false (by omega)
  have t1 : cs1.take 36 = cs1 := List.take_of_length_le (by omega)
  have t2 : cs2.take 36 = cs2 := List.take_of_length_le (by omega)
  have hr4 : ((r : Int) < 4) = True := eq_true (by omega)
  have hc4 : ((c : Int) < 4) = True := eq_true (by omega)
  have hr4' : (r < 4) = True := eq_true (by omega)
  have hc4' : (c < 4) = True := eq_true (by omega)
  by_cases e : (c : Int) < 3
  · rw [if_pos e] at hG
    cases hG
    refine ⟨rfl, by simp, ?_⟩
    have ea := atQ_lt (p := p) (r := r) (c := c) (by omega)
    have e' : (c < 3) = True := eq_true (by omega)
    simp only [c76, G0, Nat.reduceAdd]
    simp only [↓R0, R1, simprocAttr, -Int.reduceAbs, e, e', ne1, ne2, hb1, hb2, l1, t1, hp, hr4, hc4, hr4', hc4', spAat, ea, qcells, Fin, isEnd, resL, res1, iE, rE]
    exact ⟨_, rfl, rfl, fun k hk => by simp only [ne_nb hk, if_false]⟩
  rw [if_neg e] at hG
  cases hG
  refine ⟨rfl, by simp, ?_⟩
  have e' : (c < 3) = False := eq_false (by omega)
  have w1 : IntKind.i64.wrap (4 * (r : Int)) = ((4 * r : Nat) : Int) := by rw [i64_in _ (by omega)]; omega
  have w2 : IntKind.i64.wrap (((4 * r : Nat) : Int) + 3) = ((4 * r + 3 : Nat) : Int) := by rw [i64_in _ (by omega)]; omega
  have w3 : (((4 * r + 3 : Nat) : Int) ≤ 12) = True := eq_true (by omega)
  have w3' : (4 * r + 3 ≤ 12) = True := eq_true (by omega)
  have w4 : (4 * r ≤ 4 * r + 3) = True := eq_true (by omega)
  have w5 : (12 = 4 * r) = False := eq_false (by omega)
  have w6 : 4 * r + 3 - 4 * r = 3 := by omega
  have x0 := atQ_lt (p := q) (r := 0) (c := 3) (by omega)
  have x1 := atQ_lt (p := q) (r := 1) (c := 3) (by omega)
  have x2 := atQ_lt (p := q) (r := 2) (c := 3) (by omega)
  simp only [Nat.reduceMul, Nat.reduceAdd, Nat.zero_add] at x0 x1 x2
  have hd : ∀ hp, hget hp k1 = some ⟨e1, z1, true, cs1⟩ → hget hp (N + 1) = some ⟨23, 3, true, [.bool (q 3).s, .string ⟨⟨(q 3).n⟩⟩, .string ⟨⟨(q 3).d⟩⟩, .bool (q 7).s, .string ⟨⟨(q 7).n⟩⟩, .string ⟨⟨(q 7).d⟩⟩, .bool (q 11).s, .string ⟨⟨(q 11).n⟩⟩, .string ⟨⟨(q 11).d⟩⟩]⟩ →
      spAdot [.slice (some ⟨k1, 4 * r * 3, none⟩) 3 (12 - 4 * r), .slice (some ⟨N + 1, 0, none⟩) 3 3] hp = some (.agg ⟨rE (dotN (fun k => (p (4 * r + k)).v) (fun k => (q (4 * k + 3)).v) 3)⟩) := by
    intro hp q1 q2
    have L1 := listAt_arr q1 (len := 12) (by omega) a1 (off := 4 * r) (n := 3) (c := 12 - 4 * r) (by omega) (by omega)
    have L2 := listAt_rqs (l := [q 3, q 7, q 11]) (c := 3) q2 (by simp)
    unfold spAdot
    simp only [L1]
    rw [show ([q 3, q 7, q 11] : List RQ).length = 3 from rfl] at L2
    simp only [L2]
    have hop' := mapOk_iff.1 hop
    have hoq' := mapOk_iff.1 hoq
    rw [if_pos ⟨by simp, by simp, by
      rw [List.all_eq_true]; intro y hy
      simp only [List.mem_map, List.mem_range] at hy
      obtain ⟨j, hj, rfl⟩ := hy
      exact decide_eq_true (hop' _ (by omega)), by
      rw [List.all_eq_true]; intro y hy
      simp only [List.mem_cons, List.not_mem_nil, or_false] at hy
      rcases hy with rfl | rfl | rfl
      · exact decide_eq_true ((hoq' _ (by omega)).le (by omega))
      · exact decide_eq_true ((hoq' _ (by omega)).le (by omega))
      · exact decide_eq_true ((hoq' _ (by omega)).le (by omega))⟩]
    congr 3
  have D := dotN_RB (n := 3) (a := fun k => (p (4 * r + k)).v) (b := fun k => (q (4 * k + 3)).v) (i := 67108865) (j := 1048577) (K := 8589934592) (fun k hk => (mapOk_iff.1 hop _ (by omega)).rb) (fun k hk => (mapOk_iff.1 hoq _ (by omega)).rb) (by omega)
  generalize dotN (fun k => (p (4 * r + k)).v) (fun k => (q (4 * k + 3)).v) 3 = z at *
  have zn := D.num (k := 17179869184) (by omega)
  have zd := D.den (k := 17179869184) (by omega)
  simp only [c76, G0, Nat.reduceAdd]
  simp only [↓R0, R1, simprocAttr, -Int.reduceAbs, e, e', ne1, ne2, hb1, hb2, l1, l2, t1, t2, hp, hq, hr4, hc4, hr4', hc4', spAat, x0, x1, x2, qcells, w1, w2, w3, w3', w4, w5, w6, mkSl, rdS, hd, spQNeg, zn, zd, rE, rv_can, Fin, isEnd, resL, res1, iE, rE]
  exact ⟨_, rfl, rfl, fun k hk => by simp only [ne_nb hk, if_false]⟩
end Go.Eng
end
section
set_option linter.unusedVariables false
set_option linter.unusedSimpArgs false
set_option linter.unusedSectionVars false
set_option maxRecDepth 20000
namespace Go.Eng
open Go Go.Proofs Go.IntWalk
def spAinv : List Value → Option Value
  | [.agg ⟨cs⟩] => match mapOf cs with
    | some p => if mapOk 1048576 p then
        (if detM (fun i => (p i).v) = 0 then some (.tuple ⟨[.agg ⟨zmap⟩, .bool false]⟩) else some (.tuple ⟨[.agg ⟨mE (invM (fun i => (p i).v))⟩, .bool true]⟩)) else none
    | none => none
  | _ => none
def c30 : ICode :=
  (.seq (.reg [qq 1 (.box 29 36 (.t 0)), qq 2 (.alloc 29 36 [(.bool false), e0, e0, (.bool false), e0, e0, (.bool false), e0, e0, (.bool false), e0, e0, (.bool false), e0, e0, (.bool false), e0, e0, (.bool false), e0, e0, (.bool false), e0, e0, (.bool false), e0, e0, (.bool false), e0, e0, (.bool false), e0, e0, (.bool false), e0, e0]), qq 3 (.mv (.c (.bool false)))]) (.seq (.reg [qq 6 (.load true 36 (.t 1)), qq 7 (.call 22 [(.t 6)]), qq 4 (.alloc 23 3 [(.bool false), e0, e0]), qn (.store 3 (.t 4) (.t 7))]) (.seq (.seq (.reg [qq 8 (.load true 3 (.t 4)), qq 9 (.call 74 [(.t 8)]), qq 10 (.bin .eql (.t 9) (ci 0))]) (.cond (.t 10) (.seq (.reg [qq 11 (.build [(.bool false), e0, e0, (.bool false), e0, e0, (.bool false), e0, e0, (.bool false), e0, e0, (.bool false), e0, e0, (.bool false), e0, e0, (.bool false), e0, e0, (.bool false), e0, e0, (.bool false), e0, e0, (.bool false), e0, e0, (.bool false), e0, e0, (.bool false), e0, e0] []), qn (.store 36 (.t 2) (.t 11)), qq 3 (.mv (.c (.bool false)))]) .ret) .skip)) (.seq (.reg [qq 12 (.mkfn 75 [(.t 1), (.t 4)]), qq 13 (.call 42 [(.t 12)]), qq 5 (.alloc 29 36 [(.bool false), e0, e0, (.bool false), e0, e0, (.bool false), e0, e0, (.bool false), e0, e0, (.bool false), e0, e0, (.bool false), e0, e0, (.bool false), e0, e0, (.bool false), e0, e0, (.bool false), e0, e0, (.bool false), e0, e0, (.bool false), e0, e0, (.bool false), e0, e0]), qn (.store 36 (.t 5) (.t 13))]) (.seq (.reg [qq 14 (.mkfn 76 [(.t 5), (.t 1)]), qq 15 (.call 42 [(.t 14)]), qn (.store 36 (.t 2) (.t 15)), qq 3 (.mv (.c (.bool true)))]) .ret)))))
theorem tr30 : trFun Tryz.prog 30 = some ⟨16, [.cell 2 true 36, .t 3], c30⟩ := by kernel_rfl
theorem num_nl {x : Rat} (h : x ≠ 0) : nl (bl x.num.natAbs) ≠ 0 := by
  rw [nl_bl]; have : x.num ≠ 0 := fun e => h (Rat.num_eq_zero.1 e); omega
theorem Aof_inn {h : Heap} {k1 k2 e1 z1 x1 cs1 e2 z2 x2} {p : Nat → RQ} {L} (hp : mapOf cs1 = some p) (ho : mapOk 1048576 p) (hd : detM (fun i => (p i).v) ≠ 0) (hb1 : hget h k1 = some ⟨e1, z1, x1, cs1⟩) (hb2 : hget h k2 = some ⟨e2, z2, x2, rE (detM (fun i => (p i).v))⟩) :
    spAof ((75, spAinv1) :: L) [.func (.func 75) #[] ⟨[.pointer (some ⟨k1, 0, none⟩), .pointer (some ⟨k2, 0, none⟩)]⟩] h = some (.agg ⟨mE (innM (fun i => (p i).v))⟩) := by
  have hop := mapOk_iff.1 ho
  have D := detM_RB (f := fun i => (p i).v) (fun k hk => (hop k hk).rb)
  have I := innM_RB (f := fun i => (p i).v) (fun k hk => (hop k hk).rb)
  rw [show (#[] : Array Value) = ⟨[]⟩ from rfl, spAof_mk (p := fun i => RQ.of (innM (fun i => (p i).v) i)) (by decide) (fun i hi => ?_)]
  · rw [mE_congr (fun i hi => RQ.of_v _)]
  · refine ⟨?_, (RQ.of_ok (I i)).le (by omega)⟩
    unfold rE at hb2
    simp only [List.cons_append, List.nil_append, getL, if_true, spAinv1, hb1, hb2, hp, RQ.of_cells]
    rw [if_pos ⟨⟨by omega, by omega, by omega, by omega⟩, ho, D.num (by omega), D.den (by omega), num_nl hd⟩]
    congr 3
    simp only [rv_can, Int.toNat_natCast]
    unfold innM
    by_cases c : i % 4 = 3
    · rw [if_pos (by omega), if_pos c]
    · rw [if_neg (by omega), if_neg c]
theorem Aof_inv {h : Heap} {k1 k2 e1 z1 e2 z2 x2 cs2} {p : Nat → RQ} {f1 g1} (hf : f1 ≠ 76) (hp : mapOf cs2 = some p) (ho : mapOk 1048576 p) (hb1 : hget h k1 = some ⟨e1, z1, true, mE (innM (fun i => (p i).v))⟩) (hb2 : hget h k2 = some ⟨e2, z2, x2, cs2⟩) :
    spAof [(f1, g1), (76, spAinv2)] [.func (.func 76) #[] ⟨[.pointer (some ⟨k1, 0, none⟩), .pointer (some ⟨k2, 0, none⟩)]⟩] h = some (.agg ⟨mE (invM (fun i => (p i).v))⟩) := by
  have hop := mapOk_iff.1 ho
  have I := innM_RB (f := fun i => (p i).v) (fun k hk => (hop k hk).rb)
  have J := invM_RB (f := fun i => (p i).v) (fun k hk => (hop k hk).rb)
  have oi : mapOk 67108864 (fun i => if i < 12 then RQ.of (innM (fun i => (p i).v) i) else RQ.zero) := mapOk_iff.2 fun i hi => by
    simp only [hi, if_true]; exact (RQ.of_ok (I i)).le (by omega)
  rw [show (#[] : Array Value) = ⟨[]⟩ from rfl, spAof_mk (p := fun i => RQ.of (invM (fun i => (p i).v) i)) (by decide) (fun i hi => ?_)]
  · rw [mE_congr (fun i hi => RQ.of_v _)]
  · refine ⟨?_, (RQ.of_ok (J i hi)).le (by omega)⟩
    simp only [List.cons_append, List.nil_append, getL, if_true, hf, if_false, spAinv2, hb1, hb2, hp, mapOf_mE, RQ.of_cells]
    rw [if_pos ⟨⟨by omega, by omega, by omega, by omega⟩, oi, ho, trivial⟩]
    simp only [Int.toNat_natCast]
    unfold invM
    by_cases c : i % 4 < 3
    · rw [if_pos (by omega), if_pos c, if_pos (by omega), RQ.of_cells, show 4 * (i / 4) + i % 4 = i by omega]
    · rw [if_neg (by omega), if_neg c]
      congr 4
      refine congrArg (fun x : Rat => -x) (dotN_congr 3 (fun k hk => ⟨?_, rfl⟩))
      rw [if_pos (by omega), RQ.of_v]
set_option maxHeartbeats 2000000 in
theorem ok_Ainv : SpecOK Tryz.prog 30 (flat spAinv) := by
  refine flat_run (env_cons ok_Adet (env_cons ok_qSign (env_cons (ok_Aof (L := [(75, spAinv1), (76, spAinv2)]) (env_cons ok_Ainv1 (env_cons ok_Ainv2 (env_nil _)))) (env_nil _)))) mixed tr30 ?_
  intro args v h N hG
  unfold spAinv at hG
  split at hG
  case h_2 => cases hG
  rename_i cs
  split at hG
  case h_2 => cases hG
  rename_i p hp
  split at hG
  case isFalse => cases hG
  rename_i ho
  obtain ⟨l1, _, o1⟩ := mapOf_spec hp
  have t1 : cs.take 36 = cs := List.take_of_length_le (by omega)
  have hop := mapOk_iff.1 ho
  have D := detM_RB (f := fun i => (p i).v) (fun k hk => (hop k hk).rb)
  have Dn := D.num (k := 17179869184) (by omega)
  have Dd := D.den (k := 17179869184) (by omega)
  split at hG
  · rename_i h0
    cases hG
    refine ⟨rfl, by simp, ?_⟩
    rw [h0] at Dn Dd
    have sg0 : (Rat.num 0).sign = 0 := rfl
    simp only [c30, G0, Nat.reduceAdd]
    simp only [↓R0, R1, simprocAttr, -Int.reduceAbs, l1, t1, hp, ho, o1, spAdet, h0, Dn, Dd, spQSign, sg0, Int.sign_zero, List.length_nil, Nat.zero_le, zmap, List.replicate_succ, List.replicate_zero, List.flatten_cons, List.flatten_nil, Fin, isEnd, resL, res1, iE, rE]
    exact ⟨_, rfl, rfl, fun k hk => by simp only [ne_nb hk, if_false]⟩
  rename_i h0
  cases hG
  have hi := fun (hp' : Heap) (b1 : hget hp' (N + 0) = some ⟨29, 36, true, cs⟩) (b2 : hget hp' (N + 2) = some ⟨23, 3, true, rE (detM (fun i => (p i).v))⟩) => Aof_inn (L := [(76, spAinv2)]) hp ho h0 b1 b2
  have hj := fun (hp' : Heap) (b1 : hget hp' (N + 3) = some ⟨29, 36, true, mE (innM (fun i => (p i).v))⟩) (b2 : hget hp' (N + 0) = some ⟨29, 36, true, cs⟩) => Aof_inv (f1 := 75) (g1 := spAinv1) (by decide) hp ho b1 b2
  have fw : flatW (.tuple ⟨[.agg ⟨mE (invM (fun i => (p i).v))⟩, .bool true]⟩) = true := by
    show (List.all [Value.agg ⟨mE (invM (fun i => (p i).v))⟩, .bool true] flatV) = true
    simp only [List.all_cons, List.all_nil, Bool.and_true, Bool.and_eq_true]
    exact ⟨mE_base _, rfl⟩
  have hdet : spAdet [.agg ⟨cs⟩] = some (.agg ⟨rE (detM (fun i => (p i).v))⟩) := by unfold spAdet; simp only [hp]; exact if_pos ho
  generalize detM (fun i => (p i).v) = d at *
  generalize innM (fun i => (p i).v) = f at *
  generalize invM (fun i => (p i).v) = g at *
  refine ⟨fw, by simp, ?_⟩
  have hsg : spQSign [.agg ⟨rE d⟩] = some (.int .i64 d.num.sign) := by
    unfold spQSign rE
    simp only [sv_can]
    exact if_pos ⟨Dn, Dd⟩
  have hs : (d.num.sign = 0) = False := eq_false (fun e => h0 (Rat.num_eq_zero.1 (Int.sign_eq_zero_iff_zero.1 e)))
  have ld := rE_len d
  have od := rE_ok d
  have td : (rE d).take 3 = rE d := rfl
  have sd := setR_all (rE d) [.bool false, .string ⟨⟨[]⟩⟩, .string ⟨⟨[]⟩⟩] rfl
  have lf := mE_len f
  have lg := mE_len g
  have og := mE_ok g
  have of := mE_ok f
  have sf := setR_all (mE f) (part12 f 0) (by rw [lf, part12_len _ (Nat.zero_le _)])
  have sg := setR_all (mE g) (part12 f 0) (by rw [lg, part12_len _ (Nat.zero_le _)])
  rw [part12_zero] at sf sg
  have tg : (mE g).take 36 = mE g := List.take_of_length_le (by omega)
  simp only [c30, G0, Nat.reduceAdd]
  simp only [↓R0, R1, simprocAttr, -Int.reduceAbs, l1, t1, o1, hdet, hsg, hs, ld, od, td, sd, rdS, hi, hj, lf, lg, of, og, sf, sg, tg, Fin, isEnd, resL, res1]
  exact ⟨_, rfl, rfl, fun k hk => by simp only [ne_nb hk, if_false]⟩
end Go.Eng
end
section
set_option linter.unusedVariables false
set_option linter.unusedSimpArgs false
set_option linter.unusedSectionVars false
set_option maxRecDepth 4000
namespace Go.Eng
open Go Go.Proofs Go.IntWalk
def spPNorm : List Value → Option Value
  | [.agg ⟨[.bool s1, .string ⟨⟨l1⟩⟩, .bool s2, .string ⟨⟨l2⟩⟩, .bool s3, .string ⟨⟨l3⟩⟩, .bool s4, .string ⟨⟨l4⟩⟩]⟩] =>
    if l1.length ≤ 34359738368 ∧ l2.length ≤ 34359738368 ∧ l3.length ≤ 34359738368 ∧ l4.length ≤ 34359738368 then some (.agg ⟨pE (sv s1 l1) (sv s2 l2) (sv s3 l3) (sv s4 l4)⟩) else none
  | _ => none
def c104 : ICode :=
  (.seq (.reg [qq 1 (.box 39 8 (.t 0)), qq 2 (.alloc 39 8 [(.bool false), e0, (.bool false), e0, (.bool false), e0, (.bool false), e0])]) (.seq (.dreg [qu 8 (.faddr 0 (.t 1)), qu 9 (.load true 2 (.t 8)), qu 10 (.call 107 [(.t 9)]), qu 11 (.faddr 2 (.t 1)), qv 12 [2] (.load true 2 (.t 11)), qu 13 (.call 107 [(.t 12)]), qu 14 (.faddr 4 (.t 1)), qv 15 [2, 5] (.load true 2 (.t 14)), qu 16 (.call 107 [(.t 15)]), qu 17 (.faddr 6 (.t 1)), qv 18 [2, 5, 8] (.load true 2 (.t 17)), qu 19 (.call 107 [(.t 18)]), qu 20 (.build [(.bool false), e0, (.bool false), e0, (.bool false), e0, (.bool false), e0] [(0, 2, (.t 10)), (2, 2, (.t 13)), (4, 2, (.t 16)), (6, 2, (.t 19))]), qu 3 (.alloc 94 8 [(.bool false), e0, (.bool false), e0, (.bool false), e0, (.bool false), e0]), qm (.store 8 (.t 3) (.t 20))]) (.seq (.seq (.reg [qq 21 (.ixarr 4 2 (.t 3) (ci 3)), qq 22 (.load true 2 (.t 21)), qq 23 (.call 86 [(.t 22)]), qq 24 (.bin .eql (.t 23) (ci 0))]) (.cond (.t 24) (.reg [qq 25 (.call 70 [(ci 1)]), qq 26 (.ixarr 4 2 (.t 3) (ci 3)), qn (.store 2 (.t 26) (.t 25))]) .skip)) (.seq (.reg [qq 27 (.slarr 4 2 (.t 3) none none), qq 28 (.call 123 [(.t 27)]), qq 4 (.alloc 37 2 [(.bool false), e0]), qn (.store 2 (.t 4) (.t 28))]) (.seq (.reg [qq 29 (.ixarr 4 2 (.t 3) (ci 3)), qq 30 (.load true 2 (.t 29)), qq 31 (.call 86 [(.t 30)]), qq 32 (.bin .lss (.t 31) (ci 0)), qq 5 (.mv (.t 32))]) (.seq (.seq (.reg [qq 33 (.load true 8 (.t 3)), qq 34 (.mv (ci 0))]) (.block 0 (.loop (.seq (.reg [qq 35 (.bin .lss (.t 34) (ci 4))]) (.seq (.cond (.t 35) .skip (.exit 0)) (.seq (.block 1 (.seq (.reg [qq 36 (.mv (.t 34)), qq 37 (.idarr 4 true 2 (.t 33) (.t 34)), qq 7 (.alloc 37 2 [(.bool false), e0]), qq 6 (.mv (.t 36)), qn (.store 2 (.t 7) (.t 37))]) (.seq (.reg [qq 39 (.load true 2 (.t 7)), qq 40 (.load true 2 (.t 4)), qq 41 (.call 105 [(.t 39), (.t 40)]), qq 38 (.mv (.t 41)), qq 42 (.ext (.t 38) 0), qq 43 (.ext (.t 38) 1), qq 44 (.ext (.t 38) 2), qn (.store 2 (.t 7) (.t 42))]) (.seq (.seq (.reg [qq 45 (.mv (.t 5))]) (.cond (.t 45) (.reg [qq 46 (.load true 2 (.t 7)), qq 47 (.call 111 [(.t 46)]), qn (.store 2 (.t 7) (.t 47))]) .skip)) (.reg [qq 48 (.mv (.t 6)), qq 49 (.load true 2 (.t 7)), qq 50 (.ixarr 4 2 (.t 3) (.t 48)), qn (.store 2 (.t 50) (.t 49))]))))) (.reg [qq 51 (.bin .add (.t 34) (ci 1)), qq 34 (.mv (.t 51))]))))))) (.seq (.reg [qq 52 (.ixarr 4 2 (.t 3) (ci 0)), qq 53 (.load true 2 (.t 52)), qq 54 (.ixarr 4 2 (.t 3) (ci 1)), qq 55 (.load true 2 (.t 54)), qq 56 (.ixarr 4 2 (.t 3) (ci 2)), qq 57 (.load true 2 (.t 56)), qq 58 (.ixarr 4 2 (.t 3) (ci 3)), qq 59 (.load true 2 (.t 58)), qq 60 (.build [(.bool false), e0, (.bool false), e0, (.bool false), e0, (.bool false), e0] [(0, 2, (.t 53)), (2, 2, (.t 55)), (4, 2, (.t 57)), (6, 2, (.t 59))]), qn (.store 8 (.t 2) (.t 60))]) .ret)))))))
theorem tr104 : trFun Tryz.prog 104 = some ⟨61, [.cell 2 true 8], c104⟩ := by kernel_rfl
set_option maxHeartbeats 2000000 in
theorem ok_pNorm : SpecOK Tryz.prog 104 (flat spPNorm) := by
  refine flat_run (env_cons ok_iNorm (env_cons ok_iSign (env_cons ok_iFrom (env_cons ok_iGcd (env_cons ok_iNeg (env_cons ok_iDiv (env_nil _))))))) mixed tr104 ?_
  intro args v h N hG
  unfold spPNorm at hG
  split at hG
  case h_2 => cases hG
  rename_i s1 l1 s2 l2 s3 l3 s4 l4
  split at hG
  case isFalse => cases hG
  rename_i hl
  obtain ⟨h1, h2, h3, h4⟩ := hl
  cases hG
  refine ⟨rfl, by simp, ?_⟩
  have k1 : l1.length ≤ 1099511627776 := by omega
  have k2 : l2.length ≤ 1099511627776 := by omega
  have k3 : l3.length ≤ 1099511627776 := by omega
  have k4 : l4.length ≤ 1099511627776 := by omega
  have n1 := len_sv (s := s1) h1
  have n2 := len_sv (s := s2) h2
  have n3 := len_sv (s := s3) h3
  have n4 := len_sv (s := s4) h4
  have n4' : (bl (sv s4 l4).natAbs).length ≤ 1099511627776 := by omega
  simp only [c104, G0, Nat.reduceAdd]
  simp only [↓R0, R1, simprocAttr, -Int.reduceAbs, spINorm, k1, k2, k3, k4, iE]
  generalize sv s1 l1 = x at *
  generalize sv s2 l2 = y at *
  generalize sv s3 l3 = z at *
  generalize sv s4 l4 = w at *
  have e1 : (w.sign = 0) = (w = 0) := propext Int.sign_eq_zero_iff_zero
  simp only [↓R0, R1, simprocAttr, -Int.reduceAbs, spISign, n4', e1]
  have rest : ∀ W : Int, W = pW w → (bl W.natAbs).length ≤ 34359738368 := by
    intro W e
    subst e
    unfold pW; split
    · exact Nat.le_trans (bl_length_le (k := 1).2 (by decide)) (by omega)
    · exact n4
  unfold pE pQ pG
  generalize hW : pW w = W at *
  have nW := rest W rfl
  have nW2 : (bl W.natAbs).length ≤ 1099511627776 := by omega
  have hWne : W ≠ 0 := by rw [← hW]; exact pW_ne w
  have dv1 : (Nat.gcd (Nat.gcd (Nat.gcd x.natAbs y.natAbs) z.natAbs) W.natAbs : Int) ∣ x := by
    refine Int.ofNat_dvd_left.2 ?_; exact Nat.dvd_trans (Nat.gcd_dvd_left _ _) (Nat.dvd_trans (Nat.gcd_dvd_left _ _) (Nat.gcd_dvd_left _ _))
  have dv2 : (Nat.gcd (Nat.gcd (Nat.gcd x.natAbs y.natAbs) z.natAbs) W.natAbs : Int) ∣ y := by
    refine Int.ofNat_dvd_left.2 ?_; exact Nat.dvd_trans (Nat.gcd_dvd_left _ _) (Nat.dvd_trans (Nat.gcd_dvd_left _ _) (Nat.gcd_dvd_right _ _))
  have dv3 : (Nat.gcd (Nat.gcd (Nat.gcd x.natAbs y.natAbs) z.natAbs) W.natAbs : Int) ∣ z := by
    refine Int.ofNat_dvd_left.2 ?_; exact Nat.dvd_trans (Nat.gcd_dvd_left _ _) (Nat.gcd_dvd_right _ _)
  have dv4 : (Nat.gcd (Nat.gcd (Nat.gcd x.natAbs y.natAbs) z.natAbs) W.natAbs : Int) ∣ W := by
    refine Int.ofNat_dvd_left.2 ?_; exact Nat.gcd_dvd_right _ _
  generalize hGG : Nat.gcd (Nat.gcd (Nat.gcd x.natAbs y.natAbs) z.natAbs) W.natAbs = G at *
  have hG0 : 0 < G := by rw [← hGG]; exact Nat.gcd_pos_of_pos_right _ (by omega)
  have mG : (bl G).length ≤ 34359738368 := by
    rw [← hGG]; exact Nat.le_trans (bl_length_mono (Nat.gcd_le_right _ (by omega))) nW
  have f1 : ¬ ((G : Int) < 0) := by omega
  have f2 : ¬ ((G : Int) = 0) := by omega
  have f3 : ¬ (G = 0) := by omega
  have f5 : sv false (bl G) = (G : Int) := by rw [sv_false, nl_bl]
  have q1 : (bl (x / (G : Int)).natAbs).length ≤ 1099511627776 := Nat.le_trans (bl_length_mono (Int.natAbs_ediv_le_natAbs _ _)) (by omega)
  have q2 : (bl (y / (G : Int)).natAbs).length ≤ 1099511627776 := Nat.le_trans (bl_length_mono (Int.natAbs_ediv_le_natAbs _ _)) (by omega)
  have q3 : (bl (z / (G : Int)).natAbs).length ≤ 1099511627776 := Nat.le_trans (bl_length_mono (Int.natAbs_ediv_le_natAbs _ _)) (by omega)
  have q4 : (bl (W / (G : Int)).natAbs).length ≤ 1099511627776 := Nat.le_trans (bl_length_mono (Int.natAbs_ediv_le_natAbs _ _)) (by omega)
  have d1 : -(x / (G : Int)) = -x / (G : Int) := (Int.neg_ediv_of_dvd dv1).symm
  have d2 : -(y / (G : Int)) = -y / (G : Int) := (Int.neg_ediv_of_dvd dv2).symm
  have d3 : -(z / (G : Int)) = -z / (G : Int) := (Int.neg_ediv_of_dvd dv3).symm
  have d4 : -(W / (G : Int)) = -W / (G : Int) := (Int.neg_ediv_of_dvd dv4).symm
  have w1 : IntKind.i64.wrap 1 = 1 := i64_in _ (by omega)
  have w2 : IntKind.i64.wrap 2 = 2 := i64_in _ (by omega)
  have w3 : IntKind.i64.wrap 3 = 3 := i64_in _ (by omega)
  have w4 : IntKind.i64.wrap 4 = 4 := i64_in _ (by omega)
  have eW : (W.sign < 0) = (W < 0) := propext Int.sign_neg_iff
  have z00 : 4 - 0 = 4 := rfl
  by_cases hw : w = 0
  · have hfrom : spIFrom [.int .i64 1] = some (.agg ⟨iE W⟩) := by
      rw [← hW]; unfold pW; rw [if_pos hw]; rfl
    simp only [↓R0, R1, simprocAttr, -Int.reduceAbs, hw, hfrom, iE, spISign, nW2, eW, rdS, spIGcd, ints, gcds, mkSl, z00, List.foldl_cons, List.foldl_nil, Nat.gcd_zero_left, nl_bl, List.forall_mem_cons, n1, n2, n3, nW, List.not_mem_nil, false_implies, implies_true, hGG, f1, Int.natAbs_natCast]
    by_cases hn : W < 0
    · have sW : sv true (bl W.natAbs) = W := by rw [sv_true, nl_bl]; omega
      simp only [↓R0, R1, simprocAttr, -Int.reduceAbs, hn]
      refine lp_step ?_
      simp only [↓R0, R1, simprocAttr, -Int.reduceAbs, hn, spINeg, spIDiv, sW, n1, n2, n3, nW, mG, f1, f2, f3, f5, q1, q2, q3, q4, d1, d2, d3, d4, w1, w2, w3, w4, iE]
      refine lp_step ?_
      simp only [↓R0, R1, simprocAttr, -Int.reduceAbs, hn, spINeg, spIDiv, sW, n1, n2, n3, nW, mG, f1, f2, f3, f5, q1, q2, q3, q4, d1, d2, d3, d4, w1, w2, w3, w4, iE]
      refine lp_step ?_
      simp only [↓R0, R1, simprocAttr, -Int.reduceAbs, hn, spINeg, spIDiv, sW, n1, n2, n3, nW, mG, f1, f2, f3, f5, q1, q2, q3, q4, d1, d2, d3, d4, w1, w2, w3, w4, iE]
      refine lp_step ?_
      simp only [↓R0, R1, simprocAttr, -Int.reduceAbs, hn, spINeg, spIDiv, sW, n1, n2, n3, nW, mG, f1, f2, f3, f5, q1, q2, q3, q4, d1, d2, d3, d4, w1, w2, w3, w4, iE]
      refine lp_step ?_
      simp only [↓R0, R1, simprocAttr, -Int.reduceAbs, hn, Fin, isEnd, resL, res1, iE, rE]
      exact ⟨_, rfl, rfl, fun k hk => by simp only [ne_nb hk, if_false]⟩
    · have sW : sv false (bl W.natAbs) = W := by rw [sv_false, nl_bl]; omega
      simp only [↓R0, R1, simprocAttr, -Int.reduceAbs, hn]
      refine lp_step ?_
      simp only [↓R0, R1, simprocAttr, -Int.reduceAbs, hn, spINeg, spIDiv, sW, n1, n2, n3, nW, mG, f1, f2, f3, f5, q1, q2, q3, q4, d1, d2, d3, d4, w1, w2, w3, w4, iE]
      refine lp_step ?_
      simp only [↓R0, R1, simprocAttr, -Int.reduceAbs, hn, spINeg, spIDiv, sW, n1, n2, n3, nW, mG, f1, f2, f3, f5, q1, q2, q3, q4, d1, d2, d3, d4, w1, w2, w3, w4, iE]
      refine lp_step ?_
      simp only [↓R0, R1, simprocAttr, -Int.reduceAbs, hn, spINeg, spIDiv, sW, n1, n2, n3, nW, mG, f1, f2, f3, f5, q1, q2, q3, q4, d1, d2, d3, d4, w1, w2, w3, w4, iE]
      refine lp_step ?_
      simp only [↓R0, R1, simprocAttr, -Int.reduceAbs, hn, spINeg, spIDiv, sW, n1, n2, n3, nW, mG, f1, f2, f3, f5, q1, q2, q3, q4, d1, d2, d3, d4, w1, w2, w3, w4, iE]
      refine lp_step ?_
      simp only [↓R0, R1, simprocAttr, -Int.reduceAbs, hn, Fin, isEnd, resL, res1, iE, rE]
      exact ⟨_, rfl, rfl, fun k hk => by simp only [ne_nb hk, if_false]⟩
  · have hWw : W = w := by rw [← hW]; unfold pW; rw [if_neg hw]
    subst hWw
    simp only [↓R0, R1, simprocAttr, -Int.reduceAbs, hw, iE, spISign, nW2, eW, rdS, spIGcd, ints, gcds, mkSl, z00, List.foldl_cons, List.foldl_nil, Nat.gcd_zero_left, nl_bl, List.forall_mem_cons, n1, n2, n3, nW, List.not_mem_nil, false_implies, implies_true, hGG, f1, Int.natAbs_natCast]
    by_cases hn : W < 0
    · have sW : sv true (bl W.natAbs) = W := by rw [sv_true, nl_bl]; omega
      simp only [↓R0, R1, simprocAttr, -Int.reduceAbs, hn]
      refine lp_step ?_
      simp only [↓R0, R1, simprocAttr, -Int.reduceAbs, hn, spINeg, spIDiv, sW, n1, n2, n3, nW, mG, f1, f2, f3, f5, q1, q2, q3, q4, d1, d2, d3, d4, w1, w2, w3, w4, iE]
      refine lp_step ?_
      simp only [↓R0, R1, simprocAttr, -Int.reduceAbs, hn, spINeg, spIDiv, sW, n1, n2, n3, nW, mG, f1, f2, f3, f5, q1, q2, q3, q4, d1, d2, d3, d4, w1, w2, w3, w4, iE]
      refine lp_step ?_
      simp only [↓R0, R1, simprocAttr, -Int.reduceAbs, hn, spINeg, spIDiv, sW, n1, n2, n3, nW, mG, f1, f2, f3, f5, q1, q2, q3, q4, d1, d2, d3, d4, w1, w2, w3, w4, iE]
      refine lp_step ?_
      simp only [↓R0, R1, simprocAttr, -Int.reduceAbs, hn, spINeg, spIDiv, sW, n1, n2, n3, nW, mG, f1, f2, f3, f5, q1, q2, q3, q4, d1, d2, d3, d4, w1, w2, w3, w4, iE]
      refine lp_step ?_
      simp only [↓R0, R1, simprocAttr, -Int.reduceAbs, hn, Fin, isEnd, resL, res1, iE, rE]
      exact ⟨_, rfl, rfl, fun k hk => by simp only [ne_nb hk, if_false]⟩
    · have sW : sv false (bl W.natAbs) = W := by rw [sv_false, nl_bl]; omega
      simp only [↓R0, R1, simprocAttr, -Int.reduceAbs, hn]
      refine lp_step ?_
      simp only [↓R0, R1, simprocAttr, -Int.reduceAbs, hn, spINeg, spIDiv, sW, n1, n2, n3, nW, mG, f1, f2, f3, f5, q1, q2, q3, q4, d1, d2, d3, d4, w1, w2, w3, w4, iE]
      refine lp_step ?_
      simp only [↓R0, R1, simprocAttr, -Int.reduceAbs, hn, spINeg, spIDiv, sW, n1, n2, n3, nW, mG, f1, f2, f3, f5, q1, q2, q3, q4, d1, d2, d3, d4, w1, w2, w3, w4, iE]
      refine lp_step ?_
      simp only [↓R0, R1, simprocAttr, -Int.reduceAbs, hn, spINeg, spIDiv, sW, n1, n2, n3, nW, mG, f1, f2, f3, f5, q1, q2, q3, q4, d1, d2, d3, d4, w1, w2, w3, w4, iE]
      refine lp_step ?_
      simp only [↓R0, R1, simprocAttr, -Int.reduceAbs, hn, spINeg, spIDiv, sW, n1, n2, n3, nW, mG, f1, f2, f3, f5, q1, q2, q3, q4, d1, d2, d3, d4, w1, w2, w3, w4, iE]
      refine lp_step ?_
      simp only [↓R0, R1, simprocAttr, -Int.reduceAbs, hn, Fin, isEnd, resL, res1, iE, rE]
      exact ⟨_, rfl, rfl, fun k hk => by simp only [ne_nb hk, if_false]⟩
end Go.Eng
end
section
set_option linter.unusedVariables false
set_option linter.unusedSimpArgs false
set_option linter.unusedSectionVars false
set_option maxRecDepth 20000
namespace Go.Eng
open Go Go.Proofs Go.IntWalk
def spPCoords : List Value → Option Value
  | [.agg ⟨[.bool s1, .string ⟨⟨l1⟩⟩, .bool s2, .string ⟨⟨l2⟩⟩, .bool s3, .string ⟨⟨l3⟩⟩, .bool s4, .string ⟨⟨l4⟩⟩]⟩] =>
    if l1.length ≤ 34359738368 ∧ l2.length ≤ 34359738368 ∧ l3.length ≤ 34359738368 ∧ l4.length ≤ 34359738368 then some (.agg ⟨r3E (Rat.divInt (sv s1 l1) (pW (sv s4 l4))) (Rat.divInt (sv s2 l2) (pW (sv s4 l4))) (Rat.divInt (sv s3 l3) (pW (sv s4 l4)))⟩) else none
  | _ => none
def c57 : ICode :=
  (.seq (.reg [qq 1 (.box 39 8 (.t 0)), qq 2 (.alloc 25 9 [(.bool false), e0, e0, (.bool false), e0, e0, (.bool false), e0, e0])]) (.seq (.reg [qq 6 (.load true 8 (.t 1)), qq 7 (.call 104 [(.t 6)]), qn (.store 8 (.t 1) (.t 7))]) (.seq (.reg [qq 3 (.alloc 25 9 [(.bool false), e0, e0, (.bool false), e0, e0, (.bool false), e0, e0])]) (.seq (.seq (.reg [qq 8 (.faddr 0 (.t 1)), qq 9 (.load true 2 (.t 8)), qq 10 (.faddr 2 (.t 1)), qq 11 (.load true 2 (.t 10)), qq 12 (.faddr 4 (.t 1)), qq 13 (.load true 2 (.t 12)), qq 14 (.build [(.bool false), e0, (.bool false), e0, (.bool false), e0] [(0, 2, (.t 9)), (2, 2, (.t 11)), (4, 2, (.t 13))]), qq 15 (.mv (ci 0))]) (.block 0 (.loop (.seq (.reg [qq 16 (.bin .lss (.t 15) (ci 3))]) (.seq (.cond (.t 16) .skip (.exit 0)) (.seq (.block 1 (.seq (.reg [qq 17 (.mv (.t 15)), qq 18 (.idarr 3 true 2 (.t 14) (.t 15)), qq 5 (.alloc 37 2 [(.bool false), e0]), qq 4 (.mv (.t 17)), qn (.store 2 (.t 5) (.t 18))]) (.reg [qq 20 (.mv (.t 4)), qq 21 (.load true 2 (.t 5)), qq 22 (.faddr 6 (.t 1)), qq 23 (.load true 2 (.t 22)), qq 24 (.call 69 [(.t 21), (.t 23)]), qq 19 (.mv (.t 24)), qq 25 (.ext (.t 19) 0), qq 26 (.ext (.t 19) 1), qq 27 (.ixarr 3 3 (.t 3) (.t 20)), qn (.store 3 (.t 27) (.t 25))]))) (.reg [qq 28 (.bin .add (.t 15) (ci 1)), qq 15 (.mv (.t 28))]))))))) (.seq (.reg [qq 29 (.load true 9 (.t 3)), qn (.store 9 (.t 2) (.t 29))]) .ret)))))
theorem tr57 : trFun Tryz.prog 57 = some ⟨30, [.cell 2 true 9], c57⟩ := by kernel_rfl
set_option maxHeartbeats 4000000 in
theorem ok_pCoords : SpecOK Tryz.prog 57 (flat spPCoords) := by
  refine flat_run (env_cons ok_pNorm (env_cons ok_qMake (env_nil _))) mixed tr57 ?_
  intro args v h N hG
  unfold spPCoords at hG
  split at hG
  case h_2 => cases hG
  rename_i s1 l1 s2 l2 s3 l3 s4 l4
  split at hG
  case isFalse => cases hG
  rename_i hl
  obtain ⟨h1, h2, h3, h4⟩ := hl
  cases hG
  refine ⟨rfl, by simp, ?_⟩
  have n1 := len_sv (s := s1) h1
  have n2 := len_sv (s := s2) h2
  have n3 := len_sv (s := s3) h3
  have n4 := pW_len (len_sv (s := s4) h4) (by omega)
  generalize ex : sv s1 l1 = x at *
  generalize ey : sv s2 l2 = y at *
  generalize ez : sv s3 l3 = z at *
  generalize ew : sv s4 l4 = w at *
  have q1 := pQ_len (x := x) (y := y) (z := z) (w := w) n1
  have q2 := pQ_len (x := x) (y := y) (z := z) (w := w) n2
  have q3 := pQ_len (x := x) (y := y) (z := z) (w := w) n3
  have q4 := pQ_len (x := x) (y := y) (z := z) (w := w) n4
  have d1 := pQ_div (pG_dvd_x x y z w)
  have d2 := pQ_div (pG_dvd_y x y z w)
  have d3 := pQ_div (pG_dvd_z x y z w)
  have ne : ¬ ((pQ x y z w (pW w)).natAbs = 0) := by have := pQ_pos x y z w; omega
  simp only [c57, G0, Nat.reduceAdd]
  simp only [↓R0, R1, simprocAttr, -Int.reduceAbs, spPNorm, h1, h2, h3, h4, ex, ey, ez, ew, pE, iE]
  refine lp_step ?_
  simp only [↓R0, R1, simprocAttr, -Int.reduceAbs, spQMake, q1, q2, q3, q4, nl_bl, ne, d1, rE]
  refine lp_step ?_
  simp only [↓R0, R1, simprocAttr, -Int.reduceAbs, spQMake, q1, q2, q3, q4, nl_bl, ne, d2, rE]
  refine lp_step ?_
  simp only [↓R0, R1, simprocAttr, -Int.reduceAbs, spQMake, q1, q2, q3, q4, nl_bl, ne, d3, rE]
  refine lp_step ?_
  simp only [↓R0, R1, simprocAttr, -Int.reduceAbs, r3E, Fin, isEnd, resL, res1, iE, rE]
  exact ⟨_, rfl, rfl, fun k hk => by simp only [ne_nb hk, if_false]⟩
def spPFrom : List Value → Option Value
  | [.agg ⟨[.bool s1, .string ⟨⟨n1⟩⟩, .string ⟨⟨d1⟩⟩, .bool s2, .string ⟨⟨n2⟩⟩, .string ⟨⟨d2⟩⟩, .bool s3, .string ⟨⟨n3⟩⟩, .string ⟨⟨d3⟩⟩]⟩] =>
    if n1.length ≤ 2147483648 ∧ d1.length ≤ 2147483648 ∧ n2.length ≤ 2147483648 ∧ d2.length ≤ 2147483648 ∧ n3.length ≤ 2147483648 ∧ d3.length ≤ 2147483648 then some (.agg ⟨mkE (rv s1 n1 d1) (rv s2 n2 d2) (rv s3 n3 d3)⟩) else none
  | _ => none
def c59 : ICode :=
  (.seq (.reg [qq 1 (.box 25 9 (.t 0)), qq 2 (.alloc 39 8 [(.bool false), e0, (.bool false), e0, (.bool false), e0, (.bool false), e0])]) (.seq (.reg [qq 3 (.alloc 105 6 [(.bool false), e0, (.bool false), e0, (.bool false), e0]), qq 4 (.alloc 105 6 [(.bool false), e0, (.bool false), e0, (.bool false), e0])]) (.seq (.reg [qq 13 (.call 70 [(ci 1)]), qq 5 (.alloc 37 2 [(.bool false), e0]), qn (.store 2 (.t 5) (.t 13))]) (.seq (.seq (.reg [qq 14 (.load true 9 (.t 1)), qq 15 (.mv (ci 0))]) (.block 0 (.loop (.seq (.reg [qq 16 (.bin .lss (.t 15) (ci 3))]) (.seq (.cond (.t 16) .skip (.exit 0)) (.seq (.block 1 (.seq (.reg [qq 17 (.mv (.t 15)), qq 18 (.idarr 3 true 3 (.t 14) (.t 15)), qq 7 (.alloc 23 3 [(.bool false), e0, e0]), qq 6 (.mv (.t 17)), qn (.store 3 (.t 7) (.t 18))]) (.seq (.reg [qq 20 (.mv (.t 6)), qq 21 (.mv (.t 6)), qq 22 (.load true 3 (.t 7)), qq 23 (.call 90 [(.t 22)]), qq 19 (.mv (.t 23)), qq 24 (.ext (.t 19) 0), qq 25 (.ext (.t 19) 1), qq 26 (.ixarr 3 2 (.t 3) (.t 20)), qn (.store 2 (.t 26) (.t 24)), qq 27 (.ixarr 3 2 (.t 4) (.t 21)), qn (.store 2 (.t 27) (.t 25))]) (.dreg [qu 28 (.load true 2 (.t 5)), qu 29 (.mv (.t 6)), qu 30 (.ixarr 3 2 (.t 4) (.t 29)), qu 31 (.load true 2 (.t 30)), qu 32 (.call 63 [(.t 28), (.t 31)]), qm (.store 2 (.t 5) (.t 32))])))) (.reg [qq 33 (.bin .add (.t 15) (ci 1)), qq 15 (.mv (.t 33))]))))))) (.seq (.reg [qq 8 (.alloc 105 6 [(.bool false), e0, (.bool false), e0, (.bool false), e0])]) (.seq (.seq (.reg [qq 34 (.mv (ci 0))]) (.block 2 (.loop (.seq (.reg [qq 35 (.bin .lss (.t 34) (ci 3))]) (.seq (.cond (.t 35) .skip (.exit 2)) (.seq (.block 3 (.seq (.reg [qq 36 (.mv (.t 34)), qq 9 (.mv (.t 36))]) (.seq (.dreg [qu 38 (.load true 2 (.t 5)), qu 39 (.mv (.t 9)), qu 40 (.ixarr 3 2 (.t 4) (.t 39)), qu 41 (.load true 2 (.t 40)), qu 42 (.call 105 [(.t 38), (.t 41)]), qu 37 (.mv (.t 42)), qu 43 (.ext (.t 37) 0), qu 44 (.ext (.t 37) 1), qu 45 (.ext (.t 37) 2), qu 10 (.alloc 37 2 [(.bool false), e0]), qu 11 (.alloc 37 2 [(.bool false), e0]), qm (.store 2 (.t 10) (.t 43)), qm (.store 2 (.t 11) (.t 44)), qu 12 (.mv (.t 45))]) (.dreg [qu 46 (.mv (.t 9)), qu 47 (.mv (.t 9)), qu 48 (.ixarr 3 2 (.t 3) (.t 47)), qu 49 (.load true 2 (.t 48)), qu 50 (.load true 2 (.t 10)), qu 51 (.call 63 [(.t 49), (.t 50)]), qu 52 (.ixarr 3 2 (.t 8) (.t 46)), qm (.store 2 (.t 52) (.t 51))])))) (.reg [qq 53 (.bin .add (.t 34) (ci 1)), qq 34 (.mv (.t 53))]))))))) (.seq (.reg [qq 54 (.ixarr 3 2 (.t 8) (ci 0)), qq 55 (.load true 2 (.t 54)), qq 56 (.ixarr 3 2 (.t 8) (ci 1)), qq 57 (.load true 2 (.t 56)), qq 58 (.ixarr 3 2 (.t 8) (ci 2)), qq 59 (.load true 2 (.t 58)), qq 60 (.load true 2 (.t 5)), qq 61 (.build [(.bool false), e0, (.bool false), e0, (.bool false), e0, (.bool false), e0] [(0, 2, (.t 55)), (2, 2, (.t 57)), (4, 2, (.t 59)), (6, 2, (.t 60))]), qq 62 (.call 104 [(.t 61)]), qn (.store 8 (.t 2) (.t 62))]) .ret)))))))
theorem tr59 : trFun Tryz.prog 59 = some ⟨63, [.cell 2 true 8], c59⟩ := by kernel_rfl
set_option maxHeartbeats 4000000 in
theorem ok_pFrom : SpecOK Tryz.prog 59 (flat spPFrom) := by
  refine flat_run (env_cons ok_iFrom (env_cons ok_qNumDen (env_cons ok_iMul (env_cons ok_iDiv (env_cons ok_pNorm (env_nil _)))))) mixed tr59 ?_
  intro args v h N hG
  unfold spPFrom at hG
  split at hG
  case h_2 => cases hG
  rename_i s1 n1 d1 s2 n2 d2 s3 n3 d3
  split at hG
  case isFalse => cases hG
  rename_i hl
  obtain ⟨hn1, hd1, hn2, hd2, hn3, hd3⟩ := hl
  cases hG
  refine ⟨rfl, by simp, ?_⟩
  have mn1 : n1.length ≤ 17179869184 := by omega
  have md1 : d1.length + 1 ≤ 17179869184 := by omega
  have b1 := RB.raw (s := s1) hn1 hd1
  obtain ⟨q1, e1⟩ : ∃ q, rv s1 n1 d1 = q := ⟨_, rfl⟩
  rw [e1] at b1
  rw [e1]
  have zn1 := b1.1
  have zd1 : (bl (q1.den : Int).natAbs).length ≤ 2147483649 := b1.2
  have nz1 : (q1.den : Int) ≠ 0 := by have := q1.den_nz; omega
  have mn2 : n2.length ≤ 17179869184 := by omega
  have md2 : d2.length + 1 ≤ 17179869184 := by omega
  have b2 := RB.raw (s := s2) hn2 hd2
  obtain ⟨q2, e2⟩ : ∃ q, rv s2 n2 d2 = q := ⟨_, rfl⟩
  rw [e2] at b2
  rw [e2]
  have zn2 := b2.1
  have zd2 : (bl (q2.den : Int).natAbs).length ≤ 2147483649 := b2.2
  have nz2 : (q2.den : Int) ≠ 0 := by have := q2.den_nz; omega
  have mn3 : n3.length ≤ 17179869184 := by omega
  have md3 : d3.length + 1 ≤ 17179869184 := by omega
  have b3 := RB.raw (s := s3) hn3 hd3
  obtain ⟨q3, e3⟩ : ∃ q, rv s3 n3 d3 = q := ⟨_, rfl⟩
  rw [e3] at b3
  rw [e3]
  have zn3 := b3.1
  have zd3 : (bl (q3.den : Int).natAbs).length ≤ 2147483649 := b3.2
  have nz3 : (q3.den : Int) ≠ 0 := by have := q3.den_nz; omega
  unfold mkE
  obtain ⟨D1, eD1⟩ : ∃ z : Int, (q1.den : Int) = z := ⟨_, rfl⟩
  rw [eD1] at zd1 nz1
  obtain ⟨D2, eD2⟩ : ∃ z : Int, (q2.den : Int) = z := ⟨_, rfl⟩
  rw [eD2] at zd2 nz2
  obtain ⟨D3, eD3⟩ : ∃ z : Int, (q3.den : Int) = z := ⟨_, rfl⟩
  rw [eD3] at zd3 nz3
  rw [eD1, eD2, eD3]
  have f1 : D1 * D2 * D3 / D1 = D2 * D3 := by rw [Int.mul_assoc, Int.mul_ediv_cancel_left _ nz1]
  have f2 : D1 * D2 * D3 / D2 = D1 * D3 := by rw [show D1 * D2 * D3 = D2 * (D1 * D3) by grind, Int.mul_ediv_cancel_left _ nz2]
  have f3 : D1 * D2 * D3 / D3 = D1 * D2 := by rw [Int.mul_ediv_cancel _ nz3]
  have y12 := Lmul zd1 zd2
  have y23 := Lmul zd2 zd3
  have y13 := Lmul zd1 zd3
  have y123 := Lmul y12 zd3
  have x1 := Lmul zn1 y23
  have x2 := Lmul zn2 y13
  have x3 := Lmul zn3 y12
  have o1 : (bl (Int.natAbs 1)).length ≤ 34359738368 := Nat.le_trans (bl_length_le (k := 1).2 (by decide)) (by omega)
  have Ly12 : (bl (D1 * D2).natAbs).length ≤ 34359738368 := Nat.le_trans y12 (by omega)
  have Ly23 : (bl (D2 * D3).natAbs).length ≤ 34359738368 := Nat.le_trans y23 (by omega)
  have Ly13 : (bl (D1 * D3).natAbs).length ≤ 34359738368 := Nat.le_trans y13 (by omega)
  have Ly123 : (bl (D1 * D2 * D3).natAbs).length ≤ 34359738368 := Nat.le_trans y123 (by omega)
  have Lx1 : (bl (q1.num * (D2 * D3)).natAbs).length ≤ 34359738368 := Nat.le_trans x1 (by omega)
  have Lx2 : (bl (q2.num * (D1 * D3)).natAbs).length ≤ 34359738368 := Nat.le_trans x2 (by omega)
  have Lx3 : (bl (q3.num * (D1 * D2)).natAbs).length ≤ 34359738368 := Nat.le_trans x3 (by omega)
  have Ln1 : (bl q1.num.natAbs).length ≤ 34359738368 := Nat.le_trans zn1 (by omega)
  have Ld1 : (bl D1.natAbs).length ≤ 34359738368 := Nat.le_trans zd1 (by omega)
  have Ln2 : (bl q2.num.natAbs).length ≤ 34359738368 := Nat.le_trans zn2 (by omega)
  have Ld2 : (bl D2.natAbs).length ≤ 34359738368 := Nat.le_trans zd2 (by omega)
  have Ln3 : (bl q3.num.natAbs).length ≤ 34359738368 := Nat.le_trans zn3 (by omega)
  have Ld3 : (bl D3.natAbs).length ≤ 34359738368 := Nat.le_trans zd3 (by omega)
  have sv1 : sv false (bl (Int.natAbs 1)) = 1 := sv_one'
  simp only [c59, G0, Nat.reduceAdd]
  simp only [↓R0, R1, simprocAttr, -Int.reduceAbs, spIFrom, iE]
  refine lp_step ?_
  simp only [↓R0, R1, simprocAttr, -Int.reduceAbs, spQNumDen, spIMul, iE, o1, sv1, Int.one_mul, mn1, md1, e1, mn2, md2, e2, mn3, md3, e3, Ly12, Ly23, Ly13, Ly123, Lx1, Lx2, Lx3, Ln1, Ld1, nz1, eD1, Ln2, Ld2, nz2, eD2, Ln3, Ld3, nz3, eD3]
  refine lp_step ?_
  simp only [↓R0, R1, simprocAttr, -Int.reduceAbs, spQNumDen, spIMul, iE, o1, sv1, Int.one_mul, mn1, md1, e1, mn2, md2, e2, mn3, md3, e3, Ly12, Ly23, Ly13, Ly123, Lx1, Lx2, Lx3, Ln1, Ld1, nz1, eD1, Ln2, Ld2, nz2, eD2, Ln3, Ld3, nz3, eD3]
  refine lp_step ?_
  simp only [↓R0, R1, simprocAttr, -Int.reduceAbs, spQNumDen, spIMul, iE, o1, sv1, Int.one_mul, mn1, md1, e1, mn2, md2, e2, mn3, md3, e3, Ly12, Ly23, Ly13, Ly123, Lx1, Lx2, Lx3, Ln1, Ld1, nz1, eD1, Ln2, Ld2, nz2, eD2, Ln3, Ld3, nz3, eD3]
  refine lp_step ?_
  simp only [↓R0, R1, simprocAttr, -Int.reduceAbs]
  refine lp_step ?_
  simp only [↓R0, R1, simprocAttr, -Int.reduceAbs, spIDiv, spIMul, iE, f1, f2, f3, mn1, md1, e1, mn2, md2, e2, mn3, md3, e3, Ly12, Ly23, Ly13, Ly123, Lx1, Lx2, Lx3, Ln1, Ld1, nz1, eD1, Ln2, Ld2, nz2, eD2, Ln3, Ld3, nz3, eD3]
  refine lp_step ?_
  simp only [↓R0, R1, simprocAttr, -Int.reduceAbs, spIDiv, spIMul, iE, f1, f2, f3, mn1, md1, e1, mn2, md2, e2, mn3, md3, e3, Ly12, Ly23, Ly13, Ly123, Lx1, Lx2, Lx3, Ln1, Ld1, nz1, eD1, Ln2, Ld2, nz2, eD2, Ln3, Ld3, nz3, eD3]
  refine lp_step ?_
  simp only [↓R0, R1, simprocAttr, -Int.reduceAbs, spIDiv, spIMul, iE, f1, f2, f3, mn1, md1, e1, mn2, md2, e2, mn3, md3, e3, Ly12, Ly23, Ly13, Ly123, Lx1, Lx2, Lx3, Ln1, Ld1, nz1, eD1, Ln2, Ld2, nz2, eD2, Ln3, Ld3, nz3, eD3]
  refine lp_step ?_
  simp only [↓R0, R1, simprocAttr, -Int.reduceAbs, spPNorm, pE, mn1, md1, e1, mn2, md2, e2, mn3, md3, e3, Ly12, Ly23, Ly13, Ly123, Lx1, Lx2, Lx3, Ln1, Ld1, nz1, eD1, Ln2, Ld2, nz2, eD2, Ln3, Ld3, nz3, eD3, Fin, isEnd, resL, res1, iE, rE]
  exact ⟨_, rfl, rfl, fun k hk => by simp only [ne_nb hk, if_false]⟩
end Go.Eng
end
section
set_option linter.unusedVariables false
set_option linter.unusedSimpArgs false
set_option linter.unusedSectionVars false
set_option maxRecDepth 20000
namespace Go.Eng
open Go Go.Proofs Go.IntWalk
def spArat : List Value → Option Value
  | [.agg ⟨[.bool s, .string ⟨⟨l⟩⟩]⟩] => if l.length ≤ 17179869184 then some (.agg ⟨rE (sv s l : Rat)⟩) else none
  | _ => none
def c65 : ICode :=
  (.seq (.reg [qq 1 (.box 37 2 (.t 0)), qq 2 (.alloc 23 3 [(.bool false), e0, e0])]) (.seq (.reg [qq 3 (.faddr 0 (.t 1)), qq 4 (.load false 1 (.t 3)), qq 5 (.faddr 1 (.t 1)), qq 6 (.load false 1 (.t 5)), qq 7 (.build [(.bool false), e0, e0] [(0, 1, (.t 4)), (1, 1, (.t 6))]), qq 8 (.call 93 [(.t 7)]), qn (.store 3 (.t 2) (.t 8))]) .ret))
theorem tr65 : trFun Tryz.prog 65 = some ⟨9, [.cell 2 true 3], c65⟩ := by kernel_rfl
theorem rv_nil (s : Bool) (l : List UInt8) : rv s l [] = (sv s l : Rat) := by unfold rv; exact divInt_one _
theorem ok_Arat : SpecOK Tryz.prog 65 (flat spArat) := by
  refine flat_run (env_cons ok_qNorm (env_nil _)) mixed tr65 ?_
  intro args v h N hG
  unfold spArat at hG
  split at hG
  case h_2 => cases hG
  rename_i s l
  split at hG
  case isFalse => cases hG
  rename_i hl
  cases hG
  refine ⟨rfl, by simp, ?_⟩
  simp only [c65, G0, Nat.reduceAdd]
  simp only [↓R0, R1, simprocAttr, -Int.reduceAbs, spQNorm, hl, rv_nil, Fin, isEnd, resL, res1, iE, rE]
  exact ⟨_, rfl, rfl, fun k hk => by simp only [ne_nb hk, if_false]⟩
def spArefl1 : List Value → Heap → Option Value
  | [.int .i64 r, .int .i64 c, .pointer (some ⟨k1, 0, none⟩), .pointer (some ⟨k2, 0, none⟩)], h => match hget h k1, hget h k2 with
    | some ⟨_, _, _, [.slice (some ⟨k3, 0, none⟩) 4 4]⟩, some ⟨_, _, _, [.bool s, .string ⟨⟨n⟩⟩, .string ⟨⟨d⟩⟩]⟩ => match hget h k3 with
      | some ⟨_, _, _, cs⟩ => match arrOf 4 cs with
        | some p => if (0 ≤ r ∧ r < 4 ∧ 0 ≤ c ∧ c < 4) ∧ arrOk 4 1048576 p ∧ n.length ≤ 67108864 ∧ d.length ≤ 67108864 then
            some (.agg ⟨rE ((if r = c then 1 else 0) - (2 * ((p r.toNat).v * (p c.toNat).v)) / rv s n d)⟩) else none
        | none => none
      | none => none
    | _, _ => none
  | _, _ => none
def c67 : ICode :=
  (.seq (.reg [qq 6 (.alloc 23 3 [(.bool false), e0, e0])]) (.seq (.dreg [qu 10 (.call 27 [(ci 2)]), qv 11 [0] (.load false 1 (.t 2)), qu 12 (.mv (.t 0)), qu 13 (.ixsl 3 (.t 11) (.t 12)), qv 14 [0] (.load true 3 (.t 13)), qv 15 [0] (.load false 1 (.t 2)), qu 16 (.mv (.t 1)), qu 17 (.ixsl 3 (.t 15) (.t 16)), qv 18 [0] (.load true 3 (.t 17)), qu 19 (.call 23 [(.t 14), (.t 18)]), qu 20 (.call 23 [(.t 10), (.t 19)]), qv 21 [0, 9, 10] (.load true 3 (.t 3)), qu 22 (.call 26 [(.t 20), (.t 21)]), qu 9 (.mv (.t 22)), qu 23 (.ext (.t 9) 0), qu 24 (.ext (.t 9) 1), qu 7 (.alloc 23 3 [(.bool false), e0, e0]), qm (.store 3 (.t 7) (.t 23)), qu 8 (.mv (.t 24))]) (.seq (.dreg [qu 25 (.mv (.t 0)), qu 26 (.mv (.t 1)), qu 27 (.call 46 [(.t 25), (.t 26)]), qv 28 [2] (.load true 3 (.t 7)), qu 29 (.call 68 [(.t 27), (.t 28)]), qm (.store 3 (.t 6) (.t 29))]) .ret)))
theorem tr67 : trFun Tryz.prog 67 = some ⟨30, [.cell 6 true 3], c67⟩ := by kernel_rfl
theorem rv_zero_of {s : Bool} {n d : List UInt8} (h : nl n = 0) : rv s n d = 0 := by
  unfold rv; rw [(sv_eq_zero s n).2 h, Rat.zero_divInt]
theorem two_two : ((2 : Int) : Rat) = 2 := rfl
theorem RB.two : RB 2 1 := ⟨bl_length_le.2 (by decide), bl_length_le.2 (by decide)⟩
theorem rdiv_zero (x : Rat) : x / 0 = 0 := by rw [Rat.div_def, Rat.inv_zero, Rat.mul_zero]
set_option maxHeartbeats 2000000 in
theorem ok_Arefl1 : SpecOK Tryz.prog 67 (rdS spArefl1) := by
  refine rd_run (env_cons ok_qFrom (env_cons ok_qMul (env_cons ok_qDiv (env_cons ok_Aone (env_cons ok_qSub (env_nil _)))))) mixed tr67 ?_ ?_
  · intro args h h' v hle e
    unfold spArefl1 at e ⊢
    split at e
    · split at e
      · rename_i b1 b2
        split at e
        · rename_i b3
          simp only [hle _ _ b1, hle _ _ b2, hle _ _ b3]; exact e
        · cases e
      · cases e
    · cases e
  intro args v h N hG hN
  unfold spArefl1 at hG
  split at hG
  case h_2 => cases hG
  rename_i r c k1 k2
  split at hG
  case h_2 => cases hG
  rename_i e1 z1 x1 k3 e2 z2 x2 s n d hb1 hb2
  split at hG
  case h_2 => cases hG
  rename_i e3 z3 x3 cs hb3
  split at hG
  case h_2 => cases hG
  rename_i p hp
  split at hG
  case isFalse => cases hG
  rename_i hl
  obtain ⟨⟨hr0, hr, hc0, hc⟩, ho, hn, hd⟩ := hl
  obtain ⟨r, rfl⟩ := Int.eq_ofNat_of_zero_le hr0
  obtain ⟨c, rfl⟩ := Int.eq_ofNat_of_zero_le hc0
  simp only [Int.toNat_natCast] at hG
  obtain ⟨l1, a1, o1⟩ := arrOf_spec hp
  have hop := arrOk_iff.1 ho
  have n1 := hN _ _ hb1
  have n2 := hN _ _ hb2
  have n3 := hN _ _ hb3
  have ne1 : ∀ j, (N + j = k1) = False := fun j => eq_false (by omega)
  have ne2 : ∀ j, (N + j = k2) = False := fun j => eq_false (by omega)
  have ne3 : ∀ j, (N + j = k3) = False := fun j => eq_false (by omega)
  have hr4 : ((r : Int) < 4) = True := eq_true (by omega)
  have hc4 : ((c : Int) < 4) = True := eq_true (by omega)
  have hr4' : (r < 4) = True := eq_true (by omega)
  have hc4' : (c < 4) = True := eq_true (by omega)
  have w1 : (r * 3 + 3 ≤ 12) = True := eq_true (by omega)
  have w2 : (c * 3 + 3 ≤ 12) = True := eq_true (by omega)
  have p1 := a1 r (by omega)
  have p2 := a1 c (by omega)
  rw [qcells] at p1 p2
  have O1 := hop r (by omega)
  have O2 := hop c (by omega)
  have on1 := Nat.le_trans O1.1 (by omega : 1048576 ≤ 8589934592)
  have od1 := Nat.le_trans O1.2 (by omega : 1048576 ≤ 8589934592)
  have on2 := Nat.le_trans O2.1 (by omega : 1048576 ≤ 8589934592)
  have od2 := Nat.le_trans O2.2 (by omega : 1048576 ≤ 8589934592)
  have P : RB (rv (p r).s (p r).n (p r).d * rv (p c).s (p c).n (p c).d) 2097154 := O1.rb.mul O2.rb (by omega)
  have Pn := P.num (k := 8589934592) (by omega)
  have Pd := P.den (k := 8589934592) (by omega)
  have Q := RB.two.mul P (k := 2097155) (by omega)
  have Qn := Q.num (k := 8589934592) (by omega)
  have Qd := Q.den (k := 8589934592) (by omega)
  have tn := RB.two.num (k := 8589934592) (by omega)
  have td := RB.two.den (k := 8589934592) (by omega)
  have hn' := Nat.le_trans hn (by omega : 67108864 ≤ 8589934592)
  have hd' := Nat.le_trans hd (by omega : 67108864 ≤ 8589934592)
  obtain ⟨o, eo⟩ : ∃ o : Rat, (if (r : Int) = (c : Int) then (1 : Rat) else 0) = o := ⟨_, rfl⟩
  have Ob : RB o 1 := by rw [← eo]; split; exact RB.one; exact RB.zero
  have On := Ob.num (k := 8589934592) (by omega)
  have Od := Ob.den (k := 8589934592) (by omega)
  have hone : spAone [.int .i64 (r : Int), .int .i64 (c : Int)] = some (.agg ⟨rE o⟩) := by rw [← eo]; rfl
  rw [eo] at hG
  by_cases h0 : nl n = 0
  · have e0 : (p r).v * (p c).v = rv (p r).s (p r).n (p r).d * rv (p c).s (p c).n (p c).d := rfl
    have os : o - 0 = o := by grind
    rw [rv_zero_of h0, rdiv_zero] at hG
    cases hG
    refine ⟨rfl, by simp, ?_⟩
    simp only [c67, G0, Nat.reduceAdd]
    simp only [↓R0, R1, simprocAttr, -Int.reduceAbs, ne1, ne2, ne3, hb1, hb2, hb3, hr4, hc4, hr4', hc4', w1, w2, l1, Nat.reduceMul, p1, p2, spQFrom, two_two, spQMul, spQDiv, on1, od1, on2, od2, Pn, Pd, Qn, Qd, tn, td, hn', hd', h0, hone, spQSub, On, Od, List.length_nil, Nat.zero_le, rv0, rE, rv_can, Fin, isEnd, resL, res1, iE, rE]
    exact ⟨_, rfl, rfl, fun k hk => by simp only [ne_nb hk, if_false]⟩
  · have h0' := eq_false h0
    have V := (Q.div (RB.raw (s := s) hn hd) (k := 134217728) (by omega) (by omega))
    have Vn := V.num (k := 8589934592) (by omega)
    have Vd := V.den' (k := 8589934592) (by omega)
    cases hG
    refine ⟨rfl, by simp, ?_⟩
    simp only [c67, G0, Nat.reduceAdd]
    simp only [↓R0, R1, simprocAttr, -Int.reduceAbs, ne1, ne2, ne3, hb1, hb2, hb3, hr4, hc4, hr4', hc4', w1, w2, l1, Nat.reduceMul, p1, p2, spQFrom, two_two, spQMul, spQDiv, on1, od1, on2, od2, Pn, Pd, Qn, Qd, tn, td, hn', hd', h0', hone, spQSub, On, Od, Vn, Vd, rE, rv_can, Fin, isEnd, resL, res1, iE, rE]
    exact ⟨_, rfl, rfl, fun k hk => by simp only [ne_nb hk, if_false]⟩
theorem Aof_refl {h : Heap} {k1 k2 k3 e1 z1 x1 e2 z2 x2 e3 z3 x3 cs} {p : Nat → RQ} {t : Rat} (hb1 : hget h k1 = some ⟨e1, z1, x1, [.slice (some ⟨k3, 0, none⟩) 4 4]⟩) (hb2 : hget h k2 = some ⟨e2, z2, x2, rE t⟩) (hb3 : hget h k3 = some ⟨e3, z3, x3, cs⟩) (hp : arrOf 4 cs = some p) (ho : arrOk 4 1048576 p) (ht : RB t 67108864) :
    spAof [(67, spArefl1)] [.func (.func 67) #[] ⟨[.pointer (some ⟨k1, 0, none⟩), .pointer (some ⟨k2, 0, none⟩)]⟩] h = some (.agg ⟨mE (fun i => idM i - (2 * ((p (i / 4)).v * (p (i % 4)).v)) / t)⟩) := by
  have hop := arrOk_iff.1 ho
  have B : ∀ i, i < 12 → RB (idM i - (2 * ((p (i / 4)).v * (p (i % 4)).v)) / t) 134217728 := fun i hi => by
    have I : RB (idM i) 1 := by unfold idM; split; exact RB.one; exact RB.zero
    exact I.sub ((RB.two.mul ((hop _ (by omega)).rb.mul (hop _ (by omega)).rb (k := 2097154) (by omega)) (k := 2097155) (by omega)).div ht (k := 69206019) (by omega) (by omega)) (by omega)
  rw [show (#[] : Array Value) = ⟨[]⟩ from rfl, spAof_mk (p := fun i => RQ.of (idM i - (2 * ((p (i / 4)).v * (p (i % 4)).v)) / t)) (by decide) (fun i hi => ?_)]
  · rw [mE_congr (fun i hi => RQ.of_v _)]
  · refine ⟨?_, (RQ.of_ok (B i hi)).le (by omega)⟩
    unfold rE at hb2
    simp only [List.cons_append, List.nil_append, getL, if_true, spArefl1, hb1, hb2, hb3, hp, RQ.of_cells]
    rw [if_pos ⟨⟨by omega, by omega, by omega, by omega⟩, ho, ht.num (by omega), ht.den (by omega)⟩]
    simp only [rv_can, Int.toNat_natCast, Int.ofNat_inj]; rfl
def spArefl : List Value → Option Value
  | [.agg ⟨[.bool s1, .string ⟨⟨l1⟩⟩, .bool s2, .string ⟨⟨l2⟩⟩, .bool s3, .string ⟨⟨l3⟩⟩, .bool s4, .string ⟨⟨l4⟩⟩]⟩] =>
    if l1.length ≤ 65536 ∧ l2.length ≤ 65536 ∧ l3.length ≤ 65536 ∧ l4.length ≤ 65536 then some (.agg ⟨mE (reflM (sv s1 l1) (sv s2 l2) (sv s3 l3) (sv s4 l4))⟩) else none
  | _ => none
def c25 : ICode :=
  (.seq (.reg [qq 1 (.box 48 8 (.t 0)), qq 2 (.alloc 29 36 [(.bool false), e0, e0, (.bool false), e0, e0, (.bool false), e0, e0, (.bool false), e0, e0, (.bool false), e0, e0, (.bool false), e0, e0, (.bool false), e0, e0, (.bool false), e0, e0, (.bool false), e0, e0, (.bool false), e0, e0, (.bool false), e0, e0, (.bool false), e0, e0])]) (.seq (.dreg [qu 5 (.faddr 0 (.t 1)), qu 6 (.load true 2 (.t 5)), qu 7 (.call 65 [(.t 6)]), qu 8 (.faddr 2 (.t 1)), qv 9 [2] (.load true 2 (.t 8)), qu 10 (.call 65 [(.t 9)]), qu 11 (.faddr 4 (.t 1)), qv 12 [2, 5] (.load true 2 (.t 11)), qu 13 (.call 65 [(.t 12)]), qu 14 (.faddr 6 (.t 1)), qv 15 [2, 5, 8] (.load true 2 (.t 14)), qu 16 (.call 65 [(.t 15)]), qu 17 (.call 66 [(.t 16)]), qu 18 (.bslice 23 3 4 [(.bool false), e0, e0, (.bool false), e0, e0, (.bool false), e0, e0, (.bool false), e0, e0] [(0, 3, (.t 7)), (3, 3, (.t 10)), (6, 3, (.t 13)), (9, 3, (.t 17))]), qu 3 (.alloc 65 1 [(.slice none 0 0)]), qm (.store 1 (.t 3) (.t 18))]) (.seq (.dreg [qu 19 (.load false 1 (.t 3)), qu 20 (.slsl 3 (.t 19) none (some (ci 3))), qu 21 (.load false 1 (.t 3)), qu 22 (.slsl 3 (.t 21) none (some (ci 3))), qu 23 (.call 58 [(.t 20), (.t 22)]), qu 4 (.alloc 23 3 [(.bool false), e0, e0]), qm (.store 3 (.t 4) (.t 23))]) (.seq (.reg [qq 24 (.mkfn 67 [(.t 3), (.t 4)]), qq 25 (.call 42 [(.t 24)]), qn (.store 36 (.t 2) (.t 25))]) .ret))))
theorem tr25 : trFun Tryz.prog 25 = some ⟨26, [.cell 2 true 36], c25⟩ := by kernel_rfl
set_option maxHeartbeats 2000000 in
theorem ok_Arefl : SpecOK Tryz.prog 25 (flat spArefl) := by
  refine flat_run (env_cons ok_Arat (env_cons ok_qNeg (env_cons ok_Adot (env_cons (ok_Aof (L := [(67, spArefl1)]) (env_cons ok_Arefl1 (env_nil _))) (env_nil _))))) mixed tr25 ?_
  intro args v h N hG
  unfold spArefl at hG
  split at hG
  case h_2 => cases hG
  rename_i s1 l1 s2 l2 s3 l3 s4 l4
  split at hG
  case isFalse => cases hG
  rename_i hl
  obtain ⟨h1, h2, h3, h4⟩ := hl
  cases hG
  have g1 : l1.length ≤ 17179869184 := by omega
  have g2 : l2.length ≤ 17179869184 := by omega
  have g3 : l3.length ≤ 17179869184 := by omega
  have g4 : l4.length ≤ 17179869184 := by omega
  have b1 : RB (sv s1 l1 : Rat) 65537 := RB.int (Nat.le_trans (len_sv h1) (by omega)) (by omega)
  have b2 : RB (sv s2 l2 : Rat) 65537 := RB.int (Nat.le_trans (len_sv h2) (by omega)) (by omega)
  have b3 : RB (sv s3 l3 : Rat) 65537 := RB.int (Nat.le_trans (len_sv h3) (by omega)) (by omega)
  have b4 : RB (sv s4 l4 : Rat) 65537 := RB.int (Nat.le_trans (len_sv h4) (by omega)) (by omega)
  obtain ⟨a, ea⟩ : ∃ q : Rat, (sv s1 l1 : Rat) = q := ⟨_, rfl⟩
  obtain ⟨b, eb⟩ : ∃ q : Rat, (sv s2 l2 : Rat) = q := ⟨_, rfl⟩
  obtain ⟨c, ec⟩ : ∃ q : Rat, (sv s3 l3 : Rat) = q := ⟨_, rfl⟩
  obtain ⟨d, ed⟩ : ∃ q : Rat, (sv s4 l4 : Rat) = q := ⟨_, rfl⟩
  rw [ea] at b1; rw [eb] at b2; rw [ec] at b3; rw [ed] at b4
  rw [ea, eb, ec, ed]
  refine ⟨mE_base (reflM a b c d), by simp, ?_⟩
  have dn := b4.num (k := 17179869184) (by omega)
  have dd := b4.den (k := 17179869184) (by omega)
  obtain ⟨l, el⟩ : ∃ l : List RQ, l = [RQ.of a, RQ.of b, RQ.of c, RQ.of (-d)] := ⟨_, rfl⟩
  have ar : arrOf 4 (rqs l) = some (fun i => (l[i]?).getD RQ.zero) := by
    unfold arrOf; rw [ratsOf_rqs]; subst el; rfl
  have okl : arrOk 4 1048576 (fun i => (l[i]?).getD RQ.zero) := arrOk_iff.2 fun i hi => by
    subst el
    match i, hi with
    | 0, _ => exact (RQ.of_ok b1).le (by omega)
    | 1, _ => exact (RQ.of_ok b2).le (by omega)
    | 2, _ => exact (RQ.of_ok b3).le (by omega)
    | 3, _ => exact (RQ.of_ok b4.neg).le (by omega)
  have hv : ∀ i, i < 4 → ((l[i]?).getD RQ.zero).v = nrm a b c d i := fun i hi => by
    subst el
    match i, hi with
    | 0, _ => exact RQ.of_v _
    | 1, _ => exact RQ.of_v _
    | 2, _ => exact RQ.of_v _
    | 3, _ => exact RQ.of_v _
  have S := dotN_RB (n := 3) (a := nrm a b c d) (b := nrm a b c d) (i := 65537) (j := 65537) (K := 1048576) (fun k hk => by
    match k, hk with
    | 0, _ => exact b1
    | 1, _ => exact b2
    | 2, _ => exact b3) (fun k hk => by
    match k, hk with
    | 0, _ => exact b1
    | 1, _ => exact b2
    | 2, _ => exact b3) (by omega)
  have hd : ∀ hp k z x, hget hp k = some ⟨23, z, x, rqs l⟩ → spAdot [.slice (some ⟨k, 0, none⟩) 3 4, .slice (some ⟨k, 0, none⟩) 3 4] hp = some (.agg ⟨rE (dotN (nrm a b c d) (nrm a b c d) 3)⟩) := by
    intro hp k z x hb
    obtain ⟨q1, q2, _⟩ := arrOf_spec ar
    have L := listAt_arr hb (len := 4) q1 q2 (off := 0) (n := 3) (c := 4) (by omega) (by omega)
    rw [Nat.zero_mul] at L
    unfold spAdot
    simp only [L]
    rw [if_pos ⟨by simp, by simp, by
      rw [List.all_eq_true]; intro y hy
      simp only [List.mem_map, List.mem_range] at hy
      obtain ⟨j, hj, rfl⟩ := hy
      exact decide_eq_true ((arrOk_iff.1 okl _ (by omega)).le (by omega)), by
      rw [List.all_eq_true]; intro y hy
      simp only [List.mem_map, List.mem_range] at hy
      obtain ⟨j, hj, rfl⟩ := hy
      exact decide_eq_true ((arrOk_iff.1 okl _ (by omega)).le (by omega))⟩]
    congr 3
    unfold dotL
    rw [List.length_map, List.length_range]
    refine congrArg rE (dotN_congr 3 (fun k hk => ⟨?_, ?_⟩))
    · rw [List.getElem?_map, List.getElem?_range hk]; simp only [Option.map_some, Option.getD_some, Nat.zero_add]; exact hv k (by omega)
    · rw [List.getElem?_map, List.getElem?_range hk]; simp only [Option.map_some, Option.getD_some, Nat.zero_add]; exact hv k (by omega)
  have hf : ∀ hp k1 k2 k3 z x z3 x3, hget hp k1 = some ⟨65, 1, true, [.slice (some ⟨k3, 0, none⟩) 4 4]⟩ → hget hp k2 = some ⟨23, z, x, rE (dotN (nrm a b c d) (nrm a b c d) 3)⟩ → hget hp k3 = some ⟨23, z3, x3, rqs l⟩ →
      spAof [(67, spArefl1)] [.func (.func 67) #[] ⟨[.pointer (some ⟨k1, 0, none⟩), .pointer (some ⟨k2, 0, none⟩)]⟩] hp = some (.agg ⟨mE (reflM a b c d)⟩) := by
    intro hp k1 k2 k3 z x z3 x3 q1 q2 q3
    rw [Aof_refl q1 q2 q3 ar okl (S.le (by omega)), mE_congr (fun i hi => ?_)]
    unfold reflM
    rw [hv _ (by omega), hv _ (by omega)]
  have hl : [.bool (decide (a.num < 0)), .string ⟨⟨bl a.num.natAbs⟩⟩, .string ⟨⟨if a.den = 1 then [] else bl a.den⟩⟩, .bool (decide (b.num < 0)), .string ⟨⟨bl b.num.natAbs⟩⟩, .string ⟨⟨if b.den = 1 then [] else bl b.den⟩⟩, .bool (decide (c.num < 0)), .string ⟨⟨bl c.num.natAbs⟩⟩, .string ⟨⟨if c.den = 1 then [] else bl c.den⟩⟩, .bool (decide ((-d).num < 0)), .string ⟨⟨bl (-d).num.natAbs⟩⟩, .string ⟨⟨if (-d).den = 1 then [] else bl (-d).den⟩⟩] = rqs l := by subst el; rfl
  have cd : spQNeg [.agg ⟨rE d⟩] = some (.agg ⟨rE (-d)⟩) := by unfold spQNeg rE; simp only [rv_can]; exact if_pos ⟨dn, dd⟩
  have ra : spArat [.agg ⟨[.bool s1, .string ⟨⟨l1⟩⟩]⟩] = some (.agg ⟨rE a⟩) := by rw [← ea]; exact if_pos g1
  have rb : spArat [.agg ⟨[.bool s2, .string ⟨⟨l2⟩⟩]⟩] = some (.agg ⟨rE b⟩) := by rw [← eb]; exact if_pos g2
  have rc : spArat [.agg ⟨[.bool s3, .string ⟨⟨l3⟩⟩]⟩] = some (.agg ⟨rE c⟩) := by rw [← ec]; exact if_pos g3
  have rd : spArat [.agg ⟨[.bool s4, .string ⟨⟨l4⟩⟩]⟩] = some (.agg ⟨rE d⟩) := by rw [← ed]; exact if_pos g4
  have fl : setR (setR (setR (setR [.bool false, .string ⟨⟨[]⟩⟩, .string ⟨⟨[]⟩⟩, .bool false, .string ⟨⟨[]⟩⟩, .string ⟨⟨[]⟩⟩, .bool false, .string ⟨⟨[]⟩⟩, .string ⟨⟨[]⟩⟩, .bool false, .string ⟨⟨[]⟩⟩, .string ⟨⟨[]⟩⟩] 0 (rE a)) 3 (rE b)) 6 (rE c)) 9 (rE (-d)) = rqs l := by subst el; rfl
  have ff : fillI (fun _ => undef) [] [] = some [] := rfl
  generalize dotN (nrm a b c d) (nrm a b c d) 3 = t at *
  generalize reflM a b c d = f at *
  have lt := rE_len t
  have ot := rE_ok t
  have tt : (rE t).take 3 = rE t := rfl
  have st := setR_all (rE t) [.bool false, .string ⟨⟨[]⟩⟩, .string ⟨⟨[]⟩⟩] rfl
  have lf := mE_len f
  have of := mE_ok f
  have sf := setR_all (mE f) (part12 f 0) (by rw [lf, part12_len _ (Nat.zero_le _)])
  rw [part12_zero] at sf
  simp only [c25, G0, Nat.reduceAdd]
  have hd' := fun hp => hd hp (N + 2) 3 true
  have hf' := fun hp => hf hp (N + 3) (N + 4) (N + 2) 3 true 3 true
  simp only [↓R0, R1, simprocAttr, -Int.reduceAbs, ra, rb, rc, rd, cd, rE_len, List.length_set, setR_length, fl, mkSl, rdS, hd', hf', lt, ot, tt, st, lf, of, sf, Fin, isEnd, resL, res1]
  exact ⟨_, rfl, rfl, fun k hk => by simp only [ne_nb hk, if_false]⟩
def spAapp : List Value → Option Value
  | [.agg ⟨cs⟩, .agg ⟨[.bool s1, .string ⟨⟨l1⟩⟩, .bool s2, .string ⟨⟨l2⟩⟩, .bool s3, .string ⟨⟨l3⟩⟩, .bool s4, .string ⟨⟨l4⟩⟩]⟩] => match mapOf cs with
    | some p => if mapOk 1048576 p ∧ l1.length ≤ 65536 ∧ l2.length ≤ 65536 ∧ l3.length ≤ 65536 ∧ l4.length ≤ 65536 then
        some (.agg ⟨mkE (appM (fun i => (p i).v) (Rat.divInt (sv s1 l1) (pW (sv s4 l4))) (Rat.divInt (sv s2 l2) (pW (sv s4 l4))) (Rat.divInt (sv s3 l3) (pW (sv s4 l4))) 0)
          (appM (fun i => (p i).v) (Rat.divInt (sv s1 l1) (pW (sv s4 l4))) (Rat.divInt (sv s2 l2) (pW (sv s4 l4))) (Rat.divInt (sv s3 l3) (pW (sv s4 l4))) 1)
          (appM (fun i => (p i).v) (Rat.divInt (sv s1 l1) (pW (sv s4 l4))) (Rat.divInt (sv s2 l2) (pW (sv s4 l4))) (Rat.divInt (sv s3 l3) (pW (sv s4 l4))) 2)⟩) else none
    | none => none
  | _ => none
def c21 : ICode :=
  (.seq (.reg [qq 2 (.box 29 36 (.t 0)), qq 3 (.box 39 8 (.t 1)), qq 4 (.alloc 39 8 [(.bool false), e0, (.bool false), e0, (.bool false), e0, (.bool false), e0])]) (.seq (.reg [qq 9 (.load true 8 (.t 3)), qq 10 (.call 57 [(.t 9)]), qq 5 (.alloc 25 9 [(.bool false), e0, e0, (.bool false), e0, e0, (.bool false), e0, e0]), qn (.store 9 (.t 5) (.t 10))]) (.seq (.dreg [qu 11 (.slarr 3 3 (.t 5) none none), qu 12 (.call 27 [(ci 1)]), qu 13 (.bslice 23 3 1 [(.bool false), e0, e0] [(0, 3, (.t 12))]), qu 14 (.app 23 3 40 (.t 11) (.t 13)), qu 6 (.mv (.t 14))]) (.seq (.reg [qq 7 (.alloc 25 9 [(.bool false), e0, e0, (.bool false), e0, e0, (.bool false), e0, e0])]) (.seq (.seq (.reg [qq 15 (.mv (ci 0))]) (.block 0 (.loop (.seq (.reg [qq 16 (.bin .lss (.t 15) (ci 3))]) (.seq (.cond (.t 16) .skip (.exit 0)) (.seq (.block 1 (.seq (.reg [qq 17 (.mv (.t 15)), qq 8 (.mv (.t 17))]) (.reg [qq 18 (.mv (.t 8)), qq 19 (.mv (.t 8)), qq 20 (.bin .mul (ci 4) (.t 19)), qq 21 (.mv (.t 8)), qq 22 (.bin .mul (ci 4) (.t 21)), qq 23 (.bin .add (.t 22) (ci 4)), qq 24 (.slarr 12 3 (.t 2) (some (.t 20)) (some (.t 23))), qq 25 (.mv (.t 6)), qq 26 (.call 58 [(.t 24), (.t 25)]), qq 27 (.ixarr 3 3 (.t 7) (.t 18)), qn (.store 3 (.t 27) (.t 26))]))) (.reg [qq 28 (.bin .add (.t 15) (ci 1)), qq 15 (.mv (.t 28))]))))))) (.seq (.reg [qq 29 (.load true 9 (.t 7)), qq 30 (.call 59 [(.t 29)]), qn (.store 8 (.t 4) (.t 30))]) .ret))))))
theorem tr21 : trFun Tryz.prog 21 = some ⟨31, [.cell 4 true 8], c21⟩ := by kernel_rfl
set_option maxHeartbeats 4000000 in
theorem ok_Aapp : SpecOK Tryz.prog 21 (flat spAapp) := by
  refine flat_run (env_cons ok_pCoords (env_cons ok_qFrom (env_cons ok_Adot (env_cons ok_pFrom (env_nil _))))) mixed tr21 ?_
  intro args v h N hG
  unfold spAapp at hG
  split at hG
  case h_2 => cases hG
  rename_i cs s1 l1 s2 l2 s3 l3 s4 l4
  split at hG
  case h_2 => cases hG
  rename_i p hp
  split at hG
  case isFalse => cases hG
  rename_i hl
  obtain ⟨ho, h1, h2, h3, h4⟩ := hl
  cases hG
  refine ⟨rfl, by simp, ?_⟩
  obtain ⟨len, at1, o1⟩ := mapOf_spec hp
  have hop := mapOk_iff.1 ho
  have n4 := pW_len (len_sv (s := s4) h4) (by omega)
  have w0 := pW_ne (sv s4 l4)
  have bx := divInt_RB w0 (len_sv (s := s1) h1) n4
  have by' := divInt_RB w0 (len_sv (s := s2) h2) n4
  have bz := divInt_RB w0 (len_sv (s := s3) h3) n4
  have hco : spPCoords [.agg ⟨[.bool s1, .string ⟨⟨l1⟩⟩, .bool s2, .string ⟨⟨l2⟩⟩, .bool s3, .string ⟨⟨l3⟩⟩, .bool s4, .string ⟨⟨l4⟩⟩]⟩] = some (.agg ⟨r3E (Rat.divInt (sv s1 l1) (pW (sv s4 l4))) (Rat.divInt (sv s2 l2) (pW (sv s4 l4))) (Rat.divInt (sv s3 l3) (pW (sv s4 l4)))⟩) := if_pos ⟨by omega, by omega, by omega, by omega⟩
  generalize Rat.divInt (sv s1 l1) (pW (sv s4 l4)) = x at *
  generalize Rat.divInt (sv s2 l2) (pW (sv s4 l4)) = y at *
  generalize Rat.divInt (sv s3 l3) (pW (sv s4 l4)) = z at *
  have A := fun n hn => appM_RB (f := fun i => (p i).v) (fun k hk => (hop k hk).rb) bx by' bz (by omega) (n := n) hn
  obtain ⟨l, el⟩ : ∃ l : List RQ, l = [RQ.of x, RQ.of y, RQ.of z, RQ.of 1] := ⟨_, rfl⟩
  have hd : ∀ hp k1 k2 n, n < 3 → hget hp k1 = some ⟨29, 36, true, cs⟩ → hget hp k2 = some ⟨23, 3, false, rqs l⟩ → spAdot [.slice (some ⟨k1, 4 * n * 3, none⟩) 4 (12 - 4 * n), .slice (some ⟨k2, 0, none⟩) 4 4] hp = some (.agg ⟨rE (appM (fun i => (p i).v) x y z n)⟩) := by
    intro hp k1 k2 n hn q1 q2
    have L1 := listAt_arr q1 (len := 12) (by omega) at1 (off := 4 * n) (n := 4) (c := 12 - 4 * n) (by omega) (by omega)
    have L2 := listAt_rqs (l := l) (c := 4) q2 (by subst el; simp)
    rw [show l.length = 4 by subst el; rfl] at L2
    unfold spAdot
    simp only [L1, L2]
    rw [if_pos ⟨by subst el; simp, by simp, by
      rw [List.all_eq_true]; intro y hy
      simp only [List.mem_map, List.mem_range] at hy
      obtain ⟨j, hj, rfl⟩ := hy
      exact decide_eq_true ((hop _ (by omega)).le (by omega)), by
      rw [List.all_eq_true]; intro w hw
      subst el
      simp only [List.mem_cons, List.not_mem_nil, or_false] at hw
      rcases hw with rfl | rfl | rfl | rfl
      · exact decide_eq_true ((RQ.of_ok bx).le (by omega))
      · exact decide_eq_true ((RQ.of_ok by').le (by omega))
      · exact decide_eq_true ((RQ.of_ok bz).le (by omega))
      · exact decide_eq_true ((RQ.of_ok RB.one).le (by omega))⟩]
    congr 3
    unfold dotL appM
    rw [List.length_map, List.length_range]
    refine congrArg rE (dotN_congr 4 (fun k hk => ⟨?_, ?_⟩))
    · rw [List.getElem?_map, List.getElem?_range hk]; rfl
    · subst el
      match k, hk with
      | 0, _ => exact RQ.of_v _
      | 1, _ => exact RQ.of_v _
      | 2, _ => exact RQ.of_v _
      | 3, _ => exact RQ.of_v _
  have hd0 := fun hp => hd hp (N + 0) (N + 5) 0 (by omega)
  have hd1 := fun hp => hd hp (N + 0) (N + 5) 1 (by omega)
  have hd2 := fun hp => hd hp (N + 0) (N + 5) 2 (by omega)
  simp only [Nat.mul_zero, Nat.zero_mul, Nat.reduceMul, Nat.reduceSub] at hd0 hd1 hd2
  have A0 := A 0 (by omega)
  have A1 := A 1 (by omega)
  have A2 := A 2 (by omega)
  generalize appM (fun i => (p i).v) x y z 0 = u0 at *
  generalize appM (fun i => (p i).v) x y z 1 = u1 at *
  generalize appM (fun i => (p i).v) x y z 2 = u2 at *
  have hl : [.bool (decide (x.num < 0)), .string ⟨⟨bl x.num.natAbs⟩⟩, .string ⟨⟨if x.den = 1 then [] else bl x.den⟩⟩, .bool (decide (y.num < 0)), .string ⟨⟨bl y.num.natAbs⟩⟩, .string ⟨⟨if y.den = 1 then [] else bl y.den⟩⟩, .bool (decide (z.num < 0)), .string ⟨⟨bl z.num.natAbs⟩⟩, .string ⟨⟨if z.den = 1 then [] else bl z.den⟩⟩, .bool (decide (Rat.num 1 < 0)), .string ⟨⟨bl (Rat.num 1).natAbs⟩⟩, .string ⟨⟨if Rat.den 1 = 1 then [] else bl (Rat.den 1)⟩⟩] = rqs l := by subst el; rfl
  simp only [c21, G0, Nat.reduceAdd]
  have b0 := A0.num (k := 2147483648) (by omega)
  have b0' := A0.den (k := 2147483648) (by omega)
  have b1 := A1.num (k := 2147483648) (by omega)
  have b1' := A1.den (k := 2147483648) (by omega)
  have b2 := A2.num (k := 2147483648) (by omega)
  have b2' := A2.den (k := 2147483648) (by omega)
  simp only [↓R0, R1, simprocAttr, -Int.reduceAbs, hco, r3E, rE, spQFrom, one_one, mkSl, hl]
  refine lp_step ?_
  simp only [↓R0, R1, simprocAttr, -Int.reduceAbs, mkSl, rdS, hd0, rE]
  refine lp_step ?_
  simp only [↓R0, R1, simprocAttr, -Int.reduceAbs, mkSl, rdS, hd1, rE]
  refine lp_step ?_
  simp only [↓R0, R1, simprocAttr, -Int.reduceAbs, mkSl, rdS, hd2, rE]
  refine lp_step ?_
  simp only [↓R0, R1, simprocAttr, -Int.reduceAbs, spPFrom, mkE, pE, rv_can, b0, b0', b1, b1', b2, b2', Fin, isEnd, resL, res1, iE, rE]
  exact ⟨_, rfl, rfl, fun k hk => by simp only [ne_nb hk, if_false]⟩
end Go.Eng
end
section
set_option linter.unusedVariables false
set_option linter.unusedSimpArgs false
set_option linter.unusedSectionVars false
set_option maxRecDepth 8000
namespace Go.Eng
open Go Go.Proofs Go.IntWalk
theorem lmul {a b : Int} {i j k : Nat} (ha : (bl a.natAbs).length ≤ i) (hb : (bl b.natAbs).length ≤ j) (h : i + j ≤ k) : (bl (a * b).natAbs).length ≤ k := by
  rw [Int.natAbs_mul]
  exact Nat.le_trans (bl_length_mul _ _) (by omega)
theorem lle {a : Int} {i k : Nat} (ha : (bl a.natAbs).length ≤ i) (h : i ≤ k) : (bl a.natAbs).length ≤ k := Nat.le_trans ha h
def pZ : List Value := [.bool false, .string ⟨⟨[]⟩⟩, .bool false, .string ⟨⟨[]⟩⟩, .bool false, .string ⟨⟨[]⟩⟩, .bool false, .string ⟨⟨[]⟩⟩]
end Go.Eng
end
section
set_option linter.unusedVariables false
set_option linter.unusedSimpArgs false
set_option linter.unusedSectionVars false
set_option maxRecDepth 20000
namespace Go.Eng
open Go Go.Proofs Go.IntWalk
def spR5Part : List Value → Option Value
  | [.agg ⟨[.bool s, .string ⟨⟨l⟩⟩]⟩, .agg ⟨[.bool t, .string ⟨⟨m⟩⟩]⟩] => if l.length ≤ 68719476736 ∧ m.length ≤ 68719476736 ∧ nl m ≠ 0 then some (.agg ⟨iE (sv s l / sv t m)⟩) else none
  | _ => none
def c110 : ICode :=
  (.seq (.reg [qq 2 (.box 37 2 (.t 0)), qq 3 (.box 37 2 (.t 1)), qq 4 (.alloc 37 2 [(.bool false), e0])]) (.seq (.reg [qq 9 (.load true 2 (.t 2)), qq 10 (.load true 2 (.t 3)), qq 11 (.call 56 [(.t 9), (.t 10)]), qq 8 (.mv (.t 11)), qq 12 (.ext (.t 8) 0), qq 13 (.ext (.t 8) 1), qq 14 (.ext (.t 8) 2), qq 5 (.alloc 37 2 [(.bool false), e0]), qq 6 (.alloc 37 2 [(.bool false), e0]), qn (.store 2 (.t 5) (.t 12)), qn (.store 2 (.t 6) (.t 13)), qq 7 (.mv (.t 14))]) (.seq (.reg [qq 15 (.load true 2 (.t 5)), qn (.store 2 (.t 4) (.t 15))]) .ret)))
theorem tr110 : trFun Tryz.prog 110 = some ⟨16, [.cell 4 true 2], c110⟩ := by kernel_rfl
theorem ok_r5Part : SpecOK Tryz.prog 110 (flat spR5Part) := by
  refine flat_run (env_cons ok_r2Div (env_nil _)) mixed tr110 ?_
  intro args v h N hG
  unfold spR5Part at hG
  split at hG
  case h_2 => cases hG
  rename_i s l t m
  split at hG
  case isFalse => cases hG
  rename_i hl
  obtain ⟨h1, h2, h3⟩ := hl
  cases hG
  refine ⟨rfl, by simp, ?_⟩
  have h3' : ¬ (nl m = 0) := h3
  simp only [c110, G0, Nat.reduceAdd]
  simp only [↓R0, R1, simprocAttr, -Int.reduceAbs, spI2Div, h1, h2, h3', Fin, isEnd, resL, res1, iE, rE]
  exact ⟨_, rfl, rfl, fun k hk => by simp only [ne_nb hk, if_false]⟩
def lG (a b c d : Int) : Nat := Nat.gcd (Nat.gcd (Nat.gcd a.natAbs b.natAbs) c.natAbs) d.natAbs
def lE (a b c d : Int) : List Value := iE (a / (lG a b c d : Int)) ++ iE (b / (lG a b c d : Int)) ++ iE (c / (lG a b c d : Int)) ++ iE (d / (lG a b c d : Int))
theorem lG_pos {a b c d : Int} (h : ¬ (a = 0 ∧ b = 0 ∧ c = 0)) : 0 < lG a b c d := by
  unfold lG
  refine Nat.gcd_pos_of_pos_left _ ?_
  by_cases hc : c = 0
  · refine Nat.gcd_pos_of_pos_left _ ?_
    by_cases hb : b = 0
    · exact Nat.gcd_pos_of_pos_left _ (by omega)
    · exact Nat.gcd_pos_of_pos_right _ (by omega)
  · exact Nat.gcd_pos_of_pos_right _ (by omega)
theorem lG_le {a b c d : Int} {k : Nat} (h1 : (bl a.natAbs).length ≤ k) (h2 : (bl b.natAbs).length ≤ k) (h3 : (bl c.natAbs).length ≤ k) (h : ¬ (a = 0 ∧ b = 0 ∧ c = 0)) : (bl (lG a b c d)).length ≤ k := by
  have hle : lG a b c d ≤ max a.natAbs (max b.natAbs c.natAbs) := by
    unfold lG
    have g : 0 < Nat.gcd (Nat.gcd a.natAbs b.natAbs) c.natAbs := by
      by_cases hc : c = 0
      · refine Nat.gcd_pos_of_pos_left _ ?_
        by_cases hb : b = 0
        · exact Nat.gcd_pos_of_pos_left _ (by omega)
        · exact Nat.gcd_pos_of_pos_right _ (by omega)
      · exact Nat.gcd_pos_of_pos_right _ (by omega)
    refine Nat.le_trans (Nat.gcd_le_left _ g) ?_
    by_cases hc : c = 0
    · subst hc
      rw [show Int.natAbs 0 = 0 from rfl, Nat.gcd_zero_right] at g ⊢
      by_cases hb : b = 0
      · subst hb
        rw [show Int.natAbs 0 = 0 from rfl, Nat.gcd_zero_right]; omega
      · exact Nat.le_trans (Nat.gcd_le_right _ (by omega)) (by omega)
    · exact Nat.le_trans (Nat.gcd_le_right _ (by omega)) (by omega)
  refine Nat.le_trans (bl_length_mono hle) ?_
  rw [Nat.max_def, Nat.max_def]
  split <;> (try split) <;> assumption
theorem lG_d1 (a b c d : Int) : (lG a b c d : Int) ∣ a := by
  rw [← Int.dvd_natAbs]; exact Int.ofNat_dvd.2 (Nat.dvd_trans (Nat.gcd_dvd_left _ _) (Nat.dvd_trans (Nat.gcd_dvd_left _ _) (Nat.gcd_dvd_left _ _)))
theorem lG_d2 (a b c d : Int) : (lG a b c d : Int) ∣ b := by
  rw [← Int.dvd_natAbs]; exact Int.ofNat_dvd.2 (Nat.dvd_trans (Nat.gcd_dvd_left _ _) (Nat.dvd_trans (Nat.gcd_dvd_left _ _) (Nat.gcd_dvd_right _ _)))
theorem lG_d3 (a b c d : Int) : (lG a b c d : Int) ∣ c := by
  rw [← Int.dvd_natAbs]; exact Int.ofNat_dvd.2 (Nat.dvd_trans (Nat.gcd_dvd_left _ _) (Nat.gcd_dvd_right _ _))
theorem lG_d4 (a b c d : Int) : (lG a b c d : Int) ∣ d := by
  rw [← Int.dvd_natAbs]; exact Int.ofNat_dvd.2 (Nat.gcd_dvd_right _ _)
def spR5Norm : List Value → Option Value
  | [.agg ⟨[.bool s1, .string ⟨⟨l1⟩⟩, .bool s2, .string ⟨⟨l2⟩⟩, .bool s3, .string ⟨⟨l3⟩⟩, .bool s4, .string ⟨⟨l4⟩⟩]⟩] =>
    if l1.length ≤ 68719476736 ∧ l2.length ≤ 68719476736 ∧ l3.length ≤ 68719476736 ∧ l4.length ≤ 68719476736 then
      (if sv s1 l1 = 0 ∧ sv s2 l2 = 0 ∧ sv s3 l3 = 0 then some (.tuple ⟨[.agg ⟨[.bool false, .string ⟨⟨[]⟩⟩, .bool false, .string ⟨⟨[]⟩⟩, .bool false, .string ⟨⟨[]⟩⟩, .bool false, .string ⟨⟨[]⟩⟩]⟩, .bool false]⟩)
        else some (.tuple ⟨[.agg ⟨lE (sv s1 l1) (sv s2 l2) (sv s3 l3) (sv s4 l4)⟩, .bool true]⟩)) else none
  | _ => none
def c64 : ICode :=
  (.seq (.reg [qq 1 (.box 48 8 (.t 0)), qq 2 (.alloc 48 8 [(.bool false), e0, (.bool false), e0, (.bool false), e0, (.bool false), e0]), qq 3 (.mv (.c (.bool false)))]) (.seq (.seq (.reg [qq 5 (.faddr 0 (.t 1)), qq 6 (.load true 2 (.t 5)), qq 7 (.call 52 [(.t 6)]), qq 8 (.bin .eql (.t 7) (ci 0)), qq 9 (.mv (.t 8)), ⟨(some 10), (some (9, true)), (.faddr 2 (.t 1))⟩, ⟨(some 11), (some (9, true)), (.load true 2 (.t 10))⟩, ⟨(some 12), (some (9, true)), (.call 52 [(.t 11)])⟩, ⟨(some 13), (some (9, true)), (.bin .eql (.t 12) (ci 0))⟩, qq 14 (.pick (.t 9) (.t 13) (.c (.bool false))), qq 15 (.mv (.t 14)), ⟨(some 16), (some (15, true)), (.faddr 4 (.t 1))⟩, ⟨(some 17), (some (15, true)), (.load true 2 (.t 16))⟩, ⟨(some 18), (some (15, true)), (.call 52 [(.t 17)])⟩, ⟨(some 19), (some (15, true)), (.bin .eql (.t 18) (ci 0))⟩, qq 20 (.pick (.t 15) (.t 19) (.c (.bool false)))]) (.cond (.t 20) (.seq (.reg [qq 21 (.build [(.bool false), e0, (.bool false), e0, (.bool false), e0, (.bool false), e0] []), qn (.store 8 (.t 2) (.t 21)), qq 3 (.mv (.c (.bool false)))]) .ret) .skip)) (.seq (.reg [qq 22 (.faddr 0 (.t 1)), qq 23 (.load true 2 (.t 22)), qq 24 (.faddr 2 (.t 1)), qq 25 (.load true 2 (.t 24)), qq 26 (.faddr 4 (.t 1)), qq 27 (.load true 2 (.t 26)), qq 28 (.faddr 6 (.t 1)), qq 29 (.load true 2 (.t 28)), qq 30 (.bslice 37 2 4 [(.bool false), e0, (.bool false), e0, (.bool false), e0, (.bool false), e0] [(0, 2, (.t 23)), (2, 2, (.t 25)), (4, 2, (.t 27)), (6, 2, (.t 29))]), qq 31 (.call 54 [(.t 30)]), qq 4 (.alloc 37 2 [(.bool false), e0]), qn (.store 2 (.t 4) (.t 31))]) (.seq (.dreg [qu 32 (.faddr 0 (.t 1)), qu 33 (.load true 2 (.t 32)), qu 34 (.load true 2 (.t 4)), qu 35 (.call 110 [(.t 33), (.t 34)]), qu 36 (.faddr 2 (.t 1)), qv 37 [3] (.load true 2 (.t 36)), qv 38 [3] (.load true 2 (.t 4)), qu 39 (.call 110 [(.t 37), (.t 38)]), qu 40 (.faddr 4 (.t 1)), qv 41 [3, 7] (.load true 2 (.t 40)), qv 42 [3, 7] (.load true 2 (.t 4)), qu 43 (.call 110 [(.t 41), (.t 42)]), qu 44 (.faddr 6 (.t 1)), qv 45 [3, 7, 11] (.load true 2 (.t 44)), qv 46 [3, 7, 11] (.load true 2 (.t 4)), qu 47 (.call 110 [(.t 45), (.t 46)]), qu 48 (.build [(.bool false), e0, (.bool false), e0, (.bool false), e0, (.bool false), e0] [(0, 2, (.t 35)), (2, 2, (.t 39)), (4, 2, (.t 43)), (6, 2, (.t 47))]), qm (.store 8 (.t 2) (.t 48)), qu 3 (.mv (.c (.bool true)))]) .ret))))
theorem tr64 : trFun Tryz.prog 64 = some ⟨49, [.cell 2 true 8, .t 3], c64⟩ := by kernel_rfl
set_option maxHeartbeats 4000000 in
theorem ok_r5Norm : SpecOK Tryz.prog 64 (flat spR5Norm) := by
  refine flat_run (env_cons ok_r2Sign (env_cons ok_r2Gcd (env_cons ok_r5Part (env_nil _)))) mixed tr64 ?_
  intro args v h N hG
  unfold spR5Norm at hG
  split at hG
  case h_2 => cases hG
  rename_i s1 l1 s2 l2 s3 l3 s4 l4
  split at hG
  case isFalse => cases hG
  rename_i hl
  obtain ⟨h1, h2, h3, h4⟩ := hl
  have k1 : l1.length ≤ 1099511627776 := by omega
  have k2 : l2.length ≤ 1099511627776 := by omega
  have k3 : l3.length ≤ 1099511627776 := by omega
  have e1 : ((sv s1 l1).sign = 0) = (sv s1 l1 = 0) := propext Int.sign_eq_zero_iff_zero
  have e2 : ((sv s2 l2).sign = 0) = (sv s2 l2 = 0) := propext Int.sign_eq_zero_iff_zero
  have e3 : ((sv s3 l3).sign = 0) = (sv s3 l3 = 0) := propext Int.sign_eq_zero_iff_zero
  split at hG
  · rename_i h0
    obtain ⟨z1, z2, z3⟩ := h0
    cases hG
    refine ⟨rfl, by simp, ?_⟩
    simp only [c64, G0, Nat.reduceAdd]
    simp only [↓R0, R1, simprocAttr, -Int.reduceAbs, spI2Sign, k1, k2, k3, z1, z2, z3, Int.sign_zero, Fin, isEnd, resL, res1, iE, rE]
    exact ⟨_, rfl, rfl, fun k hk => by simp only [ne_nb hk, if_false]⟩
  rename_i h0
  cases hG
  refine ⟨rfl, by simp, ?_⟩
  have hG0 := lG_pos (d := sv s4 l4) h0
  have hGl := lG_le (d := sv s4 l4) (k := 68719476736) (len_sv h1) (len_sv h2) (len_sv h3) h0
  have hGG : Nat.gcd (Nat.gcd (Nat.gcd (nl l1) (nl l2)) (nl l3)) (nl l4) = lG (sv s1 l1) (sv s2 l2) (sv s3 l3) (sv s4 l4) := by
    unfold lG; rw [sv_natAbs, sv_natAbs, sv_natAbs, sv_natAbs]
  have f5 : ∀ G : Nat, sv false (bl G) = (G : Int) := fun G => by rw [sv_false, nl_bl]
  unfold lE
  generalize lG (sv s1 l1) (sv s2 l2) (sv s3 l3) (sv s4 l4) = G at *
  have f1 : ¬ ((G : Int) < 0) := by omega
  have f2 : ¬ (G = 0) := by omega
  have f6 := f5 G
  simp only [c64, G0, Nat.reduceAdd]
  by_cases z1 : sv s1 l1 = 0
  · by_cases z2 : sv s2 l2 = 0
    · have z3 : ¬ (sv s3 l3 = 0) := fun e => h0 ⟨z1, z2, e⟩
      simp only [↓R0, R1, simprocAttr, -Int.reduceAbs, spI2Sign, k1, k2, k3, e1, e2, e3, z1, z2, z3, Int.sign_zero]
      simp only [↓R0, R1, simprocAttr, -Int.reduceAbs, rdS, spI2Gcd, ints, gcds, List.foldl_cons, List.foldl_nil, Nat.gcd_zero_left, List.forall_mem_cons, h1, h2, h3, h4, List.not_mem_nil, false_implies, implies_true, hGG, hGl, f1, f2, f6, nl_bl, Int.natAbs_natCast, spR5Part, Fin, isEnd, resL, res1, iE, rE]
      exact ⟨_, rfl, rfl, fun k hk => by simp only [ne_nb hk, if_false]⟩
    · simp only [↓R0, R1, simprocAttr, -Int.reduceAbs, spI2Sign, k1, k2, k3, e1, e2, e3, z1, z2, Int.sign_zero]
      simp only [↓R0, R1, simprocAttr, -Int.reduceAbs, rdS, spI2Gcd, ints, gcds, List.foldl_cons, List.foldl_nil, Nat.gcd_zero_left, List.forall_mem_cons, h1, h2, h3, h4, List.not_mem_nil, false_implies, implies_true, hGG, hGl, f1, f2, f6, nl_bl, Int.natAbs_natCast, spR5Part, Fin, isEnd, resL, res1, iE, rE]
      exact ⟨_, rfl, rfl, fun k hk => by simp only [ne_nb hk, if_false]⟩
  · simp only [↓R0, R1, simprocAttr, -Int.reduceAbs, spI2Sign, k1, k2, k3, e1, e2, e3, z1, Int.sign_zero]
    simp only [↓R0, R1, simprocAttr, -Int.reduceAbs, rdS, spI2Gcd, ints, gcds, List.foldl_cons, List.foldl_nil, Nat.gcd_zero_left, List.forall_mem_cons, h1, h2, h3, h4, List.not_mem_nil, false_implies, implies_true, hGG, hGl, f1, f2, f6, nl_bl, Int.natAbs_natCast, spR5Part, Fin, isEnd, resL, res1, iE, rE]
    exact ⟨_, rfl, rfl, fun k hk => by simp only [ne_nb hk, if_false]⟩
end Go.Eng
end
section
set_option linter.unusedVariables false
set_option linter.unusedSimpArgs false
set_option linter.unusedSectionVars false
set_option maxRecDepth 20000
namespace Go.Eng
open Go Go.Proofs Go.IntWalk
def spId8 : List Value → Option Value
  | [.agg ⟨[.bool s1, .string ⟨⟨l1⟩⟩, .bool s2, .string ⟨⟨l2⟩⟩, .bool s3, .string ⟨⟨l3⟩⟩, .bool s4, .string ⟨⟨l4⟩⟩]⟩] => some (.agg ⟨[.bool s1, .string ⟨⟨l1⟩⟩, .bool s2, .string ⟨⟨l2⟩⟩, .bool s3, .string ⟨⟨l3⟩⟩, .bool s4, .string ⟨⟨l4⟩⟩]⟩)
  | _ => none
def c122 : ICode :=
  (.seq (.reg [qq 1 (.box 48 8 (.t 0)), qq 2 (.alloc 94 8 [(.bool false), e0, (.bool false), e0, (.bool false), e0, (.bool false), e0])]) (.seq (.reg [qq 3 (.faddr 0 (.t 1)), qq 4 (.load true 2 (.t 3)), qq 5 (.faddr 2 (.t 1)), qq 6 (.load true 2 (.t 5)), qq 7 (.faddr 4 (.t 1)), qq 8 (.load true 2 (.t 7)), qq 9 (.faddr 6 (.t 1)), qq 10 (.load true 2 (.t 9)), qq 11 (.build [(.bool false), e0, (.bool false), e0, (.bool false), e0, (.bool false), e0] [(0, 2, (.t 4)), (2, 2, (.t 6)), (4, 2, (.t 8)), (6, 2, (.t 10))]), qn (.store 8 (.t 2) (.t 11))]) .ret))
theorem tr122 : trFun Tryz.prog 122 = some ⟨12, [.cell 2 true 8], c122⟩ := by kernel_rfl
theorem ok_lnFour : SpecOK Tryz.prog 122 (flat spId8) := by
  refine flat_run (env_nil _) mixed tr122 ?_
  intro args v h N hG
  unfold spId8 at hG
  split at hG
  case h_2 => cases hG
  cases hG
  refine ⟨rfl, by simp, ?_⟩
  simp only [c122, G0, Nat.reduceAdd]
  simp only [↓R0, R1, simprocAttr, -Int.reduceAbs, Fin, isEnd, resL, res1, iE, rE]
  exact ⟨_, rfl, rfl, fun k hk => by simp only [ne_nb hk, if_false]⟩
def c92 : ICode :=
  (.seq (.reg [qq 1 (.box 94 8 (.t 0)), qq 2 (.alloc 48 8 [(.bool false), e0, (.bool false), e0, (.bool false), e0, (.bool false), e0])]) (.seq (.reg [qq 3 (.ixarr 4 2 (.t 1) (ci 0)), qq 4 (.load true 2 (.t 3)), qq 5 (.ixarr 4 2 (.t 1) (ci 1)), qq 6 (.load true 2 (.t 5)), qq 7 (.ixarr 4 2 (.t 1) (ci 2)), qq 8 (.load true 2 (.t 7)), qq 9 (.ixarr 4 2 (.t 1) (ci 3)), qq 10 (.load true 2 (.t 9)), qq 11 (.build [(.bool false), e0, (.bool false), e0, (.bool false), e0, (.bool false), e0] [(0, 2, (.t 4)), (2, 2, (.t 6)), (4, 2, (.t 8)), (6, 2, (.t 10))]), qn (.store 8 (.t 2) (.t 11))]) .ret))
theorem tr92 : trFun Tryz.prog 92 = some ⟨12, [.cell 2 true 8], c92⟩ := by kernel_rfl
theorem ok_lnOf : SpecOK Tryz.prog 92 (flat spId8) := by
  refine flat_run (env_nil _) mixed tr92 ?_
  intro args v h N hG
  unfold spId8 at hG
  split at hG
  case h_2 => cases hG
  cases hG
  refine ⟨rfl, by simp, ?_⟩
  simp only [c92, G0, Nat.reduceAdd]
  simp only [↓R0, R1, simprocAttr, -Int.reduceAbs, Fin, isEnd, resL, res1, iE, rE]
  exact ⟨_, rfl, rfl, fun k hk => by simp only [ne_nb hk, if_false]⟩
def spLnNorm : List Value → Option Value
  | [.agg ⟨[.bool s1, .string ⟨⟨l1⟩⟩, .bool s2, .string ⟨⟨l2⟩⟩, .bool s3, .string ⟨⟨l3⟩⟩, .bool s4, .string ⟨⟨l4⟩⟩]⟩] =>
    if l1.length ≤ 34359738368 ∧ l2.length ≤ 34359738368 ∧ l3.length ≤ 34359738368 ∧ l4.length ≤ 34359738368 then
      (if sv s1 l1 = 0 ∧ sv s2 l2 = 0 ∧ sv s3 l3 = 0 then some (.tuple ⟨[.agg ⟨pZ⟩, .bool false]⟩)
        else some (.tuple ⟨[.agg ⟨lE (sv s1 l1) (sv s2 l2) (sv s3 l3) (sv s4 l4)⟩, .bool true]⟩)) else none
  | _ => none
def c91 : ICode :=
  (.seq (.reg [qq 1 (.box 48 8 (.t 0)), qq 2 (.alloc 48 8 [(.bool false), e0, (.bool false), e0, (.bool false), e0, (.bool false), e0]), qq 3 (.mv (.c (.bool false)))]) (.seq (.reg [qq 7 (.load true 8 (.t 1)), qq 8 (.call 122 [(.t 7)]), qq 4 (.alloc 94 8 [(.bool false), e0, (.bool false), e0, (.bool false), e0, (.bool false), e0]), qn (.store 8 (.t 4) (.t 8))]) (.seq (.seq (.reg [qq 9 (.slarr 4 2 (.t 4) none (some (ci 3))), qq 10 (.call 123 [(.t 9)]), qq 11 (.call 86 [(.t 10)]), qq 12 (.bin .eql (.t 11) (ci 0))]) (.cond (.t 12) (.seq (.reg [qq 13 (.build [(.bool false), e0, (.bool false), e0, (.bool false), e0, (.bool false), e0] []), qn (.store 8 (.t 2) (.t 13)), qq 3 (.mv (.c (.bool false)))]) .ret) .skip)) (.seq (.reg [qq 14 (.slarr 4 2 (.t 4) none none), qq 15 (.call 123 [(.t 14)]), qq 5 (.alloc 37 2 [(.bool false), e0]), qn (.store 2 (.t 5) (.t 15))]) (.seq (.seq (.reg [qq 16 (.mv (ci 0))]) (.block 0 (.loop (.seq (.reg [qq 17 (.bin .lss (.t 16) (ci 4))]) (.seq (.cond (.t 17) .skip (.exit 0)) (.seq (.block 1 (.seq (.reg [qq 18 (.mv (.t 16)), qq 6 (.mv (.t 18))]) (.dreg [qu 20 (.mv (.t 6)), qu 21 (.mv (.t 6)), qu 22 (.ixarr 4 2 (.t 4) (.t 21)), qu 23 (.load true 2 (.t 22)), qu 24 (.load true 2 (.t 5)), qu 25 (.call 105 [(.t 23), (.t 24)]), qu 19 (.mv (.t 25)), qu 26 (.ext (.t 19) 0), qu 27 (.ext (.t 19) 1), qu 28 (.ext (.t 19) 2), qu 29 (.ixarr 4 2 (.t 4) (.t 20)), qm (.store 2 (.t 29) (.t 26))]))) (.reg [qq 30 (.bin .add (.t 16) (ci 1)), qq 16 (.mv (.t 30))]))))))) (.seq (.reg [qq 31 (.load true 8 (.t 4)), qq 32 (.call 92 [(.t 31)]), qn (.store 8 (.t 2) (.t 32)), qq 3 (.mv (.c (.bool true)))]) .ret))))))
theorem tr91 : trFun Tryz.prog 91 = some ⟨33, [.cell 2 true 8, .t 3], c91⟩ := by kernel_rfl
set_option maxHeartbeats 4000000 in
theorem ok_lnNorm : SpecOK Tryz.prog 91 (flat spLnNorm) := by
  refine flat_run (env_cons ok_lnFour (env_cons ok_lnOf (env_cons ok_iGcd (env_cons ok_iSign (env_cons ok_iDiv (env_nil _)))))) mixed tr91 ?_
  intro args v h N hG
  unfold spLnNorm at hG
  split at hG
  case h_2 => cases hG
  rename_i s1 l1 s2 l2 s3 l3 s4 l4
  split at hG
  case isFalse => cases hG
  rename_i hl
  obtain ⟨h1, h2, h3, h4⟩ := hl
  have g3 : Nat.gcd (Nat.gcd (nl l1) (nl l2)) (nl l3) = Nat.gcd (Nat.gcd (sv s1 l1).natAbs (sv s2 l2).natAbs) (sv s3 l3).natAbs := by
    rw [sv_natAbs, sv_natAbs, sv_natAbs]
  have zl0 : (bl (Int.natAbs 0)).length ≤ 1099511627776 := by rw [show Int.natAbs 0 = 0 from rfl, bl_zero]; exact Nat.zero_le _
  have zs0 : sv false (bl (Int.natAbs 0)) = 0 := by rw [sv_bl]; rfl
  have i40 : 4 - 0 = 4 := rfl
  have i30 : 3 - 0 = 3 := rfl
  have i43 : ¬ (4 = 0) := by decide
  have f5 : ∀ G : Nat, sv false (bl G) = (G : Int) := fun G => by rw [sv_false, nl_bl]
  split at hG
  · rename_i h0
    obtain ⟨z1, z2, z3⟩ := h0
    cases hG
    refine ⟨rfl, by simp, ?_⟩
    have hg0 : Nat.gcd (Nat.gcd (nl l1) (nl l2)) (nl l3) = 0 := by rw [g3, z1, z2, z3]; rfl
    have b0 : bl 0 = [] := bl_zero
    have hz : sv false ([] : List UInt8) = 0 := rfl
    have i00 : ((0 : Nat) : Int) = 0 := rfl
    simp only [c91, G0, Nat.reduceAdd]
    simp only [↓R0, R1, simprocAttr, -Int.reduceAbs, spId8, rdS, spIGcd, ints, gcds, mkSl, i40, i30, i43, List.foldl_cons, List.foldl_nil, Nat.gcd_zero_left, List.forall_mem_cons, h1, h2, h3, h4, List.not_mem_nil, false_implies, implies_true, hg0, i00, spISign, zl0, zs0, Int.sign_zero, iE]
    simp only [↓R0, R1, simprocAttr, -Int.reduceAbs, spISign, zl0, zs0, Int.lt_irrefl, Int.sign_zero, pZ, Fin, isEnd, resL, res1, iE, rE]
    exact ⟨_, rfl, rfl, fun k hk => by simp only [ne_nb hk, if_false]⟩
  rename_i h0
  cases hG
  refine ⟨rfl, by simp, ?_⟩
  have hG0 := lG_pos (d := sv s4 l4) h0
  have n1 := len_sv (s := s1) h1
  have n2 := len_sv (s := s2) h2
  have n3 := len_sv (s := s3) h3
  have n4 := len_sv (s := s4) h4
  have hGl := lG_le (d := sv s4 l4) (k := 34359738368) n1 n2 n3 h0
  have hGG : Nat.gcd (Nat.gcd (Nat.gcd (nl l1) (nl l2)) (nl l3)) (nl l4) = lG (sv s1 l1) (sv s2 l2) (sv s3 l3) (sv s4 l4) := by
    unfold lG; rw [sv_natAbs, sv_natAbs, sv_natAbs, sv_natAbs]
  unfold lE
  generalize lG (sv s1 l1) (sv s2 l2) (sv s3 l3) (sv s4 l4) = G at *
  have f1 : ¬ ((G : Int) < 0) := by omega
  have f2 : ¬ ((G : Int) = 0) := by omega
  have f6 := f5 G
  have hg3 : 0 < Nat.gcd (Nat.gcd (nl l1) (nl l2)) (nl l3) := by
    rw [g3]
    by_cases z3 : sv s3 l3 = 0
    · refine Nat.gcd_pos_of_pos_left _ ?_
      by_cases z2 : sv s2 l2 = 0
      · refine Nat.gcd_pos_of_pos_left _ ?_
        have : sv s1 l1 ≠ 0 := fun e => h0 ⟨e, z2, z3⟩
        omega
      · exact Nat.gcd_pos_of_pos_right _ (by omega)
    · exact Nat.gcd_pos_of_pos_right _ (by omega)
  have hg3l : (bl (Nat.gcd (Nat.gcd (nl l1) (nl l2)) (nl l3))).length ≤ 1099511627776 := by
    rcases Nat.eq_zero_or_pos (nl l3) with e | e
    · rw [e, Nat.gcd_zero_right]
      rcases Nat.eq_zero_or_pos (nl l2) with e2 | e2
      · rw [e2, Nat.gcd_zero_right]; exact Nat.le_trans (bl_length_nl l1) (by omega)
      · exact Nat.le_trans (bl_length_mono (Nat.gcd_le_right _ e2)) (Nat.le_trans (bl_length_nl l2) (by omega))
    · exact Nat.le_trans (bl_length_mono (Nat.gcd_le_right _ e)) (Nat.le_trans (bl_length_nl l3) (by omega))
  obtain ⟨g, eg⟩ : ∃ g, Nat.gcd (Nat.gcd (nl l1) (nl l2)) (nl l3) = g := ⟨_, rfl⟩
  rw [eg] at hg3 hg3l hGG
  have t1 : ¬ ((g : Int) < 0) := by omega
  have t2 : ¬ (((g : Int).sign) = 0) := by rw [Int.sign_eq_zero_iff_zero]; omega
  have t3 := f5 g
  have w1 : IntKind.i64.wrap 1 = 1 := i64_in _ (by omega)
  have w2 : IntKind.i64.wrap 2 = 2 := i64_in _ (by omega)
  have w3 : IntKind.i64.wrap 3 = 3 := i64_in _ (by omega)
  have w4 : IntKind.i64.wrap 4 = 4 := i64_in _ (by omega)
  simp only [c91, G0, Nat.reduceAdd]
  simp only [↓R0, R1, simprocAttr, -Int.reduceAbs, spId8, rdS, spIGcd, ints, gcds, mkSl, i40, i30, i43, List.foldl_cons, List.foldl_nil, Nat.gcd_zero_left, List.forall_mem_cons, h1, h2, h3, h4, List.not_mem_nil, false_implies, implies_true, eg, hGG, t1, t2, t3, hg3l, f1, Int.natAbs_natCast, spISign, iE]
  refine lp_step ?_
  simp only [↓R0, R1, simprocAttr, -Int.reduceAbs, spIDiv, h1, h2, h3, h4, hGl, f1, f2, f6, w1, w2, w3, w4, iE]
  refine lp_step ?_
  simp only [↓R0, R1, simprocAttr, -Int.reduceAbs, spIDiv, h1, h2, h3, h4, hGl, f1, f2, f6, w1, w2, w3, w4, iE]
  refine lp_step ?_
  simp only [↓R0, R1, simprocAttr, -Int.reduceAbs, spIDiv, h1, h2, h3, h4, hGl, f1, f2, f6, w1, w2, w3, w4, iE]
  refine lp_step ?_
  simp only [↓R0, R1, simprocAttr, -Int.reduceAbs, spIDiv, h1, h2, h3, h4, hGl, f1, f2, f6, w1, w2, w3, w4, iE]
  refine lp_step ?_
  simp only [↓R0, R1, simprocAttr, -Int.reduceAbs, spId8, Fin, isEnd, resL, res1, iE, rE]
  exact ⟨_, rfl, rfl, fun k hk => by simp only [ne_nb hk, if_false]⟩
end Go.Eng
end
section
set_option linter.unusedVariables false
set_option linter.unusedSimpArgs false
set_option linter.unusedSectionVars false
set_option maxRecDepth 20000
namespace Go.Eng
open Go Go.Proofs Go.IntWalk
def cofP (q : Nat → Rat) (i : Nat) : Nat → Int
  | 0 => 1
  | k + 1 => cofP q i k * (if k = i then (q k).num else ((q k).den : Int))
theorem cofP_len {q : Nat → Rat} {i b : Nat} (hb : 1 ≤ b) : ∀ {k}, (∀ j, j < k → RB (q j) b) → (bl (cofP q i k).natAbs).length ≤ 1 + k * b
  | 0, _ => by
    show (bl (Int.natAbs 1)).length ≤ _
    exact Nat.le_trans (bl_length_le (k := 1).2 (by decide)) (by omega)
  | k + 1, h => by
    simp only [cofP]
    have e : (k + 1) * b = k * b + b := Nat.succ_mul _ _
    refine Nat.le_trans (Lmul (cofP_len hb (k := k) (fun j hj => h j (by omega))) (j := b) ?_) (by omega)
    split
    · exact (h k (by omega)).1
    · exact (h k (by omega)).2
def arrI (f : Nat → Int) : List Value := iE (f 0) ++ iE (f 1) ++ iE (f 2) ++ iE (f 3)
theorem arrI_len (f : Nat → Int) : (arrI f).length = 8 := rfl
theorem arrI_at (f : Nat → Int) {i : Nat} (hi : i < 4) : ((arrI f).drop (i * 2)).take 2 = iE (f i) := by
  match i, hi with
  | 0, _ => rfl
  | 1, _ => rfl
  | 2, _ => rfl
  | 3, _ => rfl
theorem arrI_set (f : Nat → Int) {i : Nat} (hi : i < 4) (z : Int) : setR (arrI f) (i * 2) (iE z) = arrI (fun j => if j = i then z else f j) := by
  match i, hi with
  | 0, _ => rfl
  | 1, _ => rfl
  | 2, _ => rfl
  | 3, _ => rfl
theorem arrI_congr {f g : Nat → Int} (h : ∀ i, i < 4 → f i = g i) : arrI f = arrI g := by
  unfold arrI; rw [h 0 (by omega), h 1 (by omega), h 2 (by omega), h 3 (by omega)]
def fcR (q : Nat → Rat) : Value :=
  if cofP q 0 4 = 0 ∧ cofP q 1 4 = 0 ∧ cofP q 2 4 = 0 then .tuple ⟨[.agg ⟨pZ⟩, .bool false]⟩ else .tuple ⟨[.agg ⟨lE (cofP q 0 4) (cofP q 1 4) (cofP q 2 4) (cofP q 3 4)⟩, .bool true]⟩
def spLnFrom : List Value → Option Value
  | [.agg ⟨vs⟩, .agg ⟨[.bool s, .string ⟨⟨n⟩⟩, .string ⟨⟨d⟩⟩]⟩] => match arrOf 3 vs with
    | some p => if arrOk 3 1073741824 p ∧ n.length ≤ 1073741824 ∧ d.length ≤ 1073741824 then some (fcR (fun i => if i < 3 then (p i).v else rv s n d)) else none
    | none => none
  | _ => none
def c40 : ICode :=
  (.seq (.reg [qq 2 (.box 25 9 (.t 0)), qq 3 (.box 23 3 (.t 1)), qq 4 (.alloc 48 8 [(.bool false), e0, (.bool false), e0, (.bool false), e0, (.bool false), e0]), qq 5 (.mv (.c (.bool false)))]) (.seq (.reg [qq 13 (.ixarr 3 3 (.t 2) (ci 0)), qq 14 (.load true 3 (.t 13)), qq 15 (.ixarr 3 3 (.t 2) (ci 1)), qq 16 (.load true 3 (.t 15)), qq 17 (.ixarr 3 3 (.t 2) (ci 2)), qq 18 (.load true 3 (.t 17)), qq 19 (.load true 3 (.t 3)), qq 20 (.build [(.bool false), e0, e0, (.bool false), e0, e0, (.bool false), e0, e0, (.bool false), e0, e0] [(0, 3, (.t 14)), (3, 3, (.t 16)), (6, 3, (.t 18)), (9, 3, (.t 19))]), qq 6 (.alloc 95 12 [(.bool false), e0, e0, (.bool false), e0, e0, (.bool false), e0, e0, (.bool false), e0, e0]), qn (.store 12 (.t 6) (.t 20))]) (.seq (.reg [qq 7 (.alloc 94 8 [(.bool false), e0, (.bool false), e0, (.bool false), e0, (.bool false), e0])]) (.seq (.seq (.reg [qq 21 (.mv (ci 0))]) (.block 0 (.loop (.seq (.reg [qq 22 (.bin .lss (.t 21) (ci 4))]) (.seq (.cond (.t 22) .skip (.exit 0)) (.seq (.block 1 (.seq (.reg [qq 23 (.mv (.t 21)), qq 8 (.mv (.t 23))]) (.seq (.reg [qq 24 (.mv (.t 8)), qq 25 (.call 70 [(ci 1)]), qq 26 (.ixarr 4 2 (.t 7) (.t 24)), qn (.store 2 (.t 26) (.t 25))]) (.seq (.reg [qq 27 (.load true 12 (.t 6)), qq 28 (.mv (ci 0))]) (.block 2 (.loop (.seq (.reg [qq 29 (.bin .lss (.t 28) (ci 4))]) (.seq (.cond (.t 29) .skip (.exit 2)) (.seq (.block 3 (.seq (.reg [qq 30 (.mv (.t 28)), qq 31 (.idarr 4 true 3 (.t 27) (.t 28)), qq 10 (.alloc 23 3 [(.bool false), e0, e0]), qq 9 (.mv (.t 30)), qn (.store 3 (.t 10) (.t 31))]) (.seq (.reg [qq 33 (.load true 3 (.t 10)), qq 34 (.call 90 [(.t 33)]), qq 32 (.mv (.t 34)), qq 35 (.ext (.t 32) 0), qq 36 (.ext (.t 32) 1), qq 11 (.alloc 37 2 [(.bool false), e0]), qq 12 (.alloc 37 2 [(.bool false), e0]), qn (.store 2 (.t 11) (.t 35)), qn (.store 2 (.t 12) (.t 36))]) (.seq (.reg [qq 37 (.mv (.t 9)), qq 38 (.mv (.t 8)), qq 39 (.bin .eql (.t 37) (.t 38))]) (.cond (.t 39) (.dreg [qu 40 (.mv (.t 8)), qu 41 (.mv (.t 8)), qu 42 (.ixarr 4 2 (.t 7) (.t 41)), qu 43 (.load true 2 (.t 42)), qu 44 (.load true 2 (.t 11)), qu 45 (.call 63 [(.t 43), (.t 44)]), qu 46 (.ixarr 4 2 (.t 7) (.t 40)), qm (.store 2 (.t 46) (.t 45))]) (.dreg [qu 47 (.mv (.t 8)), qu 48 (.mv (.t 8)), qu 49 (.ixarr 4 2 (.t 7) (.t 48)), qu 50 (.load true 2 (.t 49)), qu 51 (.load true 2 (.t 12)), qu 52 (.call 63 [(.t 50), (.t 51)]), qu 53 (.ixarr 4 2 (.t 7) (.t 47)), qm (.store 2 (.t 53) (.t 52))])))))) (.reg [qq 54 (.bin .add (.t 28) (ci 1)), qq 28 (.mv (.t 54))])))))))))) (.reg [qq 55 (.bin .add (.t 21) (ci 1)), qq 21 (.mv (.t 55))]))))))) (.seq (.reg [qq 56 (.load true 8 (.t 7)), qq 57 (.call 92 [(.t 56)]), qq 58 (.call 91 [(.t 57)]), qq 59 (.ext (.t 58) 0), qq 60 (.ext (.t 58) 1), qn (.store 8 (.t 4) (.t 59)), qq 5 (.mv (.t 60))]) .ret)))))
theorem tr40 : trFun Tryz.prog 40 = some ⟨61, [.cell 4 true 8, .t 5], c40⟩ := by kernel_rfl
theorem fcR_flat (q : Nat → Rat) : flatW (fcR q) = true := by unfold fcR; split <;> rfl
set_option maxHeartbeats 4000000 in
theorem ok_lnFrom : SpecOK Tryz.prog 40 (flat spLnFrom) := by
  refine flat_run (env_cons ok_iFrom (env_cons ok_qNumDen (env_cons ok_iMul (env_cons ok_lnOf (env_cons ok_lnNorm (env_nil _)))))) mixed tr40 ?_
  intro args v h N hG
  unfold spLnFrom at hG
  split at hG
  case h_2 => cases hG
  rename_i vs s n d
  split at hG
  case h_2 => cases hG
  rename_i p hp
  split at hG
  case isFalse => cases hG
  rename_i hl
  obtain ⟨ho, hn, hd⟩ := hl
  cases hG
  obtain ⟨lv, av, ov⟩ := arrOf_spec hp
  have hop := arrOk_iff.1 ho
  refine ⟨fcR_flat _, by simp, ?_⟩
  obtain ⟨P, eP⟩ : ∃ P : Nat → RQ, P = fun i => if i < 3 then p i else ⟨s, n, d⟩ := ⟨_, rfl⟩
  have Pv : (fun i => if i < 3 then (p i).v else rv s n d) = fun i => (P i).v := by
    funext i; rw [eP]; simp only; split <;> rfl
  rw [Pv]
  have Pok : ∀ i, i < 4 → (P i).ok 1073741824 := fun i hi => by
    rw [eP]; simp only; split
    · exact hop i (by omega)
    · exact ⟨hn, hd⟩
  have a0 := av 0 (by omega)
  have a1 := av 1 (by omega)
  have a2 := av 2 (by omega)
  rw [qcells] at a0 a1 a2
  simp only [Nat.zero_mul, Nat.one_mul, Nat.reduceMul, List.drop_zero] at a0 a1 a2
  have hc : ([.bool (p 0).s, .string ⟨⟨(p 0).n⟩⟩, .string ⟨⟨(p 0).d⟩⟩, .bool (p 1).s, .string ⟨⟨(p 1).n⟩⟩, .string ⟨⟨(p 1).d⟩⟩, .bool (p 2).s, .string ⟨⟨(p 2).n⟩⟩, .string ⟨⟨(p 2).d⟩⟩, .bool s, .string ⟨⟨n⟩⟩, .string ⟨⟨d⟩⟩] : List Value) = rqs [P 0, P 1, P 2, P 3] := by rw [eP]; rfl
  obtain ⟨C, eC⟩ : ∃ C, rqs [P 0, P 1, P 2, P 3] = C := ⟨_, rfl⟩
  rw [eC] at hc
  have cl : C.length = 12 := by rw [← eC]; rfl
  have ct : C.take 12 = C := List.take_of_length_le (by omega)
  have ca : ∀ i, i < 4 → (C.drop (i * 3)).take 3 = (P i).cells := fun i hi => by
    rw [← eC]
    match i, hi with
    | 0, _ => rfl
    | 1, _ => rfl
    | 2, _ => rfl
    | 3, _ => rfl
  have lv9 : vs.length = 9 := lv
  obtain ⟨Q, hQ⟩ : ∃ Q : Nat → Rat, (fun i => (P i).v) = Q := ⟨_, rfl⟩
  have Qb : ∀ i, i < 4 → RB (Q i) 1073741825 := fun i hi => by rw [← hQ]; exact (Pok i hi).rb
  have Qe : ∀ i, rv (P i).s (P i).n (P i).d = Q i := fun i => by rw [← hQ]; rfl
  rw [hQ]
  simp only [c40, G0, Nat.reduceAdd]
  have co : C.all okCell = true := by rw [← eC]; rfl
  have sC := setR_all C [.bool false, .string ⟨⟨[]⟩⟩, .string ⟨⟨[]⟩⟩, .bool false, .string ⟨⟨[]⟩⟩, .string ⟨⟨[]⟩⟩, .bool false, .string ⟨⟨[]⟩⟩, .string ⟨⟨[]⟩⟩, .bool false, .string ⟨⟨[]⟩⟩, .string ⟨⟨[]⟩⟩] (by rw [cl]; rfl)
  simp only [↓R0, R1, simprocAttr, -Int.reduceAbs, lv9, a0, a1, a2, hc, eC, cl, co, sC]
  clear hc a0 a1 a2 eC eP Pv
  refine lp_parts (fun m tm hp nx => ∃ (i : Nat) (f : Nat → Int) (M : Nat), m + i = 4 ∧ tmget tm 21 = .int .i64 (i : Nat) ∧ tmget tm 4 = .pointer (some ⟨N + 2, 0, none⟩) ∧ tmget tm 6 = .pointer (some ⟨N + 3, 0, none⟩) ∧ tmget tm 7 = .pointer (some ⟨N + 4, 0, none⟩) ∧
      hget hp (N + 2) = some ⟨48, 8, true, pZ⟩ ∧ hget hp (N + 3) = some ⟨95, 12, true, C⟩ ∧ hget hp (N + 4) = some ⟨94, 8, true, arrI f⟩ ∧ (∀ j, j < i → f j = cofP Q j 4) ∧ (∀ k, k < N → hget hp k = hget h k) ∧ N + 5 ≤ M ∧ nx = M + 0) ?_ 4 ⟨0, fun _ => 0, N + 5, rfl, ?_, ?_, ?_, ?_, ?_, ?_, ?_, fun j hj => by omega, ?_, Nat.le_refl _, rfl⟩
  · rintro m tm hp nx ⟨i, f, M, hm, t21, t4, t6, t7, b2, b3, b4, hf, hh, hM, hnx⟩
    rw [hnx]; clear hnx
    have nM2 : ∀ j, (M + j = N + 2) = False := fun j => eq_false (by omega)
    have nM3 : ∀ j, (M + j = N + 3) = False := fun j => eq_false (by omega)
    have nM4 : ∀ j, (M + j = N + 4) = False := fun j => eq_false (by omega)
    by_cases c : i < 4
    · have c' : ((i : Int) < 4) = True := eq_true (by omega)
      have c2 : (i * 2 + 2 ≤ 8) = True := eq_true (by omega)
      have e1 : IntKind.i64.wrap ((i : Int) + 1) = ((i + 1 : Nat) : Int) := by rw [i64_in _ (by omega)]; omega
      have s0 : setR (arrI f) (i * 2) [.bool false, .string ⟨⟨bl (Int.natAbs 1)⟩⟩] = _ := arrI_set f c 1
      simp only [↓R0, R1, simprocAttr, -Int.reduceAbs, t21, t4, t6, t7, b2, b3, b4, c, c', c2, spIFrom, iE, arrI_len, cl, ct, s0]
      refine lp_parts (fun m2 tm hp nx => ∃ (k : Nat) (f : Nat → Int) (M : Nat), m2 + k = 4 ∧ tmget tm 28 = .int .i64 (k : Nat) ∧ tmget tm 8 = .int .i64 (i : Nat) ∧ tmget tm 21 = .int .i64 (i : Nat) ∧ tmget tm 27 = .agg ⟨C⟩ ∧ tmget tm 4 = .pointer (some ⟨N + 2, 0, none⟩) ∧ tmget tm 6 = .pointer (some ⟨N + 3, 0, none⟩) ∧ tmget tm 7 = .pointer (some ⟨N + 4, 0, none⟩) ∧
        hget hp (N + 2) = some ⟨48, 8, true, pZ⟩ ∧ hget hp (N + 3) = some ⟨95, 12, true, C⟩ ∧ hget hp (N + 4) = some ⟨94, 8, true, arrI f⟩ ∧ (∀ j, j < i → f j = cofP Q j 4) ∧ f i = cofP Q i k ∧ (∀ k, k < N → hget hp k = hget h k) ∧ N + 5 ≤ M ∧ nx = M + 0) ?_ 4 ⟨0, fun j => if j = i then 1 else f j, M, rfl, ?_, ?_, ?_, ?_, ?_, ?_, ?_, ?_, ?_, ?_, fun j hj => (if_neg (by omega)).trans (hf j hj), if_pos rfl, ?_, hM, rfl⟩
      · clear b2 b3 b4 hf hh hM nM2 nM3 nM4 s0 t21 t4 t6 t7
        rintro m2 tm hp nx ⟨k, f, M, hm2, t28, t8, t21, t27, t4, t6, t7, b2, b3, b4, hf, hfi, hh, hM, hnx⟩
        rw [hnx]; clear hnx
        have nM2 : ∀ j, (M + j = N + 2) = False := fun j => eq_false (by omega)
        have nM3 : ∀ j, (M + j = N + 3) = False := fun j => eq_false (by omega)
        have nM4 : ∀ j, (M + j = N + 4) = False := fun j => eq_false (by omega)
        have nM4' : ∀ j, (N + 4 = M + j) = False := fun j => eq_false (by omega)
        by_cases ck : k < 4
        · have ck' : ((k : Int) < 4) = True := eq_true (by omega)
          have ck2 : (k * 3 + 3 ≤ 12) = True := eq_true (by omega)
          have q1 := ca k ck
          rw [qcells] at q1
          have ok := Pok k ck
          have on := Nat.le_trans ok.1 (by omega : 1073741824 ≤ 17179869184)
          have od : (P k).d.length + 1 ≤ 17179869184 := by have := ok.2; omega
          have qe := Qe k
          have B := Qb k ck
          have Bn := Nat.le_trans B.1 (by omega : 1073741825 ≤ 34359738368)
          have Bd : (bl ((Q k).den : Int).natAbs).length ≤ 34359738368 := Nat.le_trans B.2 (by omega)
          have e3 : IntKind.i64.wrap ((k : Int) + 1) = ((k + 1 : Nat) : Int) := by rw [i64_in _ (by omega)]; omega
          have ai := arrI_at f c
          rw [hfi] at ai
          have L := cofP_len (q := Q) (i := i) (b := 1073741825) (by omega) (k := k) (fun j hj => Qb j (by omega))
          have hk4 : 1 + k * 1073741825 ≤ 1 + 3 * 1073741825 := by have := Nat.mul_le_mul_right 1073741825 (by omega : k ≤ 3); omega
          have L' : (bl (cofP Q i k).natAbs).length ≤ 34359738368 := by omega
          obtain ⟨D, eD⟩ : ∃ z : Int, ((Q k).den : Int) = z := ⟨_, rfl⟩
          rw [eD] at Bd
          unfold iE at ai
          by_cases cki : k = i
          · have cki' : ((k : Int) = (i : Int)) = True := eq_true (by omega)
            have st := arrI_set f c (cofP Q i k * (Q k).num)
            unfold iE at st
            simp only [↓R0, R1, simprocAttr, -Int.reduceAbs, t28, t8, t21, t27, t4, t6, t7, b2, b3, b4, c, c', c2, ck, ck', ck2, cl, q1, spQNumDen, on, od, qe, eD, iE, cki', nM2, nM3, nM4, nM4', arrI_len, ai, spIMul, L', Bn, Bd, st, e3]
            refine ⟨m2 - 1, by omega, k + 1, _, M + 3, by omega, rfl, rfl, fun j hj => ?_, ?_, fun q hq => ?_, by omega, rfl⟩
            · exact (if_neg (by omega)).trans (hf j hj)
            · refine (if_pos rfl).trans ?_; simp only [cofP]; rw [if_pos cki]
            · have n0 : ∀ j, (M + j = q) = False := fun j => eq_false (by omega)
              have n1 : (N + 4 = q) = False := eq_false (by omega)
              simp only [n0, n1, if_false]; exact hh q hq
          · have cki' : ((k : Int) = (i : Int)) = False := eq_false (by omega)
            have st := arrI_set f c (cofP Q i k * D)
            unfold iE at st
            simp only [↓R0, R1, simprocAttr, -Int.reduceAbs, t28, t8, t21, t27, t4, t6, t7, b2, b3, b4, c, c', c2, ck, ck', ck2, cl, q1, spQNumDen, on, od, qe, eD, iE, cki', nM2, nM3, nM4, nM4', arrI_len, ai, spIMul, L', Bn, Bd, st, e3]
            refine ⟨m2 - 1, by omega, k + 1, _, M + 3, by omega, rfl, rfl, fun j hj => ?_, ?_, fun q hq => ?_, by omega, rfl⟩
            · exact (if_neg (by omega)).trans (hf j hj)
            · refine (if_pos rfl).trans ?_; simp only [cofP]; rw [if_neg cki, eD]
            · have n0 : ∀ j, (M + j = q) = False := fun j => eq_false (by omega)
              have n1 : (N + 4 = q) = False := eq_false (by omega)
              simp only [n0, n1, if_false]; exact hh q hq
        · have ek : k = 4 := by omega
          subst ek
          simp only [↓R0, R1, simprocAttr, -Int.reduceAbs, t28, t8, t21, t27, t4, t6, t7, e1]
          refine ⟨m - 1, by omega, i + 1, f, M, by omega, rfl, b2, b3, b4, fun j hj => ?_, hh, hM, rfl⟩
          by_cases e : j = i
          · subst e; exact hfi
          · exact hf j (by omega)
      all_goals first | (simp only [↓R0, R1, simprocAttr, -Int.reduceAbs, t21, t4, t6, t7, b2, b3, b4]; done) | (simp only [↓R0, R1, simprocAttr, -Int.reduceAbs, t21, t4, t6, t7, b2, b3, b4]; rfl) | skip
      intro k hk
      have n1 : (N + 4 = k) = False := eq_false (by omega)
      simp only [↓R0, R1, simprocAttr, -Int.reduceAbs, n1]
      exact hh k hk
    · have e : i = 4 := by omega
      subst e
      have ea : arrI f = arrI (fun j => cofP Q j 4) := arrI_congr (fun j hj => hf j hj)
      rw [ea] at b4
      have len : ∀ i, (bl (cofP Q i 4).natAbs).length ≤ 34359738368 := fun i => Nat.le_trans (cofP_len (b := 1073741825) (by omega) (fun j hj => Qb j hj)) (by omega)
      have l0 := len 0
      have l1 := len 1
      have l2 := len 2
      have l3 := len 3
      unfold fcR
      obtain ⟨z0, e0⟩ : ∃ z, cofP Q 0 4 = z := ⟨_, rfl⟩
      obtain ⟨z1, e1⟩ : ∃ z, cofP Q 1 4 = z := ⟨_, rfl⟩
      obtain ⟨z2, e2⟩ : ∃ z, cofP Q 2 4 = z := ⟨_, rfl⟩
      obtain ⟨z3, e3⟩ : ∃ z, cofP Q 3 4 = z := ⟨_, rfl⟩
      rw [e0] at l0; rw [e1] at l1; rw [e2] at l2; rw [e3] at l3
      unfold arrI iE at b4
      simp only [e0, e1, e2, e3, List.cons_append, List.nil_append] at b4
      rw [e0, e1, e2, e3]
      by_cases hz : z0 = 0 ∧ z1 = 0 ∧ z2 = 0
      · rw [if_pos hz]
        have hz' := eq_true hz
        simp only [↓R0, R1, simprocAttr, -Int.reduceAbs, t21, t4, t6, t7, b2, b3, b4, spId8, spLnNorm, l0, l1, l2, l3, hz', pZ, Fin, isEnd, resL, res1, iE, rE]
        refine ⟨_, rfl, rfl, fun k hk => ?_⟩
        rw [if_neg (by omega)]; exact hh k hk
      · rw [if_neg hz]
        have hz' := eq_false hz
        simp only [↓R0, R1, simprocAttr, -Int.reduceAbs, t21, t4, t6, t7, b2, b3, b4, spId8, spLnNorm, l0, l1, l2, l3, hz', pZ, lE, Fin, isEnd, resL, res1, iE, rE]
        refine ⟨_, rfl, rfl, fun k hk => ?_⟩
        rw [if_neg (by omega)]; exact hh k hk
  all_goals first | (simp only [↓R0, R1, simprocAttr, -Int.reduceAbs]; done) | (simp only [↓R0, R1, simprocAttr, -Int.reduceAbs]; rfl) | skip
  · simp only [↓R0, R1, simprocAttr, -Int.reduceAbs]
    exact congrArg (fun C => some (⟨94, 8, true, C⟩ : Blk)) (by simp [arrI, iE, bl_zero])
  intro k hk
  have nb : ∀ j, (N + j = k) = False := fun j => eq_false (by omega)
  simp only [↓R0, R1, simprocAttr, -Int.reduceAbs, nb]
end Go.Eng
end
section
set_option linter.unusedVariables false
set_option linter.unusedSimpArgs false
set_option linter.unusedSectionVars false
set_option maxRecDepth 20000
namespace Go.Eng
open Go Go.Proofs Go.IntWalk
def aplQ (g : Nat → Rat) (a b c d : Rat) (i : Nat) : Rat :=
  if i < 3 then dotN (nrm a b c 0) (fun k => g (4 * k + i)) 3 else d - dotN (nrm a b c 0) (fun k => g (4 * k + 3)) 3
theorem nrm_RB {a b c : Rat} {j : Nat} (ha : RB a j) (hb : RB b j) (hc : RB c j) : ∀ k, k < 3 → RB (nrm a b c 0 k) j := fun k hk => by
  match k, hk with
  | 0, _ => exact ha
  | 1, _ => exact hb
  | 2, _ => exact hc
theorem cofP_congr {q q' : Nat → Rat} {i : Nat} : ∀ {k}, (∀ j, j < k → q j = q' j) → cofP q i k = cofP q' i k
  | 0, _ => rfl
  | k + 1, h => by simp only [cofP]; rw [cofP_congr (k := k) (fun j hj => h j (by omega)), h k (by omega)]
theorem fcR_congr {q q' : Nat → Rat} (h : ∀ j, j < 4 → q j = q' j) : fcR q = fcR q' := by
  unfold fcR; simp only [fun i => cofP_congr (i := i) h]
def spAapl : List Value → Option Value
  | [.agg ⟨cs⟩, .agg ⟨[.bool s1, .string ⟨⟨l1⟩⟩, .bool s2, .string ⟨⟨l2⟩⟩, .bool s3, .string ⟨⟨l3⟩⟩, .bool s4, .string ⟨⟨l4⟩⟩]⟩] => match mapOf cs with
    | some p => if mapOk 1048576 p ∧ l1.length ≤ 65536 ∧ l2.length ≤ 65536 ∧ l3.length ≤ 65536 ∧ l4.length ≤ 65536 then
        some (if detM (fun i => (p i).v) = 0 then .tuple ⟨[.agg ⟨pZ⟩, .bool false]⟩ else fcR (aplQ (invM (fun i => (p i).v)) (sv s1 l1) (sv s2 l2) (sv s3 l3) (sv s4 l4))) else none
    | none => none
  | _ => none
def c36 : ICode :=
  (.seq (.reg [qq 2 (.box 29 36 (.t 0)), qq 3 (.box 48 8 (.t 1)), qq 4 (.alloc 48 8 [(.bool false), e0, (.bool false), e0, (.bool false), e0, (.bool false), e0]), qq 5 (.mv (.c (.bool false)))]) (.seq (.reg [qq 15 (.load true 36 (.t 2)), qq 16 (.call 30 [(.t 15)]), qq 14 (.mv (.t 16)), qq 17 (.ext (.t 14) 0), qq 18 (.ext (.t 14) 1), qq 6 (.alloc 29 36 [(.bool false), e0, e0, (.bool false), e0, e0, (.bool false), e0, e0, (.bool false), e0, e0, (.bool false), e0, e0, (.bool false), e0, e0, (.bool false), e0, e0, (.bool false), e0, e0, (.bool false), e0, e0, (.bool false), e0, e0, (.bool false), e0, e0, (.bool false), e0, e0]), qn (.store 36 (.t 6) (.t 17)), qq 7 (.mv (.t 18))]) (.seq (.seq (.reg [qq 19 (.mv (.t 7)), qq 20 (.un .not (.t 19))]) (.cond (.t 20) (.seq (.reg [qq 21 (.build [(.bool false), e0, (.bool false), e0, (.bool false), e0, (.bool false), e0] []), qn (.store 8 (.t 4) (.t 21)), qq 5 (.mv (.c (.bool false)))]) .ret) .skip)) (.seq (.dreg [qu 22 (.faddr 0 (.t 3)), qu 23 (.load true 2 (.t 22)), qu 24 (.call 65 [(.t 23)]), qu 25 (.faddr 2 (.t 3)), qv 26 [2] (.load true 2 (.t 25)), qu 27 (.call 65 [(.t 26)]), qu 28 (.faddr 4 (.t 3)), qv 29 [2, 5] (.load true 2 (.t 28)), qu 30 (.call 65 [(.t 29)]), qu 31 (.bslice 23 3 3 [(.bool false), e0, e0, (.bool false), e0, e0, (.bool false), e0, e0] [(0, 3, (.t 24)), (3, 3, (.t 27)), (6, 3, (.t 30))]), qu 8 (.mv (.t 31))]) (.seq (.reg [qq 9 (.alloc 25 9 [(.bool false), e0, e0, (.bool false), e0, e0, (.bool false), e0, e0])]) (.seq (.seq (.reg [qq 32 (.mv (ci 0))]) (.block 0 (.loop (.seq (.reg [qq 33 (.bin .lss (.t 32) (ci 3))]) (.seq (.cond (.t 33) .skip (.exit 0)) (.seq (.block 1 (.seq (.reg [qq 34 (.mv (.t 32)), qq 10 (.mv (.t 34))]) (.dreg [qu 35 (.mv (.t 10)), qu 36 (.mv (.t 8)), qu 37 (.load true 36 (.t 6)), qu 38 (.mv (.t 10)), qu 39 (.call 50 [(.t 37), (ci 0), (.t 38)]), qv 40 [4] (.load true 36 (.t 6)), qu 41 (.mv (.t 10)), qu 42 (.call 50 [(.t 40), (ci 1), (.t 41)]), qv 43 [4, 7] (.load true 36 (.t 6)), qu 44 (.mv (.t 10)), qu 45 (.call 50 [(.t 43), (ci 2), (.t 44)]), qu 46 (.bslice 23 3 3 [(.bool false), e0, e0, (.bool false), e0, e0, (.bool false), e0, e0] [(0, 3, (.t 39)), (3, 3, (.t 42)), (6, 3, (.t 45))]), qu 47 (.call 58 [(.t 36), (.t 46)]), qu 48 (.ixarr 3 3 (.t 9) (.t 35)), qm (.store 3 (.t 48) (.t 47))]))) (.reg [qq 49 (.bin .add (.t 32) (ci 1)), qq 32 (.mv (.t 49))]))))))) (.seq (.dreg [qu 50 (.mv (.t 8)), qu 51 (.load true 36 (.t 6)), qu 52 (.call 50 [(.t 51), (ci 0), (ci 3)]), qv 53 [2] (.load true 36 (.t 6)), qu 54 (.call 50 [(.t 53), (ci 1), (ci 3)]), qv 55 [2, 4] (.load true 36 (.t 6)), qu 56 (.call 50 [(.t 55), (ci 2), (ci 3)]), qu 57 (.bslice 23 3 3 [(.bool false), e0, e0, (.bool false), e0, e0, (.bool false), e0, e0] [(0, 3, (.t 52)), (3, 3, (.t 54)), (6, 3, (.t 56))]), qu 58 (.call 58 [(.t 50), (.t 57)]), qu 11 (.alloc 23 3 [(.bool false), e0, e0]), qm (.store 3 (.t 11) (.t 58))]) (.seq (.dreg [qu 60 (.load true 9 (.t 9)), qu 61 (.faddr 6 (.t 3)), qu 62 (.load true 2 (.t 61)), qu 63 (.call 65 [(.t 62)]), qv 64 [3] (.load true 3 (.t 11)), qu 65 (.call 68 [(.t 63), (.t 64)]), qu 66 (.call 40 [(.t 60), (.t 65)]), qu 59 (.mv (.t 66)), qu 67 (.ext (.t 59) 0), qu 68 (.ext (.t 59) 1), qu 12 (.alloc 48 8 [(.bool false), e0, (.bool false), e0, (.bool false), e0, (.bool false), e0]), qm (.store 8 (.t 12) (.t 67)), qu 13 (.mv (.t 68))]) (.seq (.dreg [qu 69 (.load true 8 (.t 12)), qu 70 (.faddr 0 (.t 12)), qu 71 (.load true 2 (.t 70)), qu 72 (.call 86 [(.t 71)]), qu 73 (.bin .neq (.t 72) (ci 0)), qu 74 (.mv (.t 73)), ⟨(some 75), (some (74, false)), [], (.faddr 2 (.t 12))⟩, ⟨(some 76), (some (74, false)), [], (.load true 2 (.t 75))⟩, ⟨(some 77), (some (74, false)), [], (.call 86 [(.t 76)])⟩, ⟨(some 78), (some (74, false)), [], (.bin .neq (.t 77) (ci 0))⟩, qu 79 (.pick (.t 74) (.c (.bool true)) (.t 78)), qu 80 (.mv (.t 79)), ⟨(some 81), (some (80, false)), [], (.faddr 4 (.t 12))⟩, ⟨(some 82), (some (80, false)), [], (.load true 2 (.t 81))⟩, ⟨(some 83), (some (80, false)), [], (.call 86 [(.t 82)])⟩, ⟨(some 84), (some (80, false)), [], (.bin .neq (.t 83) (ci 0))⟩, qu 85 (.pick (.t 80) (.c (.bool true)) (.t 84)), qm (.store 8 (.t 4) (.t 69)), qu 5 (.mv (.t 85))]) .ret)))))))))
theorem tr36 : trFun Tryz.prog 36 = some ⟨86, [.cell 4 true 8, .t 5], c36⟩ := by kernel_rfl
theorem mE_at (f : Nat → Rat) : mapOf (mE f) = some (fun i => if i < 12 then RQ.of (f i) else RQ.zero) := mapOf_mE f
set_option maxHeartbeats 1000000 in
theorem ok_Aapl : SpecOK Tryz.prog 36 (flat spAapl) := by
  refine flat_run (env_cons ok_Ainv (env_cons ok_Arat (env_cons ok_Aat (env_cons ok_Adot (env_cons ok_qSub (env_cons ok_lnFrom (env_cons ok_iSign (env_nil _)))))))) mixed tr36 ?_
  intro args v h N hG
  unfold spAapl at hG
  split at hG
  case h_2 => cases hG
  rename_i cs s1 l1 s2 l2 s3 l3 s4 l4
  split at hG
  case h_2 => cases hG
  rename_i p hp
  split at hG
  case isFalse => cases hG
  rename_i hl
  obtain ⟨ho, h1, h2, h3, h4⟩ := hl
  obtain ⟨len, _, o1⟩ := mapOf_spec hp
  have t1 : cs.take 36 = cs := List.take_of_length_le (by omega)
  have hop := mapOk_iff.1 ho
  have hiv : spAinv [.agg ⟨cs⟩] = if detM (fun i => (p i).v) = 0 then some (.tuple ⟨[.agg ⟨zmap⟩, .bool false]⟩) else some (.tuple ⟨[.agg ⟨mE (invM (fun i => (p i).v))⟩, .bool true]⟩) := by
    unfold spAinv; simp only [hp]; exact if_pos ho
  have J := invM_RB (f := fun i => (p i).v) (fun k hk => (hop k hk).rb)
  generalize detM (fun i => (p i).v) = dt at *
  generalize invM (fun i => (p i).v) = g at *
  by_cases h0 : dt = 0
  · rw [if_pos h0] at hG hiv
    cases hG
    refine ⟨rfl, by simp, ?_⟩
    simp only [c36, G0, Nat.reduceAdd]
    simp only [↓R0, R1, simprocAttr, -Int.reduceAbs, len, t1, hiv, zmap, List.replicate_succ, List.replicate_zero, List.flatten_cons, List.flatten_nil, Bool.not_false, pZ, Fin, isEnd, resL, res1, iE, rE]
    exact ⟨_, rfl, rfl, fun k hk => by simp only [ne_nb hk, if_false]⟩
  rw [if_neg h0] at hG hiv
  cases hG
  refine ⟨fcR_flat _, by simp, ?_⟩
  have g1 : l1.length ≤ 17179869184 := by omega
  have g2 : l2.length ≤ 17179869184 := by omega
  have g3 : l3.length ≤ 17179869184 := by omega
  have g4 : l4.length ≤ 17179869184 := by omega
  have b1 : RB (sv s1 l1 : Rat) 65537 := RB.int (Nat.le_trans (len_sv h1) (by omega)) (by omega)
  have b2 : RB (sv s2 l2 : Rat) 65537 := RB.int (Nat.le_trans (len_sv h2) (by omega)) (by omega)
  have b3 : RB (sv s3 l3 : Rat) 65537 := RB.int (Nat.le_trans (len_sv h3) (by omega)) (by omega)
  have b4 : RB (sv s4 l4 : Rat) 65537 := RB.int (Nat.le_trans (len_sv h4) (by omega)) (by omega)
  have ra : spArat [.agg ⟨[.bool s1, .string ⟨⟨l1⟩⟩]⟩] = some (.agg ⟨rE (sv s1 l1 : Rat)⟩) := if_pos g1
  have rb : spArat [.agg ⟨[.bool s2, .string ⟨⟨l2⟩⟩]⟩] = some (.agg ⟨rE (sv s2 l2 : Rat)⟩) := if_pos g2
  have rc : spArat [.agg ⟨[.bool s3, .string ⟨⟨l3⟩⟩]⟩] = some (.agg ⟨rE (sv s3 l3 : Rat)⟩) := if_pos g3
  have rd : spArat [.agg ⟨[.bool s4, .string ⟨⟨l4⟩⟩]⟩] = some (.agg ⟨rE (sv s4 l4 : Rat)⟩) := if_pos g4
  generalize ((sv s1 l1 : Int) : Rat) = a at *
  generalize ((sv s2 l2 : Int) : Rat) = b at *
  generalize ((sv s3 l3 : Int) : Rat) = c at *
  generalize ((sv s4 l4 : Int) : Rat) = d at *
  have gl := mE_len g
  have go := mE_ok g
  have sg := setR_all (mE g) (part12 g 0) (by rw [gl, part12_len _ (Nat.zero_le _)])
  rw [part12_zero] at sg
  have tg : (mE g).take 36 = mE g := List.take_of_length_le (by omega)
  have hat : ∀ r c : Nat, r < 3 → c < 4 → spAat [.agg ⟨mE g⟩, .int .i64 (r : Int), .int .i64 (c : Int)] = some (.agg ⟨rE (g (4 * r + c))⟩) := by
    intro r c hr hc
    unfold spAat
    simp only [mE_at]
    rw [if_pos ⟨⟨by omega, by omega⟩, by omega, by omega⟩]
    simp only [Int.toNat_natCast]
    rw [atQ_lt hr, if_pos (by omega)]; rfl
  obtain ⟨l, el⟩ : ∃ l : List RQ, l = [RQ.of a, RQ.of b, RQ.of c] := ⟨_, rfl⟩
  obtain ⟨w, ew⟩ : ∃ w : Nat → List RQ, w = fun i => [RQ.of (g i), RQ.of (g (4 + i)), RQ.of (g (8 + i))] := ⟨_, rfl⟩
  have hd : ∀ hp k1 k2 i, i < 4 → hget hp k1 = some ⟨23, 3, true, rqs l⟩ → hget hp k2 = some ⟨23, 3, true, rqs (w i)⟩ →
      spAdot [.slice (some ⟨k1, 0, none⟩) 3 3, .slice (some ⟨k2, 0, none⟩) 3 3] hp = some (.agg ⟨rE (dotN (nrm a b c 0) (fun k => g (4 * k + i)) 3)⟩) := by
    intro hp k1 k2 i hi q1 q2
    have L1 := listAt_rqs (l := l) (c := 3) q1 (by subst el; simp)
    have L2 := listAt_rqs (l := w i) (c := 3) q2 (by subst ew; simp)
    rw [show l.length = 3 by subst el; rfl] at L1
    rw [show (w i).length = 3 by subst ew; rfl] at L2
    unfold spAdot
    simp only [L1, L2]
    rw [if_pos ⟨by subst el ew; simp, by subst el; simp, by
      rw [List.all_eq_true]; intro y hy
      subst el
      simp only [List.mem_cons, List.not_mem_nil, or_false] at hy
      rcases hy with rfl | rfl | rfl
      · exact decide_eq_true ((RQ.of_ok b1).le (by omega))
      · exact decide_eq_true ((RQ.of_ok b2).le (by omega))
      · exact decide_eq_true ((RQ.of_ok b3).le (by omega)), by
      rw [List.all_eq_true]; intro y hy
      subst ew
      simp only [List.mem_cons, List.not_mem_nil, or_false] at hy
      rcases hy with rfl | rfl | rfl
      · exact decide_eq_true ((RQ.of_ok (J _ (by omega))).le (by omega))
      · exact decide_eq_true ((RQ.of_ok (J _ (by omega))).le (by omega))
      · exact decide_eq_true ((RQ.of_ok (J _ (by omega))).le (by omega))⟩]
    refine congrArg (fun q => some (Value.agg ⟨rE q⟩)) ?_
    unfold dotL
    have : l.length = 3 := by subst el; rfl
    rw [this]
    refine dotN_congr 3 (fun k hk => ?_)
    subst el ew
    match k, hk with
    | 0, _ => exact ⟨RQ.of_v _, by simp only [Nat.mul_zero, Nat.zero_add]; exact RQ.of_v _⟩
    | 1, _ => exact ⟨RQ.of_v _, RQ.of_v _⟩
    | 2, _ => exact ⟨RQ.of_v _, RQ.of_v _⟩
  have S := fun i (hi : i < 4) => dotN_RB (n := 3) (a := nrm a b c 0) (b := fun k => g (4 * k + i)) (K := 201526272) (nrm_RB b1 b2 b3) (fun k hk => J (4 * k + i) (by omega)) (by omega)
  have hl : setR (setR (setR [.bool false, .string ⟨⟨[]⟩⟩, .string ⟨⟨[]⟩⟩, .bool false, .string ⟨⟨[]⟩⟩, .string ⟨⟨[]⟩⟩, .bool false, .string ⟨⟨[]⟩⟩, .string ⟨⟨[]⟩⟩] 0 (rE a)) 3 (rE b)) 6 (rE c) = rqs l := by subst el; rfl
  have hw : ∀ i, setR (setR (setR [.bool false, .string ⟨⟨[]⟩⟩, .string ⟨⟨[]⟩⟩, .bool false, .string ⟨⟨[]⟩⟩, .string ⟨⟨[]⟩⟩, .bool false, .string ⟨⟨[]⟩⟩, .string ⟨⟨[]⟩⟩] 0 (rE (g i))) 3 (rE (g (4 + i)))) 6 (rE (g (8 + i))) = rqs (w i) := fun i => by subst ew; rfl
  have T0 := S 0 (by omega)
  have T1 := S 1 (by omega)
  have T2 := S 2 (by omega)
  have T3 := S 3 (by omega)
  have U := b4.sub T3 (k := 268435456) (by omega)
  have hfc : spLnFrom [.agg ⟨r3E (dotN (nrm a b c 0) (fun k => g (4 * k + 0)) 3) (dotN (nrm a b c 0) (fun k => g (4 * k + 1)) 3) (dotN (nrm a b c 0) (fun k => g (4 * k + 2)) 3)⟩, .agg ⟨rE (d - dotN (nrm a b c 0) (fun k => g (4 * k + 3)) 3)⟩] = some (fcR (aplQ g a b c d)) := by
    have ar : arrOf 3 (r3E (dotN (nrm a b c 0) (fun k => g (4 * k + 0)) 3) (dotN (nrm a b c 0) (fun k => g (4 * k + 1)) 3) (dotN (nrm a b c 0) (fun k => g (4 * k + 2)) 3)) = some (fun i => (([RQ.of (dotN (nrm a b c 0) (fun k => g (4 * k + 0)) 3), RQ.of (dotN (nrm a b c 0) (fun k => g (4 * k + 1)) 3), RQ.of (dotN (nrm a b c 0) (fun k => g (4 * k + 2)) 3)] : List RQ)[i]?).getD RQ.zero) := by
      have e := ratsOf_rqs [RQ.of (dotN (nrm a b c 0) (fun k => g (4 * k + 0)) 3), RQ.of (dotN (nrm a b c 0) (fun k => g (4 * k + 1)) 3), RQ.of (dotN (nrm a b c 0) (fun k => g (4 * k + 2)) 3)]
      unfold arrOf
      rw [show r3E (dotN (nrm a b c 0) (fun k => g (4 * k + 0)) 3) (dotN (nrm a b c 0) (fun k => g (4 * k + 1)) 3) (dotN (nrm a b c 0) (fun k => g (4 * k + 2)) 3) = rqs [RQ.of (dotN (nrm a b c 0) (fun k => g (4 * k + 0)) 3), RQ.of (dotN (nrm a b c 0) (fun k => g (4 * k + 1)) 3), RQ.of (dotN (nrm a b c 0) (fun k => g (4 * k + 2)) 3)] from rfl, e]
      exact if_pos rfl
    have oks : arrOk 3 1073741824 (fun i => (([RQ.of (dotN (nrm a b c 0) (fun k => g (4 * k + 0)) 3), RQ.of (dotN (nrm a b c 0) (fun k => g (4 * k + 1)) 3), RQ.of (dotN (nrm a b c 0) (fun k => g (4 * k + 2)) 3)] : List RQ)[i]?).getD RQ.zero) := arrOk_iff.2 fun i hi => by
      match i, hi with
      | 0, _ => exact (RQ.of_ok T0).le (by omega)
      | 1, _ => exact (RQ.of_ok T1).le (by omega)
      | 2, _ => exact (RQ.of_ok T2).le (by omega)
    unfold spLnFrom
    rw [show rE (d - dotN (nrm a b c 0) (fun k => g (4 * k + 3)) 3) = [.bool _, .string ⟨⟨_⟩⟩, .string ⟨⟨_⟩⟩] from rfl]
    simp only [ar]
    rw [if_pos ⟨oks, U.num (by omega), U.den (by omega)⟩]
    refine congrArg some (fcR_congr (fun i hi => ?_))
    match i, hi with
    | 0, _ => exact RQ.of_v _
    | 1, _ => exact RQ.of_v _
    | 2, _ => exact RQ.of_v _
    | 3, _ => exact rv_can _
  have hQ : ∀ j, j < 4 → RB (aplQ g a b c d j) 268435456 := fun j hj => by
    match j, hj with
    | 0, _ => exact T0.le (by omega)
    | 1, _ => exact T1.le (by omega)
    | 2, _ => exact T2.le (by omega)
    | 3, _ => exact U
  have zlen : ∀ i, (bl (cofP (aplQ g a b c d) i 4).natAbs).length ≤ 1073741825 := fun i => Nat.le_trans (cofP_len (b := 268435456) (by omega) (fun j hj => hQ j hj)) (by omega)
  have hsub : spQSub [.agg ⟨rE d⟩, .agg ⟨rE (dotN (nrm a b c 0) (fun k => g (4 * k + 3)) 3)⟩] = some (.agg ⟨rE (d - dotN (nrm a b c 0) (fun k => g (4 * k + 3)) 3)⟩) := by
    unfold spQSub rE
    simp only [rv_can]
    exact if_pos ⟨b4.num (by omega), b4.den (by omega), T3.num (by omega), T3.den' (by omega)⟩
  have a00 : spAat [.agg ⟨mE g⟩, .int .i64 0, .int .i64 0] = some (.agg ⟨rE (g 0)⟩) := hat 0 0 (by omega) (by omega)
  have a01 : spAat [.agg ⟨mE g⟩, .int .i64 0, .int .i64 1] = some (.agg ⟨rE (g 1)⟩) := hat 0 1 (by omega) (by omega)
  have a02 : spAat [.agg ⟨mE g⟩, .int .i64 0, .int .i64 2] = some (.agg ⟨rE (g 2)⟩) := hat 0 2 (by omega) (by omega)
  have a03 : spAat [.agg ⟨mE g⟩, .int .i64 0, .int .i64 3] = some (.agg ⟨rE (g 3)⟩) := hat 0 3 (by omega) (by omega)
  have a10 : spAat [.agg ⟨mE g⟩, .int .i64 1, .int .i64 0] = some (.agg ⟨rE (g 4)⟩) := hat 1 0 (by omega) (by omega)
  have a11 : spAat [.agg ⟨mE g⟩, .int .i64 1, .int .i64 1] = some (.agg ⟨rE (g 5)⟩) := hat 1 1 (by omega) (by omega)
  have a12 : spAat [.agg ⟨mE g⟩, .int .i64 1, .int .i64 2] = some (.agg ⟨rE (g 6)⟩) := hat 1 2 (by omega) (by omega)
  have a13 : spAat [.agg ⟨mE g⟩, .int .i64 1, .int .i64 3] = some (.agg ⟨rE (g 7)⟩) := hat 1 3 (by omega) (by omega)
  have a20 : spAat [.agg ⟨mE g⟩, .int .i64 2, .int .i64 0] = some (.agg ⟨rE (g 8)⟩) := hat 2 0 (by omega) (by omega)
  have a21 : spAat [.agg ⟨mE g⟩, .int .i64 2, .int .i64 1] = some (.agg ⟨rE (g 9)⟩) := hat 2 1 (by omega) (by omega)
  have a22 : spAat [.agg ⟨mE g⟩, .int .i64 2, .int .i64 2] = some (.agg ⟨rE (g 10)⟩) := hat 2 2 (by omega) (by omega)
  have a23 : spAat [.agg ⟨mE g⟩, .int .i64 2, .int .i64 3] = some (.agg ⟨rE (g 11)⟩) := hat 2 3 (by omega) (by omega)
  have w0 : setR (setR (setR [.bool false, .string ⟨⟨[]⟩⟩, .string ⟨⟨[]⟩⟩, .bool false, .string ⟨⟨[]⟩⟩, .string ⟨⟨[]⟩⟩, .bool false, .string ⟨⟨[]⟩⟩, .string ⟨⟨[]⟩⟩] 0 (rE (g 0))) 3 (rE (g 4))) 6 (rE (g 8)) = rqs (w 0) := hw 0
  have w1 : setR (setR (setR [.bool false, .string ⟨⟨[]⟩⟩, .string ⟨⟨[]⟩⟩, .bool false, .string ⟨⟨[]⟩⟩, .string ⟨⟨[]⟩⟩, .bool false, .string ⟨⟨[]⟩⟩, .string ⟨⟨[]⟩⟩] 0 (rE (g 1))) 3 (rE (g 5))) 6 (rE (g 9)) = rqs (w 1) := hw 1
  have w2 : setR (setR (setR [.bool false, .string ⟨⟨[]⟩⟩, .string ⟨⟨[]⟩⟩, .bool false, .string ⟨⟨[]⟩⟩, .string ⟨⟨[]⟩⟩, .bool false, .string ⟨⟨[]⟩⟩, .string ⟨⟨[]⟩⟩] 0 (rE (g 2))) 3 (rE (g 6))) 6 (rE (g 10)) = rqs (w 2) := hw 2
  have w3 : setR (setR (setR [.bool false, .string ⟨⟨[]⟩⟩, .string ⟨⟨[]⟩⟩, .bool false, .string ⟨⟨[]⟩⟩, .string ⟨⟨[]⟩⟩, .bool false, .string ⟨⟨[]⟩⟩, .string ⟨⟨[]⟩⟩] 0 (rE (g 3))) 3 (rE (g 7))) 6 (rE (g 11)) = rqs (w 3) := hw 3
  have D0 := fun hp => hd hp (N + 4) (N + 6) 0 (by omega)
  have D1 := fun hp => hd hp (N + 4) (N + 7) 1 (by omega)
  have D2 := fun hp => hd hp (N + 4) (N + 8) 2 (by omega)
  have D3 := fun hp => hd hp (N + 4) (N + 9) 3 (by omega)
  generalize dotN (nrm a b c 0) (fun k => g (4 * k + 0)) 3 = y0 at *
  generalize dotN (nrm a b c 0) (fun k => g (4 * k + 1)) 3 = y1 at *
  generalize dotN (nrm a b c 0) (fun k => g (4 * k + 2)) 3 = y2 at *
  generalize dotN (nrm a b c 0) (fun k => g (4 * k + 3)) 3 = y3 at *
  have hr : setR (setR (setR [.bool false, .string ⟨⟨[]⟩⟩, .string ⟨⟨[]⟩⟩, .bool false, .string ⟨⟨[]⟩⟩, .string ⟨⟨[]⟩⟩, .bool false, .string ⟨⟨[]⟩⟩, .string ⟨⟨[]⟩⟩] 0 (rE y0)) 3 (rE y1)) 6 (rE y2) = r3E y0 y1 y2 := rfl
  have h3 : (r3E y0 y1 y2).length = 9 := rfl
  have tk : (r3E y0 y1 y2).take 9 = r3E y0 y1 y2 := rfl
  have tt : ∀ q, (rE q).take 3 = rE q := fun q => rfl
  have sr : ∀ q, setR [.bool false, .string ⟨⟨[]⟩⟩, .string ⟨⟨[]⟩⟩] 0 (rE q) = rE q := fun q => rfl
  clear hat hd hw S el ew hop ho o1 J T0 T1 T2 T3 U b1 b2 b3 b4
  simp only [c36, G0, Nat.reduceAdd]
  simp only [↓R0, R1, simprocAttr, -Int.reduceAbs, len, t1, hiv, gl, go, sg, tg, ra, rb, rc, rd, rE_len, rE_ok, setR_length, hl, rdS, hsub, hfc, a00, a01, a02, a03, a10, a11, a12, a13, a20, a21, a22, a23, w0, w1, w2, w3, D0, D1, D2, D3, hr, h3, tk, tt, sr, Bool.not_true]
  refine lp_step ?_
  simp only [↓R0, R1, simprocAttr, -Int.reduceAbs, len, t1, hiv, gl, go, sg, tg, ra, rb, rc, rd, rE_len, rE_ok, setR_length, hl, rdS, hsub, hfc, a00, a01, a02, a03, a10, a11, a12, a13, a20, a21, a22, a23, w0, w1, w2, w3, D0, D1, D2, D3, hr, h3, tk, tt, sr]
  refine lp_step ?_
  simp only [↓R0, R1, simprocAttr, -Int.reduceAbs, len, t1, hiv, gl, go, sg, tg, ra, rb, rc, rd, rE_len, rE_ok, setR_length, hl, rdS, hsub, hfc, a00, a01, a02, a03, a10, a11, a12, a13, a20, a21, a22, a23, w0, w1, w2, w3, D0, D1, D2, D3, hr, h3, tk, tt, sr]
  refine lp_step ?_
  simp only [↓R0, R1, simprocAttr, -Int.reduceAbs, len, t1, hiv, gl, go, sg, tg, ra, rb, rc, rd, rE_len, rE_ok, setR_length, hl, rdS, hsub, hfc, a00, a01, a02, a03, a10, a11, a12, a13, a20, a21, a22, a23, w0, w1, w2, w3, D0, D1, D2, D3, hr, h3, tk, tt, sr]
  refine lp_step ?_
  unfold fcR at hfc ⊢
  have z0l := zlen 0
  have z1l := zlen 1
  have z2l := zlen 2
  clear zlen hQ
  generalize cofP (aplQ g a b c d) 0 4 = z0 at *
  generalize cofP (aplQ g a b c d) 1 4 = z1 at *
  generalize cofP (aplQ g a b c d) 2 4 = z2 at *
  generalize cofP (aplQ g a b c d) 3 4 = z3 at *
  have sz0 : (sv false []).sign = 0 := by unfold sv; simp [nl]
  by_cases hz : z0 = 0 ∧ z1 = 0 ∧ z2 = 0
  · rw [if_pos hz] at hfc ⊢
    simp only [↓R0, R1, simprocAttr, -Int.reduceAbs, len, t1, hiv, gl, go, sg, tg, ra, rb, rc, rd, rE_len, rE_ok, setR_length, hl, rdS, hsub, hfc, a00, a01, a02, a03, a10, a11, a12, a13, a20, a21, a22, a23, w0, w1, w2, w3, D0, D1, D2, D3, hr, h3, tk, tt, sr, pZ, spISign, sz0, List.length_nil, Nat.zero_le, Fin, isEnd, resL, res1]
    exact ⟨_, rfl, rfl, fun k hk => by simp only [ne_nb hk, if_false]⟩
  · rw [if_neg hz] at hfc ⊢
    have G0 := lG_pos (d := z3) hz
    have d0 := lG_d1 z0 z1 z2 z3
    have d1 := lG_d2 z0 z1 z2 z3
    have d2 := lG_d3 z0 z1 z2 z3
    unfold lE at hfc ⊢
    have dl : ∀ {z : Int}, (lG z0 z1 z2 z3 : Int) ∣ z → (bl z.natAbs).length ≤ 1073741825 → (bl (z / (lG z0 z1 z2 z3 : Int)).natAbs).length ≤ 1099511627776 := fun {z} hd hl => by
      rw [Int.natAbs_ediv_of_dvd hd]
      exact Nat.le_trans (bl_length_mono (Nat.div_le_self _ _)) (Nat.le_trans hl (by omega))
    have u0l := dl d0 z0l
    have u1l := dl d1 z1l
    have u2l := dl d2 z2l
    have e0 := Int.ediv_mul_cancel d0
    have e1 := Int.ediv_mul_cancel d1
    have e2 := Int.ediv_mul_cancel d2
    generalize (lG z0 z1 z2 z3 : Int) = G at *
    generalize z0 / G = u0 at *
    generalize z1 / G = u1 at *
    generalize z2 / G = u2 at *
    generalize z3 / G = u3 at *
    have sg : ∀ u : Int, (u.sign = 0) = (u = 0) := fun u => propext Int.sign_eq_zero_iff_zero
    simp only [iE, List.cons_append, List.nil_append] at hfc ⊢
    by_cases c0 : u0 = 0
    · by_cases c1 : u1 = 0
      · have c2 : ¬ u2 = 0 := fun c2 => hz ⟨by rw [← e0, c0]; simp, by rw [← e1, c1]; simp, by rw [← e2, c2]; simp⟩
        have s0 := eq_true ((sg u0).symm ▸ c0 : u0.sign = 0)
        have s1 := eq_true ((sg u1).symm ▸ c1 : u1.sign = 0)
        have s2 := eq_false (fun h : u2.sign = 0 => c2 ((sg u2) ▸ h))
        simp only [↓R0, R1, simprocAttr, -Int.reduceAbs, len, t1, hiv, gl, go, sg, tg, ra, rb, rc, rd, rE_len, rE_ok, setR_length, hl, rdS, hsub, hfc, a00, a01, a02, a03, a10, a11, a12, a13, a20, a21, a22, a23, w0, w1, w2, w3, D0, D1, D2, D3, hr, h3, tk, tt, sr, spISign, u0l, u1l, u2l, eq_true c0, eq_true c1, eq_false c2, s0, s1, s2, Fin, isEnd, resL, res1]
        exact ⟨_, rfl, rfl, fun k hk => by simp only [ne_nb hk, if_false]⟩
      · have s0 := eq_true ((sg u0).symm ▸ c0 : u0.sign = 0)
        have s1 := eq_false (fun h : u1.sign = 0 => c1 ((sg u1) ▸ h))
        simp only [↓R0, R1, simprocAttr, -Int.reduceAbs, len, t1, hiv, gl, go, sg, tg, ra, rb, rc, rd, rE_len, rE_ok, setR_length, hl, rdS, hsub, hfc, a00, a01, a02, a03, a10, a11, a12, a13, a20, a21, a22, a23, w0, w1, w2, w3, D0, D1, D2, D3, hr, h3, tk, tt, sr, spISign, u0l, u1l, u2l, eq_true c0, eq_false c1, s0, s1, Fin, isEnd, resL, res1]
        exact ⟨_, rfl, rfl, fun k hk => by simp only [ne_nb hk, if_false]⟩
    · have s0 := eq_false (fun h : u0.sign = 0 => c0 ((sg u0) ▸ h))
      simp only [↓R0, R1, simprocAttr, -Int.reduceAbs, len, t1, hiv, gl, go, sg, tg, ra, rb, rc, rd, rE_len, rE_ok, setR_length, hl, rdS, hsub, hfc, a00, a01, a02, a03, a10, a11, a12, a13, a20, a21, a22, a23, w0, w1, w2, w3, D0, D1, D2, D3, hr, h3, tk, tt, sr, spISign, u0l, u1l, u2l, eq_false c0, s0, Fin, isEnd, resL, res1]
      exact ⟨_, rfl, rfl, fun k hk => by simp only [ne_nb hk, if_false]⟩
end Go.Eng
end
section
set_option linter.unusedVariables false
set_option linter.unusedSimpArgs false
set_option linter.unusedSectionVars false
namespace Go.Eng
structure Pt where
  (s1 : Bool) (l1 : List UInt8) (s2 : Bool) (l2 : List UInt8) (s3 : Bool) (l3 : List UInt8) (s4 : Bool) (l4 : List UInt8)
deriving DecidableEq
namespace Pt
def cells (p : Pt) : List Value := [.bool p.s1, .string ⟨⟨p.l1⟩⟩, .bool p.s2, .string ⟨⟨p.l2⟩⟩, .bool p.s3, .string ⟨⟨p.l3⟩⟩, .bool p.s4, .string ⟨⟨p.l4⟩⟩]
def x (p : Pt) : Int := sv p.s1 p.l1
def y (p : Pt) : Int := sv p.s2 p.l2
def z (p : Pt) : Int := sv p.s3 p.l3
def w (p : Pt) : Int := sv p.s4 p.l4
def cmp (p q : Pt) : Int := cmp4 p.x p.y p.z p.w q.x q.y q.z q.w
def on (p q r : Pt) : Prop := flt p.x p.y p.z p.w q.x q.y q.z q.w r.x r.y r.z r.w
instance {p q r : Pt} : Decidable (on p q r) := by unfold on; infer_instance
def ok (p : Pt) : Prop := (p.l1.length ≤ 65536 ∧ p.l2.length ≤ 65536 ∧ p.l3.length ≤ 65536 ∧ p.l4.length ≤ 65536) ∧ 0 < p.w
instance {p : Pt} : Decidable p.ok := by unfold ok; infer_instance
def hi (p q : Pt) : Pt := if 0 < cmp p q then p else q
end Pt
end Go.Eng
end
section
set_option linter.unusedVariables false
set_option linter.unusedSimpArgs false
set_option linter.unusedSectionVars false
namespace Go.Eng
theorem pW_pW (w : Int) : pW (pW w) = pW w := pW_of (pW_ne w)
theorem pE_pW (x y z w : Int) : pE x y z (pW w) = pE x y z w := by
  unfold pE pQ pG; rw [pW_pW]
theorem pE_idem (x y z w : Int) : pE (pQ x y z w x) (pQ x y z w y) (pQ x y z w z) (pQ x y z w (pW w)) = pE x y z w := by
  rw [← pE_pW x y z w]
  have h1 := pQ_mul (pG_dvd_x x y z w)
  have h2 := pQ_mul (pG_dvd_y x y z w)
  have h3 := pQ_mul (pG_dvd_z x y z w)
  have h4 := pQ_mul (pG_dvd_w x y z w)
  have hp := pQ_pos x y z w
  have hw := pW_ne w
  have hg := pG_pos x y z w
  have hg' : (pG x y z w : Int) ≠ 0 := by omega
  generalize (pG x y z w : Int) = g at *
  generalize pQ x y z w x = X at *
  generalize pQ x y z w y = Y at *
  generalize pQ x y z w z = Z at *
  generalize pQ x y z w (pW w) = W at *
  generalize pW w = v at *
  have key : ∀ {A a : Int}, A * g = (if v < 0 then -a else a) → A * v = a * W := by
    intro A a h
    apply Int.eq_of_mul_eq_mul_right hg'
    by_cases c : v < 0
    · rw [if_pos c] at h h4; grind
    · rw [if_neg c] at h h4; grind
  exact pE_eq (by omega) hw (key h1) (key h2) (key h3)
namespace Pt
def of (a b c d : Int) : Pt := ⟨decide (a < 0), bl a.natAbs, decide (b < 0), bl b.natAbs, decide (c < 0), bl c.natAbs, decide (d < 0), bl d.natAbs⟩
theorem of_x (a b c d : Int) : (of a b c d).x = a := sv_can a
theorem of_y (a b c d : Int) : (of a b c d).y = b := sv_can b
theorem of_z (a b c d : Int) : (of a b c d).z = c := sv_can c
theorem of_w (a b c d : Int) : (of a b c d).w = d := sv_can d
def can (p : Pt) : Prop := 0 < p.w ∧ pE p.x p.y p.z p.w = p.cells
theorem can_of (x y z w : Int) : can (of (pQ x y z w x) (pQ x y z w y) (pQ x y z w z) (pQ x y z w (pW w))) := by
  unfold can
  rw [of_x, of_y, of_z, of_w]
  exact ⟨pQ_pos x y z w, by rw [pE_idem]; rfl⟩
end Pt
end Go.Eng
end
section
set_option linter.unusedVariables false
set_option linter.unusedSimpArgs false
set_option linter.unusedSectionVars false
namespace Go.Eng
namespace Pt
variable {a b x : Pt} {m k : Int}
theorem of_coords {p q r : Rat} {i : Nat} (hp : RB p i) (hq : RB q i) (hr : RB r i) (hi : 1 ≤ i) (hB : 3 * i ≤ 65536) : ∃ P : Pt, mkE p q r = P.cells ∧ P.can ∧ P.ok ∧ Rat.divInt P.x P.w = p ∧ Rat.divInt P.y P.w = q ∧ Rat.divInt P.z P.w = r := by
  have hp0 := p.den_nz
  have hq0 := q.den_nz
  have hr0 := r.den_nz
  obtain ⟨X, eX⟩ : ∃ z, p.num * ((q.den : Int) * r.den) = z := ⟨_, rfl⟩
  obtain ⟨Y, eY⟩ : ∃ z, q.num * ((p.den : Int) * r.den) = z := ⟨_, rfl⟩
  obtain ⟨Z, eZ⟩ : ∃ z, r.num * ((p.den : Int) * q.den) = z := ⟨_, rfl⟩
  obtain ⟨W, eW⟩ : ∃ z, (p.den : Int) * q.den * r.den = z := ⟨_, rfl⟩
  have hW : W ≠ 0 := by
    rw [← eW]; exact Int.mul_ne_zero (Int.mul_ne_zero (by omega) (by omega)) (by omega)
  have pd : (bl (p.den : Int).natAbs).length ≤ i := hp.2
  have qd : (bl (q.den : Int).natAbs).length ≤ i := hq.2
  have rd : (bl (r.den : Int).natAbs).length ≤ i := hr.2
  have lX : (bl X.natAbs).length ≤ 65536 := by rw [← eX]; exact Nat.le_trans (Lmul hp.1 (Lmul qd rd)) (by omega)
  have lY : (bl Y.natAbs).length ≤ 65536 := by rw [← eY]; exact Nat.le_trans (Lmul hq.1 (Lmul pd rd)) (by omega)
  have lZ : (bl Z.natAbs).length ≤ 65536 := by rw [← eZ]; exact Nat.le_trans (Lmul hr.1 (Lmul pd qd)) (by omega)
  have lW : (bl W.natAbs).length ≤ 65536 := by rw [← eW]; exact Nat.le_trans (Lmul (Lmul pd qd) rd) (by omega)
  refine ⟨of (pQ X Y Z W X) (pQ X Y Z W Y) (pQ X Y Z W Z) (pQ X Y Z W (pW W)), ?_, can_of X Y Z W, ?_, ?_, ?_, ?_⟩
  · unfold mkE; rw [eX, eY, eZ, eW]; rfl
  · exact ⟨⟨pQ_len lX, pQ_len lY, pQ_len lZ, pQ_len (pW_len lW (by omega))⟩, (can_of X Y Z W).1⟩
  · rw [of_x, of_w, pQ_div (pG_dvd_x X Y Z W), pW_of hW, ← Rat.num_divInt_den p, Rat.divInt_eq_divInt_iff hW (by omega)]
    rw [← eX, ← eW]; grind
  · rw [of_y, of_w, pQ_div (pG_dvd_y X Y Z W), pW_of hW, ← Rat.num_divInt_den q, Rat.divInt_eq_divInt_iff hW (by omega)]
    rw [← eY, ← eW]; grind
  · rw [of_z, of_w, pQ_div (pG_dvd_z X Y Z W), pW_of hW, ← Rat.num_divInt_den r, Rat.divInt_eq_divInt_iff hW (by omega)]
    rw [← eZ, ← eW]; grind
end Pt
end Go.Eng
end
section
set_option linter.unusedVariables false
set_option linter.unusedSimpArgs false
set_option linter.unusedSectionVars false
set_option maxRecDepth 20000
namespace Go.Eng
open Go Go.Proofs Go.IntWalk
theorem app_mk {cs : List Value} {p : Nat → RQ} {x y z : Rat} {i : Nat} (hp : mapOf cs = some p) (ho : mapOk 1048576 p) (hx : RB x i) (hy : RB y i) (hz : RB z i) (hi : 1 ≤ i) (h3 : 3 * i ≤ 65536) :
    spAapp [.agg ⟨cs⟩, .agg ⟨mkE x y z⟩] = some (.agg ⟨mkE (appM (fun i => (p i).v) x y z 0) (appM (fun i => (p i).v) x y z 1) (appM (fun i => (p i).v) x y z 2)⟩) := by
  obtain ⟨P, e, c, ok, e1, e2, e3⟩ := Pt.of_coords hx hy hz hi h3
  rw [e]
  have w : pW P.w = P.w := pW_of (by have := ok.2; omega)
  unfold spAapp Pt.cells
  simp only [hp]
  rw [if_pos ⟨ho, ok.1.1, ok.1.2.1, ok.1.2.2.1, ok.1.2.2.2⟩, show sv P.s4 P.l4 = P.w from rfl, w, show sv P.s1 P.l1 = P.x from rfl, show sv P.s2 P.l2 = P.y from rfl, show sv P.s3 P.l3 = P.z from rfl, e1, e2, e3]
theorem map_mE (f : Nat → Rat) : mapOf (mE f) = some (fun i => if i < 12 then RQ.of (f i) else RQ.zero) := mapOf_mE f
theorem mE_ok' {f : Nat → Rat} {k : Nat} (h : ∀ i, i < 12 → RB (f i) k) (hk : k ≤ 1048576) : mapOk 1048576 (fun i => if i < 12 then RQ.of (f i) else RQ.zero) := mapOk_iff.2 fun i hi => by
  simp only [hi, if_true]; exact (RQ.of_ok (h i hi)).le hk
theorem mE_v {f : Nat → Rat} {i : Nat} (hi : i < 12) : (if i < 12 then RQ.of (f i) else RQ.zero).v = f i := by rw [if_pos hi, RQ.of_v]
theorem appM_congr {f g : Nat → Rat} (h : ∀ i, i < 12 → f i = g i) (x y z : Rat) {n : Nat} (hn : n < 3) : appM f x y z n = appM g x y z n :=
  dotN_congr 4 (fun k hk => ⟨h _ (by omega), rfl⟩)
theorem app_mE {f : Nat → Rat} {x y z : Rat} {i k : Nat} (hf : ∀ i, i < 12 → RB (f i) k) (hk : k ≤ 1048576) (hx : RB x i) (hy : RB y i) (hz : RB z i) (hi : 1 ≤ i) (h3 : 3 * i ≤ 65536) :
    spAapp [.agg ⟨mE f⟩, .agg ⟨mkE x y z⟩] = some (.agg ⟨mkE (appM f x y z 0) (appM f x y z 1) (appM f x y z 2)⟩) := by
  rw [app_mk (map_mE f) (mE_ok' hf hk) hx hy hz hi h3]
  rw [appM_congr (g := f) (fun i hi => mE_v hi) x y z (n := 0) (by omega), appM_congr (g := f) (fun i hi => mE_v hi) x y z (n := 1) (by omega), appM_congr (g := f) (fun i hi => mE_v hi) x y z (n := 2) (by omega)]
theorem mkE_len (x y z : Rat) : (mkE x y z).length = 8 := rfl
theorem mkE_ok (x y z : Rat) : (mkE x y z).all okCell = true := rfl
theorem ceq_self8 {l : List Value} (h : ∃ a b c d e f g i, l = [.bool a, .string ⟨⟨b⟩⟩, .bool c, .string ⟨⟨d⟩⟩, .bool e, .string ⟨⟨f⟩⟩, .bool g, .string ⟨⟨i⟩⟩]) : ceq [.b, .s, .b, .s, .b, .s, .b, .s] l l = some true := by
  obtain ⟨a, b, c, d, e, f, g, i, rfl⟩ := h
  simp only [ceq, Option.map_some, decide_true, Bool.and_true]
theorem ceq_mkE (x y z : Rat) : ceq [.b, .s, .b, .s, .b, .s, .b, .s] (mkE x y z) (mkE x y z) = some true := ceq_self8 ⟨_, _, _, _, _, _, _, _, rfl⟩
theorem ceq_lE (a b c d : Int) : ceq [.b, .s, .b, .s, .b, .s, .b, .s] (lE a b c d) (lE a b c d) = some true := ceq_self8 ⟨_, _, _, _, _, _, _, _, rfl⟩
def vec4' (x y z w : Rat) (k : Nat) : Rat := if k = 0 then x else if k = 1 then y else if k = 2 then z else w
theorem lnFrom_mk {x y z w : Rat} {k : Nat} (hx : RB x k) (hy : RB y k) (hz : RB z k) (hw : RB w k) (hk : k ≤ 1073741824) : spLnFrom [.agg ⟨r3E x y z⟩, .agg ⟨rE w⟩] = some (fcR (vec4' x y z w)) := by
  have ar : arrOf 3 (r3E x y z) = some (fun i => (([RQ.of x, RQ.of y, RQ.of z] : List RQ)[i]?).getD RQ.zero) := by
    have e := ratsOf_rqs [RQ.of x, RQ.of y, RQ.of z]
    unfold arrOf
    rw [show r3E x y z = rqs [RQ.of x, RQ.of y, RQ.of z] from rfl, e]
    exact if_pos rfl
  have oks : arrOk 3 1073741824 (fun i => (([RQ.of x, RQ.of y, RQ.of z] : List RQ)[i]?).getD RQ.zero) := arrOk_iff.2 fun i hi => by
    match i, hi with
    | 0, _ => exact (RQ.of_ok hx).le (by omega)
    | 1, _ => exact (RQ.of_ok hy).le (by omega)
    | 2, _ => exact (RQ.of_ok hz).le (by omega)
  unfold spLnFrom
  rw [show rE w = [.bool _, .string ⟨⟨_⟩⟩, .string ⟨⟨_⟩⟩] from rfl]
  simp only [ar]
  rw [if_pos ⟨oks, hw.num hk, hw.den hk⟩]
  refine congrArg some (fcR_congr (fun i hi => ?_))
  match i, hi with
  | 0, _ => exact RQ.of_v _
  | 1, _ => exact RQ.of_v _
  | 2, _ => exact RQ.of_v _
  | 3, _ => exact rv_can _
def spLAat : List Value → Option Value
  | [.int .i64 x, .int .i64 y, .int .i64 z] => if (-1000 ≤ x ∧ x ≤ 1000) ∧ (-1000 ≤ y ∧ y ≤ 1000) ∧ (-1000 ≤ z ∧ z ≤ 1000) then some (.agg ⟨mkE x y z⟩) else none
  | _ => none
def c41 : ICode :=
  (.seq (.reg [qq 6 (.alloc 39 8 [(.bool false), e0, (.bool false), e0, (.bool false), e0, (.bool false), e0])]) (.seq (.reg [qq 7 (.mv (.t 0)), qq 8 (.call 27 [(.t 7)]), qq 9 (.mv (.t 1)), qq 10 (.call 27 [(.t 9)]), qq 11 (.mv (.t 2)), qq 12 (.call 27 [(.t 11)]), qq 13 (.build [(.bool false), e0, e0, (.bool false), e0, e0, (.bool false), e0, e0] [(0, 3, (.t 8)), (3, 3, (.t 10)), (6, 3, (.t 12))]), qq 14 (.call 59 [(.t 13)]), qn (.store 8 (.t 6) (.t 14))]) .ret))
theorem tr41 : trFun Tryz.prog 41 = some ⟨15, [.cell 6 true 8], c41⟩ := by kernel_rfl
theorem rb_small {x : Int} (h : -1000 ≤ x ∧ x ≤ 1000) : RB (x : Rat) 2 := RB.int (bl_length_le.2 (Nat.lt_of_le_of_lt (by omega : x.natAbs ≤ 1000) (by decide))) (by omega)
theorem ok_LAat : SpecOK Tryz.prog 41 (flat spLAat) := by
  refine flat_run (env_cons ok_qFrom (env_cons ok_pFrom (env_nil _))) mixed tr41 ?_
  intro args v h N hG
  unfold spLAat at hG
  split at hG
  case h_2 => cases hG
  rename_i x y z
  split at hG
  case isFalse => cases hG
  rename_i hl
  obtain ⟨hx, hy, hz⟩ := hl
  cases hG
  refine ⟨rfl, by simp, ?_⟩
  have fx : spQFrom [.int .i64 x] = some (.agg ⟨rE x⟩) := if_pos ⟨by omega, by omega⟩
  have fy : spQFrom [.int .i64 y] = some (.agg ⟨rE y⟩) := if_pos ⟨by omega, by omega⟩
  have fz : spQFrom [.int .i64 z] = some (.agg ⟨rE z⟩) := if_pos ⟨by omega, by omega⟩
  have bx := rb_small hx
  have by' := rb_small hy
  have bz := rb_small hz
  generalize ((x : Int) : Rat) = X at *
  generalize ((y : Int) : Rat) = Y at *
  generalize ((z : Int) : Rat) = Z at *
  have fp : spPFrom [.agg ⟨[.bool (decide (X.num < 0)), .string ⟨⟨bl X.num.natAbs⟩⟩, .string ⟨⟨if X.den = 1 then [] else bl X.den⟩⟩, .bool (decide (Y.num < 0)), .string ⟨⟨bl Y.num.natAbs⟩⟩, .string ⟨⟨if Y.den = 1 then [] else bl Y.den⟩⟩, .bool (decide (Z.num < 0)), .string ⟨⟨bl Z.num.natAbs⟩⟩, .string ⟨⟨if Z.den = 1 then [] else bl Z.den⟩⟩]⟩] = some (.agg ⟨mkE X Y Z⟩) := by
    unfold spPFrom
    simp only [rv_can]
    exact if_pos ⟨bx.num (by omega), bx.den (by omega), by'.num (by omega), by'.den (by omega), bz.num (by omega), bz.den (by omega)⟩
  simp only [c41, G0, Nat.reduceAdd]
  simp only [↓R0, R1, simprocAttr, -Int.reduceAbs, fx, fy, fz, rE, fp, mkE_len, mkE_ok]
  simp only [↓R0, R1, simprocAttr, -Int.reduceAbs, fp, mkE, pE, Fin, isEnd, resL, res1, iE, rE]
  exact ⟨_, rfl, rfl, fun k hk => by simp only [ne_nb hk, if_false]⟩
end Go.Eng
end
section
set_option linter.unusedVariables false
set_option linter.unusedSimpArgs false
set_option linter.unusedSectionVars false
set_option maxRecDepth 20000
namespace Go.Eng
open Go Go.Proofs Go.IntWalk
theorem lE_0011 : lE 0 0 1 1 = iE 0 ++ iE 0 ++ iE 1 ++ iE 1 := by
  unfold lE
  rw [show lG 0 0 1 1 = 1 by decide +kernel]; rfl
theorem aw1 : spArot [.int .i64 2, .int .i64 1] = some (.tuple ⟨[.agg ⟨mE (rotM 2 1)⟩, .bool true]⟩) := by
  unfold spArot
  simp only
  rw [if_pos (by decide), if_neg (by decide)]; rfl
theorem aw2 : spLnFrom [.agg ⟨r3E 0 0 1⟩, .agg ⟨rE 1⟩] = some (.tuple ⟨[.agg ⟨lE 0 0 1 1⟩, .bool true]⟩) := by
  rw [lnFrom_mk (k := 1) RB.zero RB.zero RB.one RB.one (by omega)]
  unfold fcR
  rw [show cofP (vec4' 0 0 1 1) 0 4 = 0 by decide +kernel, show cofP (vec4' 0 0 1 1) 1 4 = 0 by decide +kernel, show cofP (vec4' 0 0 1 1) 2 4 = 1 by decide +kernel, show cofP (vec4' 0 0 1 1) 3 4 = 1 by decide +kernel]
  rw [if_neg (by decide)]
theorem aw3 : spArefl [.agg ⟨lE 0 0 1 1⟩] = some (.agg ⟨mE (reflM 0 0 1 1)⟩) := by
  rw [lE_0011]
  have l : ∀ z : Int, z = 0 ∨ z = 1 → (bl z.natAbs).length ≤ 65536 := fun z h => Nat.le_trans (bl_length_le (k := 1) |>.2 (by rcases h with rfl | rfl <;> decide)) (by omega)
  unfold spArefl iE
  simp only [List.cons_append, List.nil_append]
  rw [if_pos ⟨l 0 (.inl rfl), l 0 (.inl rfl), l 1 (.inr rfl), l 1 (.inr rfl)⟩]
  simp only [sv_can]; rfl
theorem aw_r0 : spQFrom [.int .i64 0] = some (.agg ⟨rE 0⟩) := by
  unfold spQFrom; exact if_pos (by decide)
theorem aw_r1 : spQFrom [.int .i64 1] = some (.agg ⟨rE 1⟩) := by
  unfold spQFrom; exact if_pos (by decide)
theorem aw_at (x y z : Int) (X Y Z : Rat) (h : (-1000 ≤ x ∧ x ≤ 1000) ∧ (-1000 ≤ y ∧ y ≤ 1000) ∧ (-1000 ≤ z ∧ z ≤ 1000)) (hx : X = x) (hy : Y = y) (hz : Z = z) : spLAat [.int .i64 x, .int .i64 y, .int .i64 z] = some (.agg ⟨mkE X Y Z⟩) := by
  subst hx hy hz; exact if_pos h
theorem aw_app (f : Nat → Rat) (x y z X Y Z : Rat) (hf : ∀ i, i < 12 → RB (f i) 2) (hx : RB x 2) (hy : RB y 2) (hz : RB z 2) (h0 : appM f x y z 0 = X) (h1 : appM f x y z 1 = Y) (h2 : appM f x y z 2 = Z) :
    spAapp [.agg ⟨mE f⟩, .agg ⟨mkE x y z⟩] = some (.agg ⟨mkE X Y Z⟩) := by
  rw [app_mE hf (by omega) hx hy hz (by omega) (by omega), h0, h1, h2]
theorem rb3 {q : Rat} (h : q = 0 ∨ q = 1 ∨ q = 2 ∨ q = 3 ∨ q = -1) : RB q 2 := by
  rcases h with rfl | rfl | rfl | rfl | rfl
  · exact RB.zero.le (by omega)
  · exact RB.one.le (by omega)
  · exact RB.two.le (by omega)
  · exact rb_small (x := 3) (by decide)
  · exact RB.one.neg.le (by omega)
theorem aw4 : spAapp [.agg ⟨mE (rotM 2 1)⟩, .agg ⟨mkE 1 0 0⟩] = some (.agg ⟨mkE 0 1 0⟩) :=
  aw_app _ _ _ _ _ _ _ (fun i hi => (RB.unit (rot_vals 2 (by omega) 1 (by omega) i hi)).le (by omega)) (rb3 (by decide +kernel)) (rb3 (by decide +kernel)) (rb3 (by decide +kernel)) (by decide +kernel) (by decide +kernel) (by decide +kernel)
theorem refl_vals : ∀ i, i < 12 → reflM 0 0 1 1 i = 0 ∨ reflM 0 0 1 1 i = 1 ∨ reflM 0 0 1 1 i = 2 ∨ reflM 0 0 1 1 i = 3 ∨ reflM 0 0 1 1 i = -1 := by decide +kernel
theorem aw5 : spAapp [.agg ⟨mE (reflM 0 0 1 1)⟩, .agg ⟨mkE 0 0 3⟩] = some (.agg ⟨mkE 0 0 (-1)⟩) :=
  aw_app _ _ _ _ _ _ _ (fun i hi => rb3 (refl_vals i hi)) (rb3 (by decide +kernel)) (rb3 (by decide +kernel)) (rb3 (by decide +kernel)) (by decide +kernel) (by decide +kernel) (by decide +kernel)
theorem id_vals : ∀ i, i < 12 → idM i = 0 ∨ idM i = 1 ∨ idM i = -1 := by decide +kernel
theorem aw6 : spAapp [.agg ⟨mE idM⟩, .agg ⟨mkE 1 2 3⟩] = some (.agg ⟨mkE 1 2 3⟩) :=
  aw_app _ _ _ _ _ _ _ (fun i hi => (RB.unit (id_vals i hi)).le (by omega)) (rb3 (by decide +kernel)) (rb3 (by decide +kernel)) (rb3 (by decide +kernel)) (by decide +kernel) (by decide +kernel) (by decide +kernel)
def spLAaw : List Value → Option Value
  | [] => some (.bool true)
  | _ => none
def c11 : ICode :=
  (.seq (.reg [qq 0 (.mv (.c (.bool false)))]) (.seq (.reg [qq 6 (.call 12 [(ci 2), (ci 1)]), qq 5 (.mv (.t 6)), qq 7 (.ext (.t 5) 0), qq 8 (.ext (.t 5) 1), qq 1 (.alloc 29 36 [(.bool false), e0, e0, (.bool false), e0, e0, (.bool false), e0, e0, (.bool false), e0, e0, (.bool false), e0, e0, (.bool false), e0, e0, (.bool false), e0, e0, (.bool false), e0, e0, (.bool false), e0, e0, (.bool false), e0, e0, (.bool false), e0, e0, (.bool false), e0, e0]), qn (.store 36 (.t 1) (.t 7)), qq 2 (.mv (.t 8))]) (.seq (.reg [qq 10 (.call 27 [(ci 0)]), qq 11 (.call 27 [(ci 0)]), qq 12 (.call 27 [(ci 1)]), qq 13 (.build [(.bool false), e0, e0, (.bool false), e0, e0, (.bool false), e0, e0] [(0, 3, (.t 10)), (3, 3, (.t 11)), (6, 3, (.t 12))]), qq 14 (.call 27 [(ci 1)]), qq 15 (.call 40 [(.t 13), (.t 14)]), qq 9 (.mv (.t 15)), qq 16 (.ext (.t 9) 0), qq 17 (.ext (.t 9) 1), qq 3 (.alloc 48 8 [(.bool false), e0, (.bool false), e0, (.bool false), e0, (.bool false), e0]), qn (.store 8 (.t 3) (.t 16)), qq 4 (.mv (.t 17))]) (.seq (.dreg [qu 18 (.mv (.t 2)), qu 19 (.mv (.t 18)), ⟨(some 20), (some (19, true)), [], (.mv (.t 4))⟩, qu 21 (.pick (.t 19) (.t 20) (.c (.bool false))), qu 22 (.mv (.t 21)), ⟨(some 23), (some (22, true)), [], (.load true 36 (.t 1))⟩, ⟨(some 24), (some (22, true)), [], (.call 41 [(ci 1), (ci 0), (ci 0)])⟩, ⟨(some 25), (some (22, true)), [], (.call 21 [(.t 23), (.t 24)])⟩, ⟨(some 26), (some (22, true)), [], (.call 41 [(ci 0), (ci 1), (ci 0)])⟩, ⟨(some 27), (some (22, true)), [], (.eqa false [.b, .s, .b, .s, .b, .s, .b, .s] (.t 25) (.t 26))⟩, qu 28 (.pick (.t 22) (.t 27) (.c (.bool false))), qu 29 (.mv (.t 28)), ⟨(some 30), (some (29, true)), [], (.load true 8 (.t 3))⟩, ⟨(some 31), (some (29, true)), [], (.call 25 [(.t 30)])⟩, ⟨(some 32), (some (29, true)), [], (.call 41 [(ci 0), (ci 0), (ci 3)])⟩, ⟨(some 33), (some (29, true)), [], (.call 21 [(.t 31), (.t 32)])⟩, ⟨(some 34), (some (29, true)), [], (.call 41 [(ci 0), (ci 0), (ci (-1))])⟩, ⟨(some 35), (some (29, true)), [], (.eqa false [.b, .s, .b, .s, .b, .s, .b, .s] (.t 33) (.t 34))⟩, qu 36 (.pick (.t 29) (.t 35) (.c (.bool false))), qu 37 (.mv (.t 36)), ⟨(some 38), (some (37, true)), [], (.call 17 [])⟩, ⟨(some 39), (some (37, true)), [], (.call 41 [(ci 1), (ci 2), (ci 3)])⟩, ⟨(some 40), (some (37, true)), [], (.call 21 [(.t 38), (.t 39)])⟩, ⟨(some 41), (some (37, true)), [], (.call 41 [(ci 1), (ci 2), (ci 3)])⟩, ⟨(some 42), (some (37, true)), [], (.eqa false [.b, .s, .b, .s, .b, .s, .b, .s] (.t 40) (.t 41))⟩, qu 43 (.pick (.t 37) (.t 42) (.c (.bool false))), qu 0 (.mv (.t 43))]) .ret))))
theorem tr11 : trFun Tryz.prog 11 = some ⟨44, [.t 0], c11⟩ := by kernel_rfl
set_option maxHeartbeats 4000000 in
theorem ok_LAaw : SpecOK Tryz.prog 11 (flat spLAaw) := by
  refine flat_run (env_cons ok_Arot (env_cons ok_qFrom (env_cons ok_lnFrom (env_cons ok_LAat (env_cons ok_Aapp (env_cons ok_Arefl (env_cons ok_Aid (env_nil _)))))))) mixed tr11 ?_
  intro args v h N hG
  unfold spLAaw at hG
  split at hG
  case h_2 => cases hG
  cases hG
  refine ⟨rfl, by simp, ?_⟩
  have a1 := aw_at 1 0 0 1 0 0 (by decide) rfl rfl rfl
  have a2 := aw_at 0 1 0 0 1 0 (by decide) rfl rfl rfl
  have a3 := aw_at 0 0 3 0 0 3 (by decide) rfl rfl rfl
  have a4 := aw_at 0 0 (-1) 0 0 (-1) (by decide) rfl rfl rfl
  have a5 := aw_at 1 2 3 1 2 3 (by decide) rfl rfl rfl
  have e1 := aw1
  have e2 := aw2
  have e3 := aw3
  have e4 := aw4
  have e5 := aw5
  have e6 := aw6
  have sid : spAid [] = some (.agg ⟨mE idM⟩) := rfl
  have hr : setR (setR (setR [.bool false, .string ⟨⟨[]⟩⟩, .string ⟨⟨[]⟩⟩, .bool false, .string ⟨⟨[]⟩⟩, .string ⟨⟨[]⟩⟩, .bool false, .string ⟨⟨[]⟩⟩, .string ⟨⟨[]⟩⟩] 0 (rE 0)) 3 (rE 0)) 6 (rE 1) = r3E 0 0 1 := rfl
  have l1 := mE_len (rotM 2 1)
  have o1 := mE_ok (rotM 2 1)
  have t1 : (mE (rotM 2 1)).take 36 = mE (rotM 2 1) := List.take_of_length_le (by omega)
  have sg := setR_all (mE (rotM 2 1)) (part12 (rotM 2 1) 0) (by rw [l1, part12_len _ (Nat.zero_le _)])
  rw [part12_zero] at sg
  have l2 : (lE 0 0 1 1).length = 8 := rfl
  have o2 : (lE 0 0 1 1).all okCell = true := rfl
  have t2 : (lE 0 0 1 1).take 8 = lE 0 0 1 1 := rfl
  have sl : setR [.bool false, .string ⟨⟨[]⟩⟩, .bool false, .string ⟨⟨[]⟩⟩, .bool false, .string ⟨⟨[]⟩⟩, .bool false, .string ⟨⟨[]⟩⟩] 0 (lE 0 0 1 1) = lE 0 0 1 1 := rfl
  have h3 : (r3E 0 0 1).length = 9 := rfl
  have tk : (r3E 0 0 1).take 9 = r3E 0 0 1 := rfl
  generalize mE (rotM 2 1) = m1 at *
  generalize mE (reflM 0 0 1 1) = m2 at *
  generalize lE 0 0 1 1 = p1 at *
  simp only [c11, G0, Nat.reduceAdd]
  simp only [↓R0, R1, simprocAttr, -Int.reduceAbs, setR_length, e1, rE_ok, h3, tk, aw_r0, aw_r1, hr, e2, l1, o1, t1, sg, l2, o2, t2, sl, a1, e4, a2, ceq_mkE, e3, a3, e5, a4, sid, a5, e6, rE_len, Fin, isEnd, resL, res1]
  exact ⟨_, rfl, rfl, fun k hk => by simp only [ne_nb hk, if_false]⟩
end Go.Eng
end
section
set_option linter.unusedVariables false
set_option linter.unusedSimpArgs false
set_option linter.unusedSectionVars false
set_option maxRecDepth 20000
namespace Go.Eng
open Go Go.Proofs Go.IntWalk
def spR7Great : List Value → Option Value
  | [.agg ⟨cs⟩] => match mapOf cs with
    | some p => some (.int .i64 (if mapOk 6 p then 0 else 1))
    | none => none
  | _ => none
def c18 : ICode :=
  (.seq (.reg [qq 1 (.box 29 36 (.t 0)), qq 2 (.mv (ci 0))]) (.seq (.seq (.reg [qq 3 (.mv (ci 0))]) (.block 0 (.loop (.seq (.seq (.reg [qq 4 (.mv (.t 3)), qq 5 (.bin .lss (.t 4) (ci 12))]) (.cond (.t 5) .skip (.exit 0))) (.seq (.block 1 (.seq (.reg [qq 8 (.mv (.t 3)), qq 9 (.ixarr 12 3 (.t 1) (.t 8)), qq 10 (.faddr 1 (.t 9)), qq 11 (.load false 1 (.t 10)), qq 12 (.lens (.t 11)), qq 13 (.bin .gtr (.t 12) (ci 6)), qq 14 (.mv (.t 13)), ⟨(some 15), (some (14, false)), (.mv (.t 3))⟩, ⟨(some 16), (some (14, false)), (.ixarr 12 3 (.t 1) (.t 15))⟩, ⟨(some 17), (some (14, false)), (.faddr 2 (.t 16))⟩, ⟨(some 18), (some (14, false)), (.load false 1 (.t 17))⟩, ⟨(some 19), (some (14, false)), (.lens (.t 18))⟩, ⟨(some 20), (some (14, false)), (.bin .gtr (.t 19) (ci 6))⟩, qq 21 (.pick (.t 14) (.c (.bool true)) (.t 20))]) (.cond (.t 21) (.seq (.reg [qq 2 (.mv (ci 1))]) .ret) .skip))) (.reg [qq 6 (.mv (.t 3)), qq 7 (.bin .add (.t 6) (ci 1)), qq 3 (.mv (.t 7))])))))) (.seq (.reg [qq 2 (.mv (ci 0))]) .ret)))
theorem tr18 : trFun Tryz.prog 18 = some ⟨22, [.t 2], c18⟩ := by kernel_rfl
set_option maxHeartbeats 1000000 in
theorem ok_r7Great : SpecOK Tryz.prog 18 (flat spR7Great) := by
  refine flat_run (env_nil _) mixed tr18 ?_
  intro args v h N hG
  unfold spR7Great at hG
  split at hG
  case h_2 => cases hG
  rename_i cs
  split at hG
  case h_2 => cases hG
  rename_i p hp
  cases hG
  refine ⟨rfl, by simp, ?_⟩
  obtain ⟨len, at1, o1⟩ := mapOf_spec hp
  have t1 : cs.take 36 = cs := List.take_of_length_le (by omega)
  have tr : ∀ l : List UInt8, ¬ l.length ≤ 6 → ((l.length : Int) > 6) = True := fun l h => eq_true (by omega)
  have fl : ∀ l : List UInt8, l.length ≤ 6 → ((l.length : Int) > 6) = False := fun l h => eq_false (by omega)
  have an : ∀ i, i < 12 → cs[i * 3 + 1]? = some (.string ⟨⟨(p i).n⟩⟩) := fun i hi => by
    have e := congrArg (fun l => l[1]?) (at1 i hi)
    simp only [List.getElem?_take, List.getElem?_drop, show 1 < 3 by decide, if_true] at e
    exact e
  have ad : ∀ i, i < 12 → cs[i * 3 + 2]? = some (.string ⟨⟨(p i).d⟩⟩) := fun i hi => by
    have e := congrArg (fun l => l[2]?) (at1 i hi)
    simp only [List.getElem?_take, List.getElem?_drop, show 2 < 3 by decide, if_true] at e
    exact e
  simp only [c18, G0, Nat.reduceAdd]
  simp only [↓R0, R1, simprocAttr, -Int.reduceAbs, len, t1]
  refine lp_parts (fun n tm hp nx => ∃ (i : Nat), n + i = 12 ∧ tmget tm 1 = .pointer (some ⟨N + 0, 0, none⟩) ∧ tmget tm 3 = .int .i64 i ∧
      (∀ k, k < i → (p k).ok 6) ∧ hp = (N + 0, some ⟨29, 36, true, cs⟩) :: h ∧ nx = N + 1) ?_ 12
    ⟨0, by omega, ?_, ?_, ?_, rfl, rfl⟩
  · intro n tm hp nx ⟨i, hn, t1, t3, hall, hh, hnx⟩
    rw [hnx, hh]
    clear hnx nx hh hp
    by_cases c1 : i < 12
    · have ei : IntKind.i64.wrap ((i : Int) + 1) = ((i + 1 : Nat) : Int) := by rw [i64_in _ (by omega)]; omega
      have l1 : ((i : Int) < 12) = True := eq_true (by omega)
      have a1 := an i c1
      have a2 := ad i c1
      by_cases q1 : (p i).n.length ≤ 6
      · by_cases q2 : (p i).d.length ≤ 6
        · have d1 := fl _ q1
          have d2 := fl _ q2
          simp only [↓R0, R1, simprocAttr, -Int.reduceAbs, t1, t3, l1, c1, a1, a2, d1, d2, ei, len]
          refine ⟨n - 1, by omega, i + 1, by omega, rfl, ?_⟩
          intro k hk
          by_cases e : k = i
          · exact e ▸ ⟨q1, q2⟩
          · exact hall k (by omega)
        · have d1 := fl _ q1
          have d2 := tr _ q2
          have bad : ¬ mapOk 6 p := fun e => q2 (mapOk_iff.1 e i c1).2
          rw [if_neg bad]
          simp only [↓R0, R1, simprocAttr, -Int.reduceAbs, t1, t3, l1, c1, a1, a2, d1, d2, ei, len, Fin, isEnd, resL, res1, iE, rE]
          exact ⟨_, rfl, rfl, fun k hk => by simp only [ne_nb hk, if_false]⟩
      · have d1 := tr _ q1
        have bad : ¬ mapOk 6 p := fun e => q1 (mapOk_iff.1 e i c1).1
        rw [if_neg bad]
        simp only [↓R0, R1, simprocAttr, -Int.reduceAbs, t1, t3, l1, c1, a1, a2, d1, ei, len, Fin, isEnd, resL, res1, iE, rE]
        exact ⟨_, rfl, rfl, fun k hk => by simp only [ne_nb hk, if_false]⟩
    · have e : i = 12 := by omega
      have l1 : ((12 : Int) < 12) = False := eq_false (by omega)
      subst e
      rw [if_pos (mapOk_iff.2 hall)]
      simp only [↓R0, R1, simprocAttr, -Int.reduceAbs, t1, t3, l1, Fin, isEnd, resL, res1, iE, rE]
      exact ⟨_, rfl, rfl, fun k hk => by simp only [ne_nb hk, if_false]⟩
  · (first | (simp only [↓R0, R1, simprocAttr, -Int.reduceAbs]; done) | (simp only [↓R0, R1, simprocAttr, -Int.reduceAbs]; rfl) | rfl)
  · (first | (simp only [↓R0, R1, simprocAttr, -Int.reduceAbs]; done) | (simp only [↓R0, R1, simprocAttr, -Int.reduceAbs]; rfl) | rfl)
  · exact fun k hk => absurd hk (by omega)
def spR4Great : List Value → Option Value
  | [.agg ⟨[.bool s1, .string ⟨⟨l1⟩⟩, .bool s2, .string ⟨⟨l2⟩⟩, .bool s3, .string ⟨⟨l3⟩⟩, .bool s4, .string ⟨⟨l4⟩⟩]⟩] => some (.int .i64 (if l1.length ≤ 6 ∧ l2.length ≤ 6 ∧ l3.length ≤ 6 ∧ l4.length ≤ 6 then 0 else 1))
  | _ => none
def c19 : ICode :=
  (.seq (.reg [qq 1 (.box 39 8 (.t 0)), qq 2 (.mv (ci 0))]) (.seq (.seq (.reg [qq 5 (.faddr 0 (.t 1)), qq 6 (.load true 2 (.t 5)), qq 7 (.faddr 2 (.t 1)), qq 8 (.load true 2 (.t 7)), qq 9 (.faddr 4 (.t 1)), qq 10 (.load true 2 (.t 9)), qq 11 (.faddr 6 (.t 1)), qq 12 (.load true 2 (.t 11)), qq 13 (.bslice 37 2 4 [(.bool false), e0, (.bool false), e0, (.bool false), e0, (.bool false), e0] [(0, 2, (.t 6)), (2, 2, (.t 8)), (4, 2, (.t 10)), (6, 2, (.t 12))]), qq 14 (.lensl (.t 13)), qq 15 (.mv (ci 0))]) (.block 0 (.loop (.seq (.reg [qq 16 (.bin .lss (.t 15) (.t 14))]) (.seq (.cond (.t 16) .skip (.exit 0)) (.seq (.block 1 (.seq (.reg [qq 17 (.ixsl 2 (.t 13) (.t 15)), qq 18 (.load true 2 (.t 17)), qq 4 (.alloc 37 2 [(.bool false), e0]), qn (.store 2 (.t 4) (.t 18))]) (.seq (.reg [qq 19 (.faddr 1 (.t 4)), qq 20 (.load false 1 (.t 19)), qq 21 (.lens (.t 20)), qq 22 (.bin .gtr (.t 21) (ci 6))]) (.cond (.t 22) (.seq (.reg [qq 2 (.mv (ci 1))]) .ret) .skip)))) (.reg [qq 23 (.bin .add (.t 15) (ci 1)), qq 15 (.mv (.t 23))]))))))) (.seq (.reg [qq 2 (.mv (ci 0))]) .ret)))
theorem tr19 : trFun Tryz.prog 19 = some ⟨24, [.t 2], c19⟩ := by kernel_rfl
set_option maxHeartbeats 2000000 in
theorem ok_r4Great : SpecOK Tryz.prog 19 (flat spR4Great) := by
  refine flat_run (env_nil _) mixed tr19 ?_
  intro args v h N hG
  unfold spR4Great at hG
  split at hG
  case h_2 => cases hG
  rename_i s1 l1 s2 l2 s3 l3 s4 l4
  cases hG
  refine ⟨rfl, by simp, ?_⟩
  have tr : ∀ l : List UInt8, ¬ l.length ≤ 6 → ((l.length : Int) > 6) = True := fun l h => eq_true (by omega)
  have fl : ∀ l : List UInt8, l.length ≤ 6 → ((l.length : Int) > 6) = False := fun l h => eq_false (by omega)
  simp only [c19, G0, Nat.reduceAdd]
  simp only [↓R0, R1, simprocAttr, -Int.reduceAbs]
  refine lp_step ?_
  by_cases q1 : l1.length ≤ 6
  · have d1 := fl _ q1
    simp only [↓R0, R1, simprocAttr, -Int.reduceAbs, d1]
    refine lp_step ?_
    by_cases q2 : l2.length ≤ 6
    · have d2 := fl _ q2
      simp only [↓R0, R1, simprocAttr, -Int.reduceAbs, d2]
      refine lp_step ?_
      by_cases q3 : l3.length ≤ 6
      · have d3 := fl _ q3
        simp only [↓R0, R1, simprocAttr, -Int.reduceAbs, d3]
        refine lp_step ?_
        by_cases q4 : l4.length ≤ 6
        · have d4 := fl _ q4
          simp only [↓R0, R1, simprocAttr, -Int.reduceAbs, d4]
          refine lp_step ?_
          rw [if_pos ⟨q1, q2, q3, q4⟩]
          simp only [↓R0, R1, simprocAttr, -Int.reduceAbs, Fin, isEnd, resL, res1, iE, rE]
          exact ⟨_, rfl, rfl, fun k hk => by simp only [ne_nb hk, if_false]⟩
        · rw [if_neg (fun e => q4 e.2.2.2)]
          have d4 := tr _ q4
          simp only [↓R0, R1, simprocAttr, -Int.reduceAbs, d4, Fin, isEnd, resL, res1, iE, rE]
          exact ⟨_, rfl, rfl, fun k hk => by simp only [ne_nb hk, if_false]⟩
      · rw [if_neg (fun e => q3 e.2.2.1)]
        have d3 := tr _ q3
        simp only [↓R0, R1, simprocAttr, -Int.reduceAbs, d3, Fin, isEnd, resL, res1, iE, rE]
        exact ⟨_, rfl, rfl, fun k hk => by simp only [ne_nb hk, if_false]⟩
    · rw [if_neg (fun e => q2 e.2.1)]
      have d2 := tr _ q2
      simp only [↓R0, R1, simprocAttr, -Int.reduceAbs, d2, Fin, isEnd, resL, res1, iE, rE]
      exact ⟨_, rfl, rfl, fun k hk => by simp only [ne_nb hk, if_false]⟩
  · rw [if_neg (fun e => q1 e.1)]
    have d1 := tr _ q1
    simp only [↓R0, R1, simprocAttr, -Int.reduceAbs, d1, Fin, isEnd, resL, res1, iE, rE]
    exact ⟨_, rfl, rfl, fun k hk => by simp only [ne_nb hk, if_false]⟩
end Go.Eng
end
section
set_option linter.unusedVariables false
set_option linter.unusedSimpArgs false
set_option linter.unusedSectionVars false
set_option maxRecDepth 20000
namespace Go.Eng
open Go Go.Proofs Go.IntWalk
def spLForm : List Value → Option Value
  | [.agg ⟨[.bool s1, .string ⟨⟨l1⟩⟩, .bool s2, .string ⟨⟨l2⟩⟩, .bool s3, .string ⟨⟨l3⟩⟩, .bool s4, .string ⟨⟨l4⟩⟩]⟩, .agg ⟨[.bool t1, .string ⟨⟨m1⟩⟩, .bool t2, .string ⟨⟨m2⟩⟩, .bool t3, .string ⟨⟨m3⟩⟩, .bool t4, .string ⟨⟨m4⟩⟩]⟩] =>
    if (l1.length ≤ 6 ∧ l2.length ≤ 6 ∧ l3.length ≤ 6 ∧ l4.length ≤ 6) ∧ (m1.length ≤ 6 ∧ m2.length ≤ 6 ∧ m3.length ≤ 6 ∧ m4.length ≤ 6) then
      (if sv t1 m1 = 0 ∧ sv t2 m2 = 0 ∧ sv t3 m3 = 0 then some (.tuple ⟨[.agg ⟨pE (sv s1 l1) (sv s2 l2) (sv s3 l3) (sv s4 l4)⟩, .agg ⟨pZ⟩, .bool false]⟩)
        else some (.tuple ⟨[.agg ⟨pE (sv s1 l1) (sv s2 l2) (sv s3 l3) (sv s4 l4)⟩, .agg ⟨lE (sv t1 m1) (sv t2 m2) (sv t3 m3) (sv t4 m4)⟩, .bool true]⟩))
    else some (.tuple ⟨[.agg ⟨pZ⟩, .agg ⟨pZ⟩, .bool false]⟩)
  | _ => none
def c24 : ICode :=
  (.seq (.reg [qq 2 (.box 39 8 (.t 0)), qq 3 (.box 48 8 (.t 1)), qq 4 (.alloc 39 8 [(.bool false), e0, (.bool false), e0, (.bool false), e0, (.bool false), e0]), qq 5 (.alloc 48 8 [(.bool false), e0, (.bool false), e0, (.bool false), e0, (.bool false), e0]), qq 6 (.mv (.c (.bool false)))]) (.seq (.seq (.reg [qq 9 (.load true 8 (.t 2)), qq 10 (.call 19 [(.t 9)]), qq 11 (.bin .gtr (.t 10) (ci 0)), qq 12 (.mv (.t 11)), ⟨(some 13), (some (12, false)), (.faddr 0 (.t 3))⟩, ⟨(some 14), (some (12, false)), (.faddr 1 (.t 13))⟩, ⟨(some 15), (some (12, false)), (.load false 1 (.t 14))⟩, ⟨(some 16), (some (12, false)), (.lens (.t 15))⟩, ⟨(some 17), (some (12, false)), (.bin .gtr (.t 16) (ci 6))⟩, qq 18 (.pick (.t 12) (.c (.bool true)) (.t 17)), qq 19 (.mv (.t 18)), ⟨(some 20), (some (19, false)), (.faddr 2 (.t 3))⟩, ⟨(some 21), (some (19, false)), (.faddr 1 (.t 20))⟩, ⟨(some 22), (some (19, false)), (.load false 1 (.t 21))⟩, ⟨(some 23), (some (19, false)), (.lens (.t 22))⟩, ⟨(some 24), (some (19, false)), (.bin .gtr (.t 23) (ci 6))⟩, qq 25 (.pick (.t 19) (.c (.bool true)) (.t 24)), qq 26 (.mv (.t 25)), ⟨(some 27), (some (26, false)), (.faddr 4 (.t 3))⟩, ⟨(some 28), (some (26, false)), (.faddr 1 (.t 27))⟩, ⟨(some 29), (some (26, false)), (.load false 1 (.t 28))⟩, ⟨(some 30), (some (26, false)), (.lens (.t 29))⟩, ⟨(some 31), (some (26, false)), (.bin .gtr (.t 30) (ci 6))⟩, qq 32 (.pick (.t 26) (.c (.bool true)) (.t 31)), qq 33 (.mv (.t 32)), ⟨(some 34), (some (33, false)), (.faddr 6 (.t 3))⟩, ⟨(some 35), (some (33, false)), (.faddr 1 (.t 34))⟩, ⟨(some 36), (some (33, false)), (.load false 1 (.t 35))⟩, ⟨(some 37), (some (33, false)), (.lens (.t 36))⟩, ⟨(some 38), (some (33, false)), (.bin .gtr (.t 37) (ci 6))⟩, qq 39 (.pick (.t 33) (.c (.bool true)) (.t 38))]) (.cond (.t 39) (.seq (.reg [qq 40 (.build [(.bool false), e0, (.bool false), e0, (.bool false), e0, (.bool false), e0] []), qq 41 (.build [(.bool false), e0, (.bool false), e0, (.bool false), e0, (.bool false), e0] []), qn (.store 8 (.t 4) (.t 40)), qn (.store 8 (.t 5) (.t 41)), qq 6 (.mv (.c (.bool false)))]) .ret) .skip)) (.seq (.reg [qq 43 (.load true 8 (.t 3)), qq 44 (.call 64 [(.t 43)]), qq 42 (.mv (.t 44)), qq 45 (.ext (.t 42) 0), qq 46 (.ext (.t 42) 1), qq 7 (.alloc 48 8 [(.bool false), e0, (.bool false), e0, (.bool false), e0, (.bool false), e0]), qn (.store 8 (.t 7) (.t 45)), qq 8 (.mv (.t 46))]) (.seq (.dreg [qu 47 (.load true 8 (.t 2)), qu 48 (.call 20 [(.t 47)]), qv 49 [1] (.load true 8 (.t 7)), qu 50 (.mv (.t 8)), ⟨none, none, [1002], (.store 8 (.t 4) (.t 48))⟩, qm (.store 8 (.t 5) (.t 49)), qu 6 (.mv (.t 50))]) .ret))))
theorem tr24 : trFun Tryz.prog 24 = some ⟨51, [.cell 4 true 8, .cell 5 true 8, .t 6], c24⟩ := by kernel_rfl
set_option maxHeartbeats 4000000 in
theorem ok_LForm : SpecOK Tryz.prog 24 (flat spLForm) := by
  refine flat_run (env_cons ok_r4Great (env_cons ok_r5Norm (env_cons ok_r4Norm (env_nil _)))) mixed tr24 ?_
  intro args v h N hG
  unfold spLForm at hG
  split at hG
  case h_2 => cases hG
  rename_i s1 l1 s2 l2 s3 l3 s4 l4 t1 m1 t2 m2 t3 m3 t4 m4
  have tr : ∀ l : List UInt8, ¬ l.length ≤ 6 → ((l.length : Int) > 6) = True := fun l h => eq_true (by omega)
  have fl : ∀ l : List UInt8, l.length ≤ 6 → ((l.length : Int) > 6) = False := fun l h => eq_false (by omega)
  have gr : spR4Great [.agg ⟨[.bool s1, .string ⟨⟨l1⟩⟩, .bool s2, .string ⟨⟨l2⟩⟩, .bool s3, .string ⟨⟨l3⟩⟩, .bool s4, .string ⟨⟨l4⟩⟩]⟩] = some (.int .i64 (if l1.length ≤ 6 ∧ l2.length ≤ 6 ∧ l3.length ≤ 6 ∧ l4.length ≤ 6 then 0 else 1)) := rfl
  by_cases qa : l1.length ≤ 6 ∧ l2.length ≤ 6 ∧ l3.length ≤ 6 ∧ l4.length ≤ 6
  · rw [if_pos qa] at gr
    by_cases qb : m1.length ≤ 6 ∧ m2.length ≤ 6 ∧ m3.length ≤ 6 ∧ m4.length ≤ 6
    · rw [if_pos ⟨qa, qb⟩] at hG
      obtain ⟨b1, b2, b3, b4⟩ := qb
      have d1 := fl _ b1
      have d2 := fl _ b2
      have d3 := fl _ b3
      have d4 := fl _ b4
      have rn : spR4Norm [.agg ⟨[.bool s1, .string ⟨⟨l1⟩⟩, .bool s2, .string ⟨⟨l2⟩⟩, .bool s3, .string ⟨⟨l3⟩⟩, .bool s4, .string ⟨⟨l4⟩⟩]⟩] = some (.agg ⟨pE (sv s1 l1) (sv s2 l2) (sv s3 l3) (sv s4 l4)⟩) := if_pos ⟨by omega, by omega, by omega, by omega⟩
      have pl : spR5Norm [.agg ⟨[.bool t1, .string ⟨⟨m1⟩⟩, .bool t2, .string ⟨⟨m2⟩⟩, .bool t3, .string ⟨⟨m3⟩⟩, .bool t4, .string ⟨⟨m4⟩⟩]⟩] = (if sv t1 m1 = 0 ∧ sv t2 m2 = 0 ∧ sv t3 m3 = 0 then some (.tuple ⟨[.agg ⟨pZ⟩, .bool false]⟩)
        else some (.tuple ⟨[.agg ⟨lE (sv t1 m1) (sv t2 m2) (sv t3 m3) (sv t4 m4)⟩, .bool true]⟩)) := if_pos ⟨by omega, by omega, by omega, by omega⟩
      generalize sv s1 l1 = x at *
      generalize sv s2 l2 = y at *
      generalize sv s3 l3 = z at *
      generalize sv s4 l4 = w at *
      generalize sv t1 m1 = a at *
      generalize sv t2 m2 = b at *
      generalize sv t3 m3 = c at *
      generalize sv t4 m4 = d at *
      by_cases h0 : a = 0 ∧ b = 0 ∧ c = 0
      · rw [if_pos h0] at hG pl
        cases hG
        refine ⟨rfl, by simp, ?_⟩
        simp only [c24, G0, Nat.reduceAdd]
        simp only [↓R0, R1, simprocAttr, -Int.reduceAbs, gr, rn, pl, pZ, d1, d2, d3, d4, pE, Fin, isEnd, resL, res1, iE, rE]
        exact ⟨_, rfl, rfl, fun k hk => by simp only [ne_nb hk, if_false]⟩
      · rw [if_neg h0] at hG pl
        cases hG
        refine ⟨rfl, by simp, ?_⟩
        simp only [c24, G0, Nat.reduceAdd]
        simp only [↓R0, R1, simprocAttr, -Int.reduceAbs, gr, rn, pl, d1, d2, d3, d4, lE, pE, Fin, isEnd, resL, res1, iE, rE]
        exact ⟨_, rfl, rfl, fun k hk => by simp only [ne_nb hk, if_false]⟩
    · rw [if_neg (fun e => qb e.2)] at hG
      cases hG
      refine ⟨rfl, by simp, ?_⟩
      simp only [c24, G0, Nat.reduceAdd]
      by_cases q1 : m1.length ≤ 6
      · have d1 := fl _ q1
        by_cases q2 : m2.length ≤ 6
        · have d2 := fl _ q2
          by_cases q3 : m3.length ≤ 6
          · have d3 := fl _ q3
            have d4 := tr _ (fun q4 => qb ⟨q1, q2, q3, q4⟩)
            simp only [↓R0, R1, simprocAttr, -Int.reduceAbs, gr, d1, d2, d3, d4, pZ, Fin, isEnd, resL, res1, iE, rE]
            exact ⟨_, rfl, rfl, fun k hk => by simp only [ne_nb hk, if_false]⟩
          · have d3 := tr _ q3
            simp only [↓R0, R1, simprocAttr, -Int.reduceAbs, gr, d1, d2, d3, pZ, Fin, isEnd, resL, res1, iE, rE]
            exact ⟨_, rfl, rfl, fun k hk => by simp only [ne_nb hk, if_false]⟩
        · have d2 := tr _ q2
          simp only [↓R0, R1, simprocAttr, -Int.reduceAbs, gr, d1, d2, pZ, Fin, isEnd, resL, res1, iE, rE]
          exact ⟨_, rfl, rfl, fun k hk => by simp only [ne_nb hk, if_false]⟩
      · have d1 := tr _ q1
        simp only [↓R0, R1, simprocAttr, -Int.reduceAbs, gr, d1, pZ, Fin, isEnd, resL, res1, iE, rE]
        exact ⟨_, rfl, rfl, fun k hk => by simp only [ne_nb hk, if_false]⟩
  · rw [if_neg qa] at gr
    rw [if_neg (fun e => qa e.1)] at hG
    cases hG
    refine ⟨rfl, by simp, ?_⟩
    simp only [c24, G0, Nat.reduceAdd]
    simp only [↓R0, R1, simprocAttr, -Int.reduceAbs, gr, pZ, Fin, isEnd, resL, res1, iE, rE]
    exact ⟨_, rfl, rfl, fun k hk => by simp only [ne_nb hk, if_false]⟩
end Go.Eng
end
section
set_option linter.unusedVariables false
set_option linter.unusedSimpArgs false
set_option linter.unusedSectionVars false
namespace Go.Eng
theorem each12 {P : Nat → Prop} (h0 : P 0) (h1 : P 1) (h2 : P 2) (h3 : P 3) (h4 : P 4) (h5 : P 5) (h6 : P 6) (h7 : P 7) (h8 : P 8) (h9 : P 9) (h10 : P 10) (h11 : P 11) : ∀ i, i < 12 → P i := fun i hi =>
  match i, hi with
  | 0, _ => h0 | 1, _ => h1 | 2, _ => h2 | 3, _ => h3 | 4, _ => h4 | 5, _ => h5 | 6, _ => h6 | 7, _ => h7 | 8, _ => h8 | 9, _ => h9 | 10, _ => h10 | 11, _ => h11
theorem minorM_congr {f g : Nat → Rat} (h : ∀ i, i < 12 → f i = g i) (r c : Nat) : minorM f r c = minorM g r c := by
  unfold minorM; rw [h _ (by omega), h _ (by omega), h _ (by omega), h _ (by omega)]
theorem detM_congr {f g : Nat → Rat} (h : ∀ i, i < 12 → f i = g i) : detM f = detM g :=
  dotN_congr 3 fun k hk => ⟨h k (by omega), minorM_congr h _ _⟩
theorem innM_congr {f g : Nat → Rat} (h : ∀ i, i < 12 → f i = g i) (i : Nat) : innM f i = innM g i := by
  unfold innM; rw [minorM_congr h, detM_congr h]
theorem invM_congr {f g : Nat → Rat} (h : ∀ i, i < 12 → f i = g i) (i : Nat) : invM f i = invM g i := by
  unfold invM; rw [innM_congr h, dotN_congr 3 (fun k hk => ⟨innM_congr h _, h (4 * k + 3) (by omega)⟩)]
end Go.Eng
end
section
set_option linter.unusedVariables false
set_option linter.unusedSimpArgs false
set_option linter.unusedSectionVars false
set_option maxRecDepth 20000
namespace Go.Eng
open Go Go.Proofs Go.IntWalk
def MS (cs : List Value) (f : Nat → Rat) (k : Nat) : Prop := ∃ p, mapOf cs = some p ∧ mapOk k p ∧ ∀ i, i < 12 → (p i).v = f i
theorem MS.of {cs : List Value} {p : Nat → RQ} {k : Nat} (h : mapOf cs = some p) (ho : mapOk k p) : MS cs (fun i => (p i).v) k := ⟨p, h, ho, fun _ _ => rfl⟩
theorem MS.mE {f : Nat → Rat} {k : Nat} (h : ∀ i, i < 12 → RB (f i) k) : MS (mE f) f k :=
  ⟨_, mapOf_mE f, mapOk_iff.2 fun i hi => by simp only [hi, if_true]; exact RQ.of_ok (h i hi), fun i hi => by simp only [hi, if_true]; exact RQ.of_v _⟩
theorem MS.len {cs : List Value} {f : Nat → Rat} {k : Nat} (h : MS cs f k) : cs.length = 36 := by
  obtain ⟨p, e, _, _⟩ := h; exact (mapOf_spec e).1
theorem MS.all {cs : List Value} {f : Nat → Rat} {k : Nat} (h : MS cs f k) : cs.all okCell = true := by
  obtain ⟨p, e, _, _⟩ := h; exact (mapOf_spec e).2.2
theorem MS.rb {cs : List Value} {f : Nat → Rat} {k : Nat} (h : MS cs f k) : ∀ i, i < 12 → RB (f i) (k + 1) := fun i hi => by
  obtain ⟨p, _, ho, e⟩ := h
  rw [← e i hi]; exact (mapOk_iff.1 ho i hi).rb
theorem MS.le {cs : List Value} {f : Nat → Rat} {i k : Nat} (h : MS cs f i) (hk : i ≤ k) : MS cs f k := by
  obtain ⟨p, a, b, c⟩ := h
  exact ⟨p, a, mapOk_iff.2 fun j hj => (mapOk_iff.1 b j hj).le hk, c⟩
theorem MS.congr {cs : List Value} {f g : Nat → Rat} {k : Nat} (h : MS cs f k) (e : ∀ i, i < 12 → f i = g i) : MS cs g k := by
  obtain ⟨p, a, b, c⟩ := h
  exact ⟨p, a, b, fun i hi => (c i hi).trans (e i hi)⟩
theorem MS.det {c : List Value} {f : Nat → Rat} (h : MS c f 1048576) : spAdet [.agg ⟨c⟩] = some (.agg ⟨rE (detM f)⟩) := by
  obtain ⟨p, a, b, e⟩ := h
  unfold spAdet
  simp only [a]
  rw [if_pos b, detM_congr e]
theorem pE_mk (x y z w : Int) : pE x y z w = mkE (Rat.divInt x (pW w)) (Rat.divInt y (pW w)) (Rat.divInt z (pW w)) := by
  rw [mkE_pE (pW_ne w), pE_pW]
theorem r4Norm_mk {s1 l1 s2 l2 s3 l3 s4 l4} (h1 : List.length l1 ≤ 6) (h2 : List.length l2 ≤ 6) (h3 : List.length l3 ≤ 6) (h4 : List.length l4 ≤ 6) :
    ∃ x y z : Rat, spR4Norm [.agg ⟨[.bool s1, .string ⟨⟨l1⟩⟩, .bool s2, .string ⟨⟨l2⟩⟩, .bool s3, .string ⟨⟨l3⟩⟩, .bool s4, .string ⟨⟨l4⟩⟩]⟩] = some (.agg ⟨mkE x y z⟩) ∧ pE (sv s1 l1) (sv s2 l2) (sv s3 l3) (sv s4 l4) = mkE x y z ∧ RB x 6 ∧ RB y 6 ∧ RB z 6 := by
  have n4 := pW_len (len_sv (s := s4) h4) (by omega)
  have w0 := pW_ne (sv s4 l4)
  refine ⟨_, _, _, ?_, pE_mk _ _ _ _, divInt_RB w0 (len_sv (s := s1) h1) n4, divInt_RB w0 (len_sv (s := s2) h2) n4, divInt_RB w0 (len_sv (s := s3) h3) n4⟩
  rw [← pE_mk]
  exact if_pos ⟨by omega, by omega, by omega, by omega⟩
theorem r7Great_of {c : List Value} {p : Nat → RQ} (h : mapOf c = some p) : spR7Great [.agg ⟨c⟩] = some (.int .i64 (if mapOk 6 p then 0 else 1)) := by
  unfold spR7Great; simp only [h]
theorem ceq_self36 {l : List Value} (h : ∃ p, mapOf l = some p) : ceq [.b, .s, .s, .b, .s, .s, .b, .s, .s, .b, .s, .s, .b, .s, .s, .b, .s, .s, .b, .s, .s, .b, .s, .s, .b, .s, .s, .b, .s, .s, .b, .s, .s, .b, .s, .s] l l = some true := by
  obtain ⟨p, h⟩ := h
  unfold mapOf at h
  split at h
  · rename_i L hL
    split at h
    · rename_i hl
      rw [ratsOf_eq hL]
      match L, hl with
      | [a0, a1, a2, a3, a4, a5, a6, a7, a8, a9, a10, a11], _ =>
        simp only [rqs, List.flatMap_cons, List.flatMap_nil, RQ.cells, List.cons_append, List.nil_append, ceq, Option.map_some, decide_true, Bool.and_true]
    · cases h
  · cases h
theorem ceq_mE' (f : Nat → Rat) : ceq [.b, .s, .s, .b, .s, .s, .b, .s, .s, .b, .s, .s, .b, .s, .s, .b, .s, .s, .b, .s, .s, .b, .s, .s, .b, .s, .s, .b, .s, .s, .b, .s, .s, .b, .s, .s] (mE f) (mE f) = some true := ceq_self36 ⟨_, mapOf_mE f⟩
end Go.Eng
end
section
set_option linter.unusedVariables false
set_option linter.unusedSimpArgs false
set_option linter.unusedSectionVars false
set_option maxRecDepth 20000
namespace Go.Eng
open Go Go.Proofs Go.IntWalk
end Go.Eng
end
section
set_option linter.unusedVariables false
set_option linter.unusedSimpArgs false
set_option linter.unusedSectionVars false
set_option maxRecDepth 20000
namespace Go.Eng
open Go Go.Proofs Go.IntWalk
end Go.Eng
end
section
set_option linter.unusedVariables false
set_option linter.unusedSimpArgs false
set_option linter.unusedSectionVars false
set_option maxRecDepth 20000
namespace Go.Eng
open Go Go.Proofs Go.IntWalk
end Go.Eng
end
section
set_option linter.unusedVariables false
set_option linter.unusedSimpArgs false
set_option linter.unusedSectionVars false
set_option maxRecDepth 20000
namespace Go.Eng
open Go Go.Proofs Go.IntWalk
def mk5 (a b c d : Rat) : Option Value :=
  if mkO a a b c d = 0 ∧ mkO b a b c d = 0 ∧ mkO c a b c d = 0 then some (.tuple ⟨[.agg ⟨pZ⟩, .bool false]⟩)
  else some (.tuple ⟨[.agg ⟨lE (mkO a a b c d) (mkO b a b c d) (mkO c a b c d) (mkO d a b c d)⟩, .bool true]⟩)
def spR5Make : List Value → Option Value
  | [.agg ⟨[.bool s1, .string ⟨⟨n1⟩⟩, .string ⟨⟨d1⟩⟩, .bool s2, .string ⟨⟨n2⟩⟩, .string ⟨⟨d2⟩⟩, .bool s3, .string ⟨⟨n3⟩⟩, .string ⟨⟨d3⟩⟩]⟩, .agg ⟨[.bool s4, .string ⟨⟨n4⟩⟩, .string ⟨⟨d4⟩⟩]⟩] =>
    if n1.length ≤ 1073741824 ∧ d1.length ≤ 1073741824 ∧ n2.length ≤ 1073741824 ∧ d2.length ≤ 1073741824 ∧ n3.length ≤ 1073741824 ∧ d3.length ≤ 1073741824 ∧ n4.length ≤ 1073741824 ∧ d4.length ≤ 1073741824 then mk5 (rv s1 n1 d1) (rv s2 n2 d2) (rv s3 n3 d3) (rv s4 n4 d4) else none
  | _ => none
def c89 : ICode :=
  (.seq (.reg [qq 2 (.box 25 9 (.t 0)), qq 3 (.box 23 3 (.t 1)), qq 4 (.alloc 48 8 [(.bool false), e0, (.bool false), e0, (.bool false), e0, (.bool false), e0]), qq 5 (.mv (.c (.bool false)))]) (.seq (.reg [qq 18 (.ixarr 3 3 (.t 2) (ci 0)), qq 19 (.load true 3 (.t 18)), qq 20 (.ixarr 3 3 (.t 2) (ci 1)), qq 21 (.load true 3 (.t 20)), qq 22 (.ixarr 3 3 (.t 2) (ci 2)), qq 23 (.load true 3 (.t 22)), qq 24 (.load true 3 (.t 3)), qq 25 (.bslice 23 3 4 [(.bool false), e0, e0, (.bool false), e0, e0, (.bool false), e0, e0, (.bool false), e0, e0] [(0, 3, (.t 19)), (3, 3, (.t 21)), (6, 3, (.t 23)), (9, 3, (.t 24))]), qq 6 (.mv (.t 25))]) (.seq (.reg [qq 26 (.call 53 [(ci 1)]), qq 7 (.alloc 37 2 [(.bool false), e0]), qn (.store 2 (.t 7) (.t 26))]) (.seq (.seq (.reg [qq 8 (.mv (ci 0))]) (.block 0 (.loop (.seq (.seq (.reg [qq 27 (.mv (.t 8)), qq 28 (.bin .lss (.t 27) (ci 4))]) (.cond (.t 28) .skip (.exit 0))) (.seq (.block 1 (.seq (.reg [qq 32 (.mv (.t 6)), qq 33 (.mv (.t 8)), qq 34 (.ixsl 3 (.t 32) (.t 33)), qq 35 (.load true 3 (.t 34)), qq 36 (.call 120 [(.t 35)]), qq 31 (.mv (.t 36)), qq 37 (.ext (.t 31) 0), qq 38 (.ext (.t 31) 1), qq 9 (.alloc 37 2 [(.bool false), e0]), qq 10 (.alloc 37 2 [(.bool false), e0]), qn (.store 2 (.t 9) (.t 37)), qn (.store 2 (.t 10) (.t 38))]) (.reg [qq 39 (.load true 2 (.t 7)), qq 40 (.load true 2 (.t 10)), qq 41 (.call 119 [(.t 39), (.t 40)]), qn (.store 2 (.t 7) (.t 41))]))) (.reg [qq 29 (.mv (.t 8)), qq 30 (.bin .add (.t 29) (ci 1)), qq 8 (.mv (.t 30))])))))) (.seq (.reg [qq 11 (.alloc 94 8 [(.bool false), e0, (.bool false), e0, (.bool false), e0, (.bool false), e0])]) (.seq (.seq (.reg [qq 12 (.mv (ci 0))]) (.block 2 (.loop (.seq (.seq (.reg [qq 42 (.mv (.t 12)), qq 43 (.bin .lss (.t 42) (ci 4))]) (.cond (.t 43) .skip (.exit 2))) (.seq (.block 3 (.seq (.reg [qq 47 (.mv (.t 6)), qq 48 (.mv (.t 12)), qq 49 (.ixsl 3 (.t 47) (.t 48)), qq 50 (.load true 3 (.t 49)), qq 51 (.call 120 [(.t 50)]), qq 46 (.mv (.t 51)), qq 52 (.ext (.t 46) 0), qq 53 (.ext (.t 46) 1), qq 13 (.alloc 37 2 [(.bool false), e0]), qq 14 (.alloc 37 2 [(.bool false), e0]), qn (.store 2 (.t 13) (.t 52)), qn (.store 2 (.t 14) (.t 53))]) (.seq (.reg [qq 55 (.load true 2 (.t 7)), qq 56 (.load true 2 (.t 14)), qq 57 (.call 56 [(.t 55), (.t 56)]), qq 54 (.mv (.t 57)), qq 58 (.ext (.t 54) 0), qq 59 (.ext (.t 54) 1), qq 60 (.ext (.t 54) 2), qq 15 (.alloc 37 2 [(.bool false), e0]), qq 16 (.alloc 37 2 [(.bool false), e0]), qn (.store 2 (.t 15) (.t 58)), qn (.store 2 (.t 16) (.t 59)), qq 17 (.mv (.t 60))]) (.reg [qq 61 (.mv (.t 12)), qq 62 (.load true 2 (.t 13)), qq 63 (.load true 2 (.t 15)), qq 64 (.call 119 [(.t 62), (.t 63)]), qq 65 (.ixarr 4 2 (.t 11) (.t 61)), qn (.store 2 (.t 65) (.t 64))])))) (.reg [qq 44 (.mv (.t 12)), qq 45 (.bin .add (.t 44) (ci 1)), qq 12 (.mv (.t 45))])))))) (.seq (.reg [qq 66 (.ixarr 4 2 (.t 11) (ci 0)), qq 67 (.load true 2 (.t 66)), qq 68 (.ixarr 4 2 (.t 11) (ci 1)), qq 69 (.load true 2 (.t 68)), qq 70 (.ixarr 4 2 (.t 11) (ci 2)), qq 71 (.load true 2 (.t 70)), qq 72 (.ixarr 4 2 (.t 11) (ci 3)), qq 73 (.load true 2 (.t 72)), qq 74 (.build [(.bool false), e0, (.bool false), e0, (.bool false), e0, (.bool false), e0] [(0, 2, (.t 67)), (2, 2, (.t 69)), (4, 2, (.t 71)), (6, 2, (.t 73))]), qq 75 (.call 64 [(.t 74)]), qq 76 (.ext (.t 75) 0), qq 77 (.ext (.t 75) 1), qn (.store 8 (.t 4) (.t 76)), qq 5 (.mv (.t 77))]) .ret)))))))
theorem tr89 : trFun Tryz.prog 89 = some ⟨78, [.cell 4 true 8, .t 5], c89⟩ := by kernel_rfl
set_option maxHeartbeats 4000000 in
theorem ok_r5Make : SpecOK Tryz.prog 89 (flat spR5Make) := by
  refine flat_run (env_cons ok_r2From (env_cons ok_r3Parts (env_cons ok_r2Mul (env_cons ok_r2Div (env_cons ok_r5Norm (env_nil _)))))) mixed tr89 ?_
  intro args v h N hG
  unfold spR5Make at hG
  split at hG
  case h_2 => cases hG
  rename_i s1 n1 d1 s2 n2 d2 s3 n3 d3 s4 n4 d4
  split at hG
  case isFalse => cases hG
  rename_i hl
  obtain ⟨hn1, hd1, hn2, hd2, hn3, hd3, hn4, hd4⟩ := hl
  have b1 := RB.raw (s := s1) hn1 hd1
  have mn1 : n1.length ≤ 34359738368 := by omega
  have md1 : d1.length ≤ 34359738368 := by omega
  obtain ⟨x1, ex1⟩ : ∃ x, rv s1 n1 d1 = x := ⟨_, rfl⟩
  rw [ex1] at b1 hG
  have u1 := b1.1
  have v1 : (bl ((x1.den : Int)).natAbs).length ≤ 1073741825 := b1.2
  have dp1 : 0 < (x1.den : Int) := by have := x1.den_pos; omega
  have b2 := RB.raw (s := s2) hn2 hd2
  have mn2 : n2.length ≤ 34359738368 := by omega
  have md2 : d2.length ≤ 34359738368 := by omega
  obtain ⟨x2, ex2⟩ : ∃ x, rv s2 n2 d2 = x := ⟨_, rfl⟩
  rw [ex2] at b2 hG
  have u2 := b2.1
  have v2 : (bl ((x2.den : Int)).natAbs).length ≤ 1073741825 := b2.2
  have dp2 : 0 < (x2.den : Int) := by have := x2.den_pos; omega
  have b3 := RB.raw (s := s3) hn3 hd3
  have mn3 : n3.length ≤ 34359738368 := by omega
  have md3 : d3.length ≤ 34359738368 := by omega
  obtain ⟨x3, ex3⟩ : ∃ x, rv s3 n3 d3 = x := ⟨_, rfl⟩
  rw [ex3] at b3 hG
  have u3 := b3.1
  have v3 : (bl ((x3.den : Int)).natAbs).length ≤ 1073741825 := b3.2
  have dp3 : 0 < (x3.den : Int) := by have := x3.den_pos; omega
  have b4 := RB.raw (s := s4) hn4 hd4
  have mn4 : n4.length ≤ 34359738368 := by omega
  have md4 : d4.length ≤ 34359738368 := by omega
  obtain ⟨x4, ex4⟩ : ∃ x, rv s4 n4 d4 = x := ⟨_, rfl⟩
  rw [ex4] at b4 hG
  have u4 := b4.1
  have v4 : (bl ((x4.den : Int)).natAbs).length ≤ 1073741825 := b4.2
  have dp4 : 0 < (x4.den : Int) := by have := x4.den_pos; omega
  unfold mk5 mkO at hG
  obtain ⟨D1, eD1⟩ : ∃ z, (x1.den : Int) = z := ⟨_, rfl⟩
  obtain ⟨U1, eU1⟩ : ∃ z, x1.num = z := ⟨_, rfl⟩
  rw [eD1] at v1 dp1 hG
  rw [eU1] at u1 hG
  have dz1 : ¬ (D1.natAbs = 0) := by omega
  obtain ⟨D2, eD2⟩ : ∃ z, (x2.den : Int) = z := ⟨_, rfl⟩
  obtain ⟨U2, eU2⟩ : ∃ z, x2.num = z := ⟨_, rfl⟩
  rw [eD2] at v2 dp2 hG
  rw [eU2] at u2 hG
  have dz2 : ¬ (D2.natAbs = 0) := by omega
  obtain ⟨D3, eD3⟩ : ∃ z, (x3.den : Int) = z := ⟨_, rfl⟩
  obtain ⟨U3, eU3⟩ : ∃ z, x3.num = z := ⟨_, rfl⟩
  rw [eD3] at v3 dp3 hG
  rw [eU3] at u3 hG
  have dz3 : ¬ (D3.natAbs = 0) := by omega
  obtain ⟨D4, eD4⟩ : ∃ z, (x4.den : Int) = z := ⟨_, rfl⟩
  obtain ⟨U4, eU4⟩ : ∃ z, x4.num = z := ⟨_, rfl⟩
  rw [eD4] at v4 dp4 hG
  rw [eU4] at u4 hG
  have dz4 : ¬ (D4.natAbs = 0) := by omega
  have P2 := lmul (k := 2147483650) v1 v2 (by omega)
  have P3 := lmul (k := 3221225475) P2 v3 (by omega)
  have P4 := lmul (k := 4294967300) P3 v4 (by omega)
  obtain ⟨Q2, eQ2⟩ : ∃ z, D1 * D2 = z := ⟨_, rfl⟩
  rw [eQ2] at P2 P3 P4 hG
  obtain ⟨Q3, eQ3⟩ : ∃ z, Q2 * D3 = z := ⟨_, rfl⟩
  rw [eQ3] at P3 P4 hG
  obtain ⟨Q4, eQ4⟩ : ∃ z, Q3 * D4 = z := ⟨_, rfl⟩
  rw [eQ4] at P4 hG
  have Q4l := lle (k := 68719476736) P4 (by omega)
  have l0 : (bl (Int.natAbs 1)).length ≤ 1 := bl_length_le (k := 1).2 (by decide)
  have o1 : sv false (bl (Int.natAbs 1)) = 1 := by rw [sv_false, nl_bl]; rfl
  have k1 : (bl (Int.natAbs 1)).length + (bl D1.natAbs).length ≤ 274877906944 := by omega
  have k2 : (bl D1.natAbs).length + (bl D2.natAbs).length ≤ 274877906944 := by omega
  have k3 : (bl Q2.natAbs).length + (bl D3.natAbs).length ≤ 274877906944 := by omega
  have k4 : (bl Q3.natAbs).length + (bl D4.natAbs).length ≤ 274877906944 := by omega
  have g1 : (bl (Q4 / D1).natAbs).length ≤ 4294967300 := Nat.le_trans (bl_length_mono (Int.natAbs_ediv_le_natAbs _ _)) P4
  have j1 : (bl D1.natAbs).length ≤ 68719476736 := by omega
  have t1 : (bl U1.natAbs).length + (bl (Q4 / D1).natAbs).length ≤ 274877906944 := by omega
  have O1 := lmul (k := 68719476736) u1 g1 (by omega)
  have g2 : (bl (Q4 / D2).natAbs).length ≤ 4294967300 := Nat.le_trans (bl_length_mono (Int.natAbs_ediv_le_natAbs _ _)) P4
  have j2 : (bl D2.natAbs).length ≤ 68719476736 := by omega
  have t2 : (bl U2.natAbs).length + (bl (Q4 / D2).natAbs).length ≤ 274877906944 := by omega
  have O2 := lmul (k := 68719476736) u2 g2 (by omega)
  have g3 : (bl (Q4 / D3).natAbs).length ≤ 4294967300 := Nat.le_trans (bl_length_mono (Int.natAbs_ediv_le_natAbs _ _)) P4
  have j3 : (bl D3.natAbs).length ≤ 68719476736 := by omega
  have t3 : (bl U3.natAbs).length + (bl (Q4 / D3).natAbs).length ≤ 274877906944 := by omega
  have O3 := lmul (k := 68719476736) u3 g3 (by omega)
  have g4 : (bl (Q4 / D4).natAbs).length ≤ 4294967300 := Nat.le_trans (bl_length_mono (Int.natAbs_ediv_le_natAbs _ _)) P4
  have j4 : (bl D4.natAbs).length ≤ 68719476736 := by omega
  have t4 : (bl U4.natAbs).length + (bl (Q4 / D4).natAbs).length ≤ 274877906944 := by omega
  have O4 := lmul (k := 68719476736) u4 g4 (by omega)
  have w1 : IntKind.i64.wrap 1 = 1 := i64_in _ (by omega)
  have w2 : IntKind.i64.wrap 2 = 2 := i64_in _ (by omega)
  have w3 : IntKind.i64.wrap 3 = 3 := i64_in _ (by omega)
  have w4 : IntKind.i64.wrap 4 = 4 := i64_in _ (by omega)
  clear v1 v2 v3 v4 P2 P3 P4 u1 u2 u3 u4 g1 g2 g3 g4 l0 b1 b2 b3 b4 dp1 dp2 dp3 dp4
  by_cases h0 : U1 * (Q4 / D1) = 0 ∧ U2 * (Q4 / D2) = 0 ∧ U3 * (Q4 / D3) = 0
  · rw [if_pos h0] at hG
    have hh := eq_true h0
    cases hG
    refine ⟨rfl, by simp, ?_⟩
    simp only [c89, G0, Nat.reduceAdd]
    simp only [↓R0, R1, simprocAttr, -Int.reduceAbs, spI2From, spR3Parts, spI2Mul, spI2Div, nl_bl, iE, mn1, md1, ex1, mn2, md2, ex2, mn3, md3, ex3, mn4, md4, ex4, eD1, eU1, dz1, eD2, eU2, dz2, eD3, eU3, dz3, eD4, eU4, dz4, eQ2, eQ3, eQ4, Q4l, o1, Int.one_mul, k1, k2, k3, k4, j1, t1, j2, t2, j3, t3, j4, t4, w1, w2, w3, w4]
    refine lp_step ?_
    simp only [↓R0, R1, simprocAttr, -Int.reduceAbs, spI2From, spR3Parts, spI2Mul, spI2Div, nl_bl, iE, mn1, md1, ex1, mn2, md2, ex2, mn3, md3, ex3, mn4, md4, ex4, eD1, eU1, dz1, eD2, eU2, dz2, eD3, eU3, dz3, eD4, eU4, dz4, eQ2, eQ3, eQ4, Q4l, o1, Int.one_mul, k1, k2, k3, k4, j1, t1, j2, t2, j3, t3, j4, t4, w1, w2, w3, w4]
    refine lp_step ?_
    simp only [↓R0, R1, simprocAttr, -Int.reduceAbs, spI2From, spR3Parts, spI2Mul, spI2Div, nl_bl, iE, mn1, md1, ex1, mn2, md2, ex2, mn3, md3, ex3, mn4, md4, ex4, eD1, eU1, dz1, eD2, eU2, dz2, eD3, eU3, dz3, eD4, eU4, dz4, eQ2, eQ3, eQ4, Q4l, o1, Int.one_mul, k1, k2, k3, k4, j1, t1, j2, t2, j3, t3, j4, t4, w1, w2, w3, w4]
    refine lp_step ?_
    simp only [↓R0, R1, simprocAttr, -Int.reduceAbs, spI2From, spR3Parts, spI2Mul, spI2Div, nl_bl, iE, mn1, md1, ex1, mn2, md2, ex2, mn3, md3, ex3, mn4, md4, ex4, eD1, eU1, dz1, eD2, eU2, dz2, eD3, eU3, dz3, eD4, eU4, dz4, eQ2, eQ3, eQ4, Q4l, o1, Int.one_mul, k1, k2, k3, k4, j1, t1, j2, t2, j3, t3, j4, t4, w1, w2, w3, w4]
    refine lp_step ?_
    simp only [↓R0, R1, simprocAttr, -Int.reduceAbs, spI2From, spR3Parts, spI2Mul, spI2Div, nl_bl, iE, mn1, md1, ex1, mn2, md2, ex2, mn3, md3, ex3, mn4, md4, ex4, eD1, eU1, dz1, eD2, eU2, dz2, eD3, eU3, dz3, eD4, eU4, dz4, eQ2, eQ3, eQ4, Q4l, o1, Int.one_mul, k1, k2, k3, k4, j1, t1, j2, t2, j3, t3, j4, t4, w1, w2, w3, w4]
    refine lp_step ?_
    simp only [↓R0, R1, simprocAttr, -Int.reduceAbs, spI2From, spR3Parts, spI2Mul, spI2Div, nl_bl, iE, mn1, md1, ex1, mn2, md2, ex2, mn3, md3, ex3, mn4, md4, ex4, eD1, eU1, dz1, eD2, eU2, dz2, eD3, eU3, dz3, eD4, eU4, dz4, eQ2, eQ3, eQ4, Q4l, o1, Int.one_mul, k1, k2, k3, k4, j1, t1, j2, t2, j3, t3, j4, t4, w1, w2, w3, w4]
    refine lp_step ?_
    simp only [↓R0, R1, simprocAttr, -Int.reduceAbs, spI2From, spR3Parts, spI2Mul, spI2Div, nl_bl, iE, mn1, md1, ex1, mn2, md2, ex2, mn3, md3, ex3, mn4, md4, ex4, eD1, eU1, dz1, eD2, eU2, dz2, eD3, eU3, dz3, eD4, eU4, dz4, eQ2, eQ3, eQ4, Q4l, o1, Int.one_mul, k1, k2, k3, k4, j1, t1, j2, t2, j3, t3, j4, t4, w1, w2, w3, w4]
    refine lp_step ?_
    simp only [↓R0, R1, simprocAttr, -Int.reduceAbs, spI2From, spR3Parts, spI2Mul, spI2Div, nl_bl, iE, mn1, md1, ex1, mn2, md2, ex2, mn3, md3, ex3, mn4, md4, ex4, eD1, eU1, dz1, eD2, eU2, dz2, eD3, eU3, dz3, eD4, eU4, dz4, eQ2, eQ3, eQ4, Q4l, o1, Int.one_mul, k1, k2, k3, k4, j1, t1, j2, t2, j3, t3, j4, t4, w1, w2, w3, w4]
    refine lp_step ?_
    simp only [↓R0, R1, simprocAttr, -Int.reduceAbs, spI2From, spR3Parts, spI2Mul, spI2Div, nl_bl, iE, mn1, md1, ex1, mn2, md2, ex2, mn3, md3, ex3, mn4, md4, ex4, eD1, eU1, dz1, eD2, eU2, dz2, eD3, eU3, dz3, eD4, eU4, dz4, eQ2, eQ3, eQ4, Q4l, o1, Int.one_mul, k1, k2, k3, k4, j1, t1, j2, t2, j3, t3, j4, t4, w1, w2, w3, w4]
    refine lp_step ?_
    simp only [↓R0, R1, simprocAttr, -Int.reduceAbs, spI2From, spR3Parts, spI2Mul, spI2Div, nl_bl, iE, mn1, md1, ex1, mn2, md2, ex2, mn3, md3, ex3, mn4, md4, ex4, eD1, eU1, dz1, eD2, eU2, dz2, eD3, eU3, dz3, eD4, eU4, dz4, eQ2, eQ3, eQ4, Q4l, o1, Int.one_mul, k1, k2, k3, k4, j1, t1, j2, t2, j3, t3, j4, t4, w1, w2, w3, w4]
    refine lp_step ?_
    simp only [↓R0, R1, simprocAttr, -Int.reduceAbs, spR5Norm, O1, O2, O3, O4, hh, pZ, Fin, isEnd, resL, res1, iE, rE]
    exact ⟨_, rfl, rfl, fun k hk => by simp only [ne_nb hk, if_false]⟩
  · rw [if_neg h0] at hG
    have hh := eq_false h0
    cases hG
    refine ⟨rfl, by simp, ?_⟩
    simp only [c89, G0, Nat.reduceAdd]
    simp only [↓R0, R1, simprocAttr, -Int.reduceAbs, spI2From, spR3Parts, spI2Mul, spI2Div, nl_bl, iE, mn1, md1, ex1, mn2, md2, ex2, mn3, md3, ex3, mn4, md4, ex4, eD1, eU1, dz1, eD2, eU2, dz2, eD3, eU3, dz3, eD4, eU4, dz4, eQ2, eQ3, eQ4, Q4l, o1, Int.one_mul, k1, k2, k3, k4, j1, t1, j2, t2, j3, t3, j4, t4, w1, w2, w3, w4]
    refine lp_step ?_
    simp only [↓R0, R1, simprocAttr, -Int.reduceAbs, spI2From, spR3Parts, spI2Mul, spI2Div, nl_bl, iE, mn1, md1, ex1, mn2, md2, ex2, mn3, md3, ex3, mn4, md4, ex4, eD1, eU1, dz1, eD2, eU2, dz2, eD3, eU3, dz3, eD4, eU4, dz4, eQ2, eQ3, eQ4, Q4l, o1, Int.one_mul, k1, k2, k3, k4, j1, t1, j2, t2, j3, t3, j4, t4, w1, w2, w3, w4]
    refine lp_step ?_
    simp only [↓R0, R1, simprocAttr, -Int.reduceAbs, spI2From, spR3Parts, spI2Mul, spI2Div, nl_bl, iE, mn1, md1, ex1, mn2, md2, ex2, mn3, md3, ex3, mn4, md4, ex4, eD1, eU1, dz1, eD2, eU2, dz2, eD3, eU3, dz3, eD4, eU4, dz4, eQ2, eQ3, eQ4, Q4l, o1, Int.one_mul, k1, k2, k3, k4, j1, t1, j2, t2, j3, t3, j4, t4, w1, w2, w3, w4]
    refine lp_step ?_
    simp only [↓R0, R1, simprocAttr, -Int.reduceAbs, spI2From, spR3Parts, spI2Mul, spI2Div, nl_bl, iE, mn1, md1, ex1, mn2, md2, ex2, mn3, md3, ex3, mn4, md4, ex4, eD1, eU1, dz1, eD2, eU2, dz2, eD3, eU3, dz3, eD4, eU4, dz4, eQ2, eQ3, eQ4, Q4l, o1, Int.one_mul, k1, k2, k3, k4, j1, t1, j2, t2, j3, t3, j4, t4, w1, w2, w3, w4]
    refine lp_step ?_
    simp only [↓R0, R1, simprocAttr, -Int.reduceAbs, spI2From, spR3Parts, spI2Mul, spI2Div, nl_bl, iE, mn1, md1, ex1, mn2, md2, ex2, mn3, md3, ex3, mn4, md4, ex4, eD1, eU1, dz1, eD2, eU2, dz2, eD3, eU3, dz3, eD4, eU4, dz4, eQ2, eQ3, eQ4, Q4l, o1, Int.one_mul, k1, k2, k3, k4, j1, t1, j2, t2, j3, t3, j4, t4, w1, w2, w3, w4]
    refine lp_step ?_
    simp only [↓R0, R1, simprocAttr, -Int.reduceAbs, spI2From, spR3Parts, spI2Mul, spI2Div, nl_bl, iE, mn1, md1, ex1, mn2, md2, ex2, mn3, md3, ex3, mn4, md4, ex4, eD1, eU1, dz1, eD2, eU2, dz2, eD3, eU3, dz3, eD4, eU4, dz4, eQ2, eQ3, eQ4, Q4l, o1, Int.one_mul, k1, k2, k3, k4, j1, t1, j2, t2, j3, t3, j4, t4, w1, w2, w3, w4]
    refine lp_step ?_
    simp only [↓R0, R1, simprocAttr, -Int.reduceAbs, spI2From, spR3Parts, spI2Mul, spI2Div, nl_bl, iE, mn1, md1, ex1, mn2, md2, ex2, mn3, md3, ex3, mn4, md4, ex4, eD1, eU1, dz1, eD2, eU2, dz2, eD3, eU3, dz3, eD4, eU4, dz4, eQ2, eQ3, eQ4, Q4l, o1, Int.one_mul, k1, k2, k3, k4, j1, t1, j2, t2, j3, t3, j4, t4, w1, w2, w3, w4]
    refine lp_step ?_
    simp only [↓R0, R1, simprocAttr, -Int.reduceAbs, spI2From, spR3Parts, spI2Mul, spI2Div, nl_bl, iE, mn1, md1, ex1, mn2, md2, ex2, mn3, md3, ex3, mn4, md4, ex4, eD1, eU1, dz1, eD2, eU2, dz2, eD3, eU3, dz3, eD4, eU4, dz4, eQ2, eQ3, eQ4, Q4l, o1, Int.one_mul, k1, k2, k3, k4, j1, t1, j2, t2, j3, t3, j4, t4, w1, w2, w3, w4]
    refine lp_step ?_
    simp only [↓R0, R1, simprocAttr, -Int.reduceAbs, spI2From, spR3Parts, spI2Mul, spI2Div, nl_bl, iE, mn1, md1, ex1, mn2, md2, ex2, mn3, md3, ex3, mn4, md4, ex4, eD1, eU1, dz1, eD2, eU2, dz2, eD3, eU3, dz3, eD4, eU4, dz4, eQ2, eQ3, eQ4, Q4l, o1, Int.one_mul, k1, k2, k3, k4, j1, t1, j2, t2, j3, t3, j4, t4, w1, w2, w3, w4]
    refine lp_step ?_
    simp only [↓R0, R1, simprocAttr, -Int.reduceAbs, spI2From, spR3Parts, spI2Mul, spI2Div, nl_bl, iE, mn1, md1, ex1, mn2, md2, ex2, mn3, md3, ex3, mn4, md4, ex4, eD1, eU1, dz1, eD2, eU2, dz2, eD3, eU3, dz3, eD4, eU4, dz4, eQ2, eQ3, eQ4, Q4l, o1, Int.one_mul, k1, k2, k3, k4, j1, t1, j2, t2, j3, t3, j4, t4, w1, w2, w3, w4]
    refine lp_step ?_
    simp only [↓R0, R1, simprocAttr, -Int.reduceAbs, spR5Norm, O1, O2, O3, O4, hh, lE, Fin, isEnd, resL, res1, iE, rE]
    exact ⟨_, rfl, rfl, fun k hk => by simp only [ne_nb hk, if_false]⟩
end Go.Eng
end
