/-
  A part of the proof: the machine, the contracts of the functions and the plain laws, merged from smaller texts.
-/
import Derived.Test.YtmhjnlcmmokniaaGreatDoorRs5
import Derived.RowKit3
import Derived.ChangeSame
import Derived.ReadAgain
import Derived.Deep.Slices
import Derived.WideShapes
section
set_option linter.unusedVariables false
set_option linter.unusedSimpArgs false
set_option linter.unusedSectionVars false
set_option maxRecDepth 20000
namespace Go.Eng
open Go Go.Proofs Go.IntWalk
def freeT (n k : Nat) (l : List Row) : List Nat := (List.range k).filter fun j => (heldR n j l).isNone
theorem freeT_succ (n k : Nat) (l : List Row) : freeT n (k + 1) l = freeT n k l ++ (if (heldR n k l).isNone then [k] else []) := by
  unfold freeT
  rw [List.range_succ, List.filter_append]
  congr 1
  by_cases h : (heldR n k l).isNone <;> simp [h]
theorem freeT_len (n k : Nat) (l : List Row) : (freeT n k l).length ≤ k := by
  unfold freeT
  exact Nat.le_trans (List.length_filter_le _ _) (by rw [List.length_range]; exact Nat.le_refl _)
def c9 : ICode :=
  (.seq (.reg [qq 4 (.mv (.c (.slice none 0 0)))]) (.seq (.reg [qq 11 (.bslice 3 1 0 [] []), qq 5 (.mv (.t 11))]) (.seq (.seq (.reg [qq 12 (.mv (.t 0)), qq 13 (.mv (.t 1)), qq 14 (.call 12 [(.t 12), (.t 13)]), qq 15 (.bin .neq (.t 14) (ci 0))]) (.cond (.t 15) (.seq (.reg [qq 16 (.mv (.t 5)), qq 4 (.mv (.t 16))]) .ret) .skip)) (.seq (.reg [qq 18 (.mv (.t 0)), qq 19 (.mv (.t 1)), qq 20 (.call 19 [(.t 18), (.t 19)]), qq 17 (.mv (.t 20)), qq 21 (.ext (.t 17) 0), qq 22 (.ext (.t 17) 1), qq 6 (.mv (.t 21)), qq 7 (.mv (.t 22))]) (.seq (.seq (.reg [qq 8 (.mv (ci 0))]) (.block 0 (.loop (.seq (.seq (.reg [qq 23 (.mv (.t 8)), qq 24 (.mv (.t 0)), qq 25 (.bin .lss (.t 23) (.t 24)), qq 26 (.mv (.t 25)), ⟨(some 27), (some (26, true)), (.mv (.t 7))⟩, qq 28 (.pick (.t 26) (.t 27) (.c (.bool false)))]) (.cond (.t 28) .skip (.exit 0))) (.seq (.block 1 (.seq (.reg [qq 32 (.mv (.t 6)), qq 33 (.mv (.t 8)), qq 34 (.call 20 [(.t 32), (.t 33)]), qq 31 (.mv (.t 34)), qq 35 (.ext (.t 31) 0), qq 36 (.ext (.t 31) 1), qq 9 (.alloc 37 5 [(.slice none 0 0), (.bool false), e0, e0, (.int .i64 0)]), qn (.store 5 (.t 9) (.t 35)), qq 10 (.mv (.t 36))]) (.seq (.reg [qq 37 (.mv (.t 10)), qq 38 (.un .not (.t 37))]) (.cond (.t 38) (.reg [qq 39 (.mv (.t 5)), qq 40 (.mv (.t 8)), qq 41 (.bslice 3 1 1 [(.int .i64 0)] [(0, 1, (.t 40))]), qq 42 (.app 3 1 8 (.t 39) (.t 41)), qq 5 (.mv (.t 42))]) .skip)))) (.reg [qq 29 (.mv (.t 8)), qq 30 (.bin .add (.t 29) (ci 1)), qq 8 (.mv (.t 30))])))))) (.seq (.reg [qq 43 (.mv (.t 5)), qq 4 (.mv (.t 43))]) .ret))))))
theorem tr9 : trFun Tryz.prog 9 = some ⟨44, [.t 4], c9⟩ := by kernel_rfl
set_option maxHeartbeats 16000000 in
theorem ok_free24 : SpecOK Tryz.prog 9 (nwL spFreeR) := by
  refine newL_run (env_cons ok_check24 (env_cons ok_reduced24 (env_cons ok_held24 (env_nil _)))) mixed tr9 ?_ ?_
  · intro args h h' r hle e
    unfold spFreeR at e ⊢
    split at e
    · split at e
      · rename_i l hb
        simp only [decRows_mono hle hb]; exact e
      · cases e
    · cases e
  intro args h N r hG hN
  unfold spFreeR at hG
  split at hG
  case h_2 => cases hG
  rename_i n sl
  split at hG
  case h_2 => cases hG
  rename_i l hx
  split at hG
  case isFalse => cases hG
  rename_i hs
  cases hG
  refine ⟨intNR_par _ _, by simp, ?_⟩
  have dn : ∀ a b : Int, decide (a ≠ b) = !decide (a = b) := fun a b => by by_cases h : a = b <;> simp [h]
  have nbN : ∀ q, q < N → ∀ j, (N + j = q) = False := fun q hq j => eq_false (by omega)
  have nN : ∀ q, q < N → (N = q) = False := fun q hq => eq_false (by omega)
  obtain ⟨h1, eh1⟩ : ∃ h1 : Heap, h1 = (N + 0, some ⟨3, 1, true, []⟩) :: h := ⟨_, rfl⟩
  have hx1 : decRows h1 sl = some l := by
    rw [eh1]
    exact decRows_mono (fun k b e => by
      have := hN _ _ e
      simp only [hget, nbN _ this 0, if_false]; exact e) hx
  have g1 : hget h1 (N + 0) = some ⟨3, 1, true, []⟩ := by rw [eh1]; exact if_pos rfl
  have x1 : ∀ q, q < N → hget h1 q = hget h q := fun q hq => by
    rw [eh1]
    simp only [hget, nbN q hq 0, if_false]
  have ck : spLCheck [.int .i64 n, sl] h1 = some (.int .i64 (chkL n l)) := by unfold spLCheck; simp only [hx1]
  have fld : (N + 0, some ⟨3, 1, true, []⟩) :: h = h1 := eh1.symm
  by_cases c0 : chkL n l = 0
  case neg =>
    have e : freeRL n l = [] := if_neg c0
    have c0' : (chkL n l = 0) = False := eq_false c0
    rw [e]
    simp only [c9, G0, Nat.reduceAdd]
    simp only [↓R0, R1, simprocAttr, -Int.reduceAbs, rdS, fld, ck, c0', dn, Bool.not_false, Bool.not_true, FinL, isEnd, resL, res1]
    exact ⟨fun _ => N + 0, _, fun i hi => Nat.le_refl N, fun i j (hi : i < 1) (hj : j < 1) _ => by omega, rfl, rfl, fun i hi => ⟨true, g1⟩, x1⟩
  rw [c0] at ck
  have e : freeRL n l = freeR n.toNat (refS n.toNat l) := if_pos c0
  rw [e]
  obtain ⟨n, rfl⟩ := Int.eq_ofNat_of_zero_le (chk0 c0).1
  have pk := hs c0
  rw [Int.toNat_natCast] at *
  have n8 := pk.1
  have rB := red_RdB pk
  have pn := refS_len (n := n) l
  obtain ⟨D, mm, kc, gq, H⟩ := reduced_call (b := N + 1) hx1 pk
  obtain ⟨M, hM⟩ : ∃ M, M = N + 1 + mm := ⟨_, rfl⟩
  have eM : N + 1 + mm = M + 0 := by omega
  rw [← hM] at H
  generalize eHP : D ++ h1 = HP at *
  change nwL spReduced [.int .i64 n, sl] h1 (N + 1) = some (.tuple ⟨[.slice (some ⟨N + 1, 0, none⟩) (refS n l).1.length (refS n l).1.length, .bool (refS n l).2]⟩, D, mm) at kc
  change EqH HP (N + 1) M (N + 1) n (refS n l).1.length (fun j => N + 1 + (j + 1)) (rowAt (refS n l).1) at H
  generalize refS n l = s at *
  have hB8 : ∀ q, q < s.1.length → ∀ j, j ≤ n → RB (rowAt s.1 q j) 8589934592 := fun q hq j hj => (rB q hq j hj).le (by have := oB_le s.1.length (by omega); omega)
  have ac : ∀ (d : Nat) (tm : List (Nat × Value)) (V : Value) (K : St → Prop), @aft (some d) (some (V, D, mm)) ⟨(⟨tm, (N + 0, some ⟨3, 1, true, []⟩) :: h, N + 1⟩, K)⟩ = K ⟨(d, V) :: tm, HP, M + 0⟩ := fun _ _ _ _ => by rw [← eM, ← eHP, eh1]; exact propext Iff.rfl
  have gM : N + 1 ≤ M := by omega
  have nb : ∀ q, q < N → ∀ j, (M + j = q) = False := fun q hq j => eq_false (by omega)
  have hkb := H.kb
  have gO : hget HP (N + 0) = some ⟨3, 1, true, []⟩ := by rw [gq _ (by omega)]; exact g1
  have gH : ∀ q, q < N → hget HP q = hget h q := fun q hq => by rw [gq q (by omega)]; exact x1 q hq
  simp only [c9, G0, Nat.reduceAdd]
  simp only [↓R0, R1, simprocAttr, -Int.reduceAbs, rdS, fld, ck, kc, ac, dn, Bool.not_false, Bool.not_true]
  refine lp_parts (fun d tm hp nx => ∃ (k M2 ko : Nat) (x : Bool), d + k = n ∧ (s.2 = false → k = 0) ∧ tmget tm 0 = .int .i64 n ∧ tmget tm 6 = .slice (some ⟨N + 1, 0, none⟩) s.1.length s.1.length ∧ tmget tm 7 = .bool s.2 ∧ tmget tm 5 = .slice (some ⟨ko, 0, none⟩) (freeT n k s.1).length (freeT n k s.1).length ∧ tmget tm 8 = .int .i64 (k : Nat) ∧
      hget hp ko = some ⟨3, 1, x, intC (freeT n k s.1)⟩ ∧ (ko = N ∨ M ≤ ko) ∧ ko < M2 ∧ (∀ q, q < M → q ≠ N → hget hp q = hget HP q) ∧ M ≤ M2 ∧ nx = M2 + 0) ?_ n
    ⟨0, M, N, true, by omega, fun _ => rfl, ?_, ?_, ?_, ?_, ?_, gO, .inl rfl, by omega, fun q _ _ => rfl, Nat.le_refl _, rfl⟩
  rotate_left
  all_goals first | (simp only [↓R0, R1, simprocAttr, -Int.reduceAbs]; done) | (simp only [↓R0, R1, simprocAttr, -Int.reduceAbs]; rfl) | skip
  rintro d tm hp nx ⟨k, M2, ko, x, hd, hk0, t0, t6, t7, t5, t8, bk, hk1, hk2, hh, hM2, hnx⟩
  rw [hnx]
  clear hnx nx
  have fl := freeT_len n k s.1
  have vl : (intC (freeT n k s.1)).length = (freeT n k s.1).length := by unfold intC; rw [List.length_map]
  have fin : ∀ q, q < N → hget hp q = hget h q := fun q hq => by rw [hh q (by omega) (by omega)]; exact gH q hq
  cases s2 : s.2 with
  | false =>
    have k0 := hk0 s2
    subst k0
    rw [s2] at t7
    have e : freeR n s = [] := if_pos s2
    rw [e]
    have e0 : freeT n 0 s.1 = [] := rfl
    rw [e0] at t5 bk
    rw [List.length_nil] at t5
    simp only [↓R0, R1, simprocAttr, -Int.reduceAbs, t0, t6, t7, t5, t8, FinL, isEnd, resL, res1]
    by_cases c1 : 0 < n
    · have c1' : ((0 : Int) < (n : Int)) = True := eq_true (by omega)
      have c1'' : (0 < n) = True := eq_true c1
      simp only [↓R0, R1, simprocAttr, -Int.reduceAbs, t0, t6, t7, t5, t8, c1', c1'', FinL, isEnd, resL, res1]
      exact ⟨fun _ => ko, _, fun i hi => (by omega : N ≤ ko), fun i j (hi : i < 1) (hj : j < 1) _ => by omega, rfl, rfl, fun i hi => ⟨x, bk⟩, fin⟩
    · have c1' : ((0 : Int) < (n : Int)) = False := eq_false (by omega)
      have c1'' : (0 < n) = False := eq_false c1
      simp only [↓R0, R1, simprocAttr, -Int.reduceAbs, t0, t6, t7, t5, t8, c1', c1'', FinL, isEnd, resL, res1]
      exact ⟨fun _ => ko, _, fun i hi => (by omega : N ≤ ko), fun i j (hi : i < 1) (hj : j < 1) _ => by omega, rfl, rfl, fun i hi => ⟨x, bk⟩, fin⟩
  | true =>
    rw [s2] at t7
    by_cases c1 : k < n
    case neg =>
      have ek : k = n := by omega
      subst ek
      have c1' : ((k : Int) < (k : Int)) = False := eq_false (by omega)
      have e : freeR k s = freeT k k s.1 := by unfold freeR; rw [if_neg (by rw [s2]; simp)]; rfl
      rw [e]
      simp only [↓R0, R1, simprocAttr, -Int.reduceAbs, t0, t6, t7, t5, t8, c1', FinL, isEnd, resL, res1]
      exact ⟨fun _ => ko, _, fun i hi => (by omega : N ≤ ko), fun i j (hi : i < 1) (hj : j < 1) _ => by omega, rfl, rfl, fun i hi => ⟨x, bk⟩, fin⟩
    have c1' : ((k : Int) < (n : Int)) = True := eq_true (by omega)
    have wk : IntKind.i64.wrap ((k : Int) + 1) = ((k + 1 : Nat) : Int) := by rw [i64_in _ (by omega)]; omega
    have w0 : ∀ d, (M2 + d = ko) = False := fun d => eq_false (by omega)
    have w1 : ∀ d, (ko = M2 + d) = False := fun d => eq_false (by omega)
    have m20 : M2 + 0 + 0 = M2 + 0 := rfl
    have nwH : ∀ (args : List Value) (hp : Heap) (k : Nat), nwL spHeld args hp k = (spHeld args hp).map fun r => (r.val (k + ·), newH r (k + ·) r.m, r.m) := fun _ _ _ => rfl
    have H2 := H.mono (hp' := hp) (Nat.le_refl _) (fun q q1 q2 => hh q q2 (by omega))
    have fs := freeT_succ n k s.1
    have z5l : ([Value.slice none 0 0, .bool false, .string ⟨⟨[]⟩⟩, .string ⟨⟨[]⟩⟩, .int .i64 0] : List Value).length = 5 := rfl
    rcases held_of (k := k) H2 (by omega) (by omega) (by omega) hB8 with ⟨i, hi, h1, h2⟩ | ⟨h1, h2⟩
    · rw [h1] at fs
      have fs : freeT n (k + 1) s.1 = freeT n k s.1 := by rw [fs]; simp
      simp only [↓R0, R1, simprocAttr, -Int.reduceAbs, rdS, t0, t6, t7, t5, t8, c1, c1', nwH, newHL0, h2, m20, PV_len, PV_ok, PV_tk, PV_0, PV_z, bk, vl, w0, w1, wk, Bool.not_true, Bool.not_false]
      refine ⟨d - 1, by omega, k + 1, M2 + 1, ko, x, by omega, fun e => e.elim, by rw [fs], rfl, ?_, hk1, by omega, fun q hq hqN => ?_, by omega, rfl⟩
      · rw [fs]
        simp only [↓R0, R1, simprocAttr, -Int.reduceAbs, w0, bk]
      · have nb : ∀ d, (M2 + d = q) = False := fun d => eq_false (by omega)
        simp only [↓R0, R1, simprocAttr, -Int.reduceAbs, nb]
        exact hh q hq hqN
    · rw [h1] at fs
      have fs : freeT n (k + 1) s.1 = freeT n k s.1 ++ [k] := by rw [fs]; simp
      have aI : intC (freeT n k s.1) ++ [.int .i64 (k : Nat)] = intC (freeT n (k + 1) s.1) := by rw [fs]; unfold intC; rw [List.map_append]; rfl
      have fsl : (freeT n (k + 1) s.1).length = (freeT n k s.1).length + 1 := by rw [fs]; simp
      generalize freeT n k s.1 = FT at *
      have npp : (FT.length + 1 ≤ FT.length) = False := eq_false (by omega)
      have ovr : ((FT.length + 1) * 8 ≤ 140737488355328) = True := eq_true (by omega)
      obtain ⟨FT1, hF1⟩ : ∃ F, F = freeT n (k + 1) s.1 := ⟨_, rfl⟩
      rw [← hF1] at aI fsl
      generalize intC FT = IC0 at *
      generalize hI1 : intC FT1 = IC1 at *
      simp only [↓R0, R1, simprocAttr, -Int.reduceAbs, rdS, t0, t6, t7, t5, t8, c1, c1', nwH, newHL0, h2, m20, bk, vl, aI, npp, ovr, w0, w1, wk, Bool.not_true, Bool.not_false]
      refine ⟨d - 1, by omega, k + 1, M2 + 3, M2 + 2, false, by omega, fun e => e.elim, ?_, rfl, ?_, by omega, by omega, fun q hq hqN => ?_, by omega, rfl⟩
      · rw [← hF1, fsl]
      · rw [← hF1, hI1]
        simp only [↓R0, R1, simprocAttr, -Int.reduceAbs]
      · have nb : ∀ d, (M2 + d = q) = False := fun d => eq_false (by omega)
        have nk : (ko = q) = False := eq_false (by omega)
        simp only [↓R0, R1, simprocAttr, -Int.reduceAbs, nb, nk]
        exact hh q hq hqN
theorem small_R {n : Int} {l : List EqR} (h : smallS n l) : SysR n l := fun c => by
  obtain ⟨a1, a2, a3⟩ := h
  have ck := chk0 c
  refine ⟨by omega, by omega, fun e he => by have := ck.2.2.2 e he; omega, fun e he => ?_⟩
  obtain ⟨_, h4⟩ := a3 e he
  have f : ∀ q, smallQ q → q.ok 4 := fun q hq => hq
  exact ⟨fun q hq => f q (h4 q (List.mem_append_left _ hq)), f _ (h4 _ (List.mem_append_right _ (List.mem_singleton.2 rfl)))⟩
theorem ZL_outR (n : Nat) (l : List EqR) : ZL n l = nullL n (outR n l) :=
  ConP_congr (n := n) fun X => null_list (n := n) (by rw [outR_len]) (fun i hi => by rw [outR_at hi]; rfl) X
theorem both {n : Int} {l : List EqR} : solveRL n l = solveL n l ∧ freeRL n l = freeVL n l ∧ rankRL n l = rankL n l := by
  by_cases c : chkL n l = 0
  case neg =>
    refine ⟨?_, ?_, ?_⟩
    · unfold solveRL solveL; rw [if_neg c, if_neg c]
    · unfold freeRL freeVL; rw [if_neg c, if_neg (fun x => c x.1)]
    · unfold rankRL rankL; rw [if_neg c, if_neg c]
  obtain ⟨n, rfl⟩ := Int.eq_ofNat_of_zero_le (chk0 c).1
  have hZ := ZL_outR n l
  have S := ref_sys n (outR n l)
  rw [← hZ] at S
  refine ⟨?_, ?_, ?_⟩
  · have O1 := solL_out c
    have O2 := solveR_out 14 17 n (outR n l)
    rw [← hZ] at O2
    obtain ⟨e1, e2⟩ := O2.same O1
    unfold solveRL
    rw [if_pos c, Int.toNat_natCast]
    exact Prod.ext e1 e2
  · unfold freeRL freeVL
    rw [if_pos c, Int.toNat_natCast]
    unfold freeR
    have con : ConP n (ZL n l) ↔ ¬ (refS n l).2 = false := S.con
    by_cases cc : ConP n (ZL n l)
    · rw [if_neg (con.1 cc), if_pos ⟨c, conL.1 cc⟩]
      unfold freeK
      refine List.filter_congr fun k hk => ?_
      have hk : k < n := List.mem_range.1 hk
      have a := heldR_iff (n := n) (rows := outR n l) hk
      rw [← hZ] at a
      have b := detL (n := n) (l := l) hk
      show (heldR n k (refS n l).1).isNone = _
      by_cases d : DetP n (ZL n l) k
      · rw [decide_eq_true (b.2 d)]
        have := a.2 d
        have e : (heldR n k (refS n l).1).isSome = true := this
        cases z : heldR n k (refS n l).1 with
        | none => rw [z] at e; cases e
        | some _ => rfl
      · rw [decide_eq_false (fun x => d (b.1 x))]
        cases z : heldR n k (refS n l).1 with
        | none => rfl
        | some _ => exact absurd (a.1 (by show (heldR n k (refS n l).1).isSome = true; rw [z]; rfl)) d
    · rw [if_pos (Classical.byContradiction fun x => cc (con.2 x)), if_neg (fun x => cc (conL.2 x.2))]
  · unfold rankRL rankL
    rw [if_pos c, if_pos c, Int.toNat_natCast]
    exact rank_eq S (red_sys n l.length (eqM n l)) fun k _ => Iff.rfl
theorem solveR_call2 {h : Heap} {n : Int} {b : Nat} {l : List EqR} {sl : Value} (hx : decRows h sl = some l) (hs : SysR n l) :
    ∃ a D mm, nwL spSolveR [.int .i64 n, sl] h b = some (.tuple ⟨[.slice a (solveL n l).2.length (solveL n l).2.length, .int .i64 (solveL n l).1]⟩, D, mm) ∧ (∀ q, q < b → hget (D ++ h) q = hget h q) ∧
      (∀ hp, ExtL (b + mm) (D ++ h) hp → listAt 3 dec1 hp (.slice a (solveL n l).2.length (solveL n l).2.length) = some (vq (solveL n l).2)) ∧ ∀ k off s, a = some ⟨k, off, s⟩ → k < b + mm := by
  have e0 : spSolveR [.int .i64 n, sl] h = some (solNR (solveL n l)) := by
    unfold spSolveR
    simp only [hx]
    rw [if_pos hs, both.1]
  have e : nwL spSolveR [.int .i64 n, sl] h b = some ((solNR (solveL n l)).val (b + ·), newH (solNR (solveL n l)) (b + ·) (solNR (solveL n l)).m, (solNR (solveL n l)).m) := by
    unfold nwL
    rw [e0]; rfl
  rw [e]
  generalize solveL n l = r at *
  refine ⟨some ⟨b + 0, 0, none⟩, _, 1, rfl, fun q hq => ?_, fun hp he => ?_, fun k _ _ e => by cases e; omega⟩
  · have : (b + 0 = q) = False := eq_false (by omega)
    simp only [solNR, newH, List.cons_append, List.nil_append, hget, this, if_false]
  · have g := he (b + 0) (by omega)
    rw [show hget (newH (solNR r) (b + ·) (solNR r).m ++ h) (b + 0) = some ⟨35, 3, false, ratC r.2⟩ from if_pos rfl] at g
    by_cases z : r.2 = []
    · rw [z] at g ⊢
      show (lay 3 hp (.slice (some ⟨b + 0, 0, none⟩) 0 0)).bind _ = _
      unfold lay
      simp only [g]
      rfl
    · exact ratC_list g z
theorem freeR_call2 {h : Heap} {n : Int} {b : Nat} {l : List EqR} {sl : Value} (hx : decRows h sl = some l) (hs : SysR n l) :
    ∃ a D mm, nwL spFreeR [.int .i64 n, sl] h b = some (.slice a (freeVL n l).length (freeVL n l).length, D, mm) ∧ (∀ q, q < b → hget (D ++ h) q = hget h q) ∧
      (∀ hp, ExtL (b + mm) (D ++ h) hp → listAt 1 decN hp (.slice a (freeVL n l).length (freeVL n l).length) = some ((freeVL n l).map fun (i : Nat) => ((i : Nat) : Int))) ∧ True := by
  have e0 : spFreeR [.int .i64 n, sl] h = some (intNR (freeVL n l)) := by
    unfold spFreeR
    simp only [hx]
    rw [if_pos hs, both.2.1]
  have e : nwL spFreeR [.int .i64 n, sl] h b = some ((intNR (freeVL n l)).val (b + ·), newH (intNR (freeVL n l)) (b + ·) (intNR (freeVL n l)).m, (intNR (freeVL n l)).m) := by
    unfold nwL
    rw [e0]; rfl
  rw [e]
  generalize freeVL n l = r at *
  refine ⟨some ⟨b + 0, 0, none⟩, _, 1, rfl, fun q hq => ?_, fun hp he => ?_, trivial⟩
  · have : (b + 0 = q) = False := eq_false (by omega)
    simp only [intNR, newH, List.cons_append, List.nil_append, hget, this, if_false]
  · have g := he (b + 0) (by omega)
    rw [show hget (newH (intNR r) (b + ·) (intNR r).m ++ h) (b + 0) = some ⟨3, 1, false, intC r⟩ from if_pos rfl] at g
    by_cases z : r = []
    · rw [z] at g ⊢
      show (lay 1 hp (.slice (some ⟨b + 0, 0, none⟩) 0 0)).bind _ = _
      unfold lay
      simp only [g]
      rfl
    · exact intC_list g z
theorem rankR_of {h : Heap} {n : Int} {l : List EqR} {sl : Value} (hx : decRows h sl = some l) (hs : SysR n l) : spRankR [.int .i64 n, sl] h = some (.int .i64 (rankL n l)) := by
  unfold spRankR
  simp only [hx]
  rw [if_pos hs, both.2.2]
end Go.Eng
end
section
set_option linter.unusedVariables false
set_option linter.unusedSimpArgs false
set_option linter.unusedSectionVars false
set_option maxRecDepth 20000
namespace Go.Eng
open Go Go.Proofs Go.IntWalk
def spL24res : List Value → Heap → Option Value
  | [.int .i64 _, sl], h => match decRows h sl with
    | some l => if l.length ≤ 9223372036854775807 then some (.bool true) else none
    | none => none
  | _, _ => none
theorem fr_L24res {h : Heap} {N : Nat} {n : Int} {sl : Value} {l : List EqR} (hn : -9223372036854775808 ≤ n ∧ n ≤ 9223372036854775807) (e : decRows h sl = some l) (m : l.length ≤ maxLen) : rdS spL24res [.int .i64 n, sl] h N = some (.bool true, [], 0) := by
  unfold rdS spL24res
  simp only [e]
  rw [if_pos (show l.length ≤ 9223372036854775807 from m)]; rfl
def c3 : ICode :=
  (.seq (.reg [qq 4 (.mv (.c (.bool false)))]) (.seq (.seq (.reg [qq 12 (.mv (.t 0)), qq 13 (.mv (.t 1)), qq 14 (.call 4 [(.t 12), (.t 13)]), qq 15 (.bin .gtr (.t 14) (ci 0))]) (.cond (.t 15) (.seq (.reg [qq 16 (.call 5 []), qq 4 (.mv (.t 16))]) .ret) .skip)) (.seq (.reg [qq 18 (.mv (.t 0)), qq 19 (.mv (.t 1)), qq 20 (.call 6 [(.t 18), (.t 19)]), qq 17 (.mv (.t 20)), qq 21 (.ext (.t 17) 0), qq 22 (.ext (.t 17) 1), qq 5 (.mv (.t 21)), qq 6 (.mv (.t 22))]) (.seq (.reg [qq 24 (.mv (.t 0)), qq 25 (.mv (.t 1)), qq 26 (.call 7 [(.t 24), (.t 25)]), qq 23 (.mv (.t 26)), qq 27 (.ext (.t 23) 0), qq 28 (.ext (.t 23) 1), qq 7 (.mv (.t 27)), qq 8 (.mv (.t 28))]) (.seq (.reg [qq 29 (.mv (.t 0)), qq 30 (.mv (.t 1)), qq 31 (.call 8 [(.t 29), (.t 30)]), qq 32 (.mv (.t 0)), qq 33 (.mv (.t 1)), qq 34 (.call 9 [(.t 32), (.t 33)]), qq 9 (.mv (.t 31)), qq 10 (.mv (.t 34))]) (.seq (.seq (.reg [qq 35 (.mv (.t 9)), qq 36 (.lensl (.t 35)), qq 37 (.mv (.t 10)), qq 38 (.lensl (.t 37)), qq 39 (.bin .neq (.t 36) (.t 38))]) (.cond (.t 39) (.seq (.reg [qq 4 (.mv (.c (.bool false)))]) .ret) .skip)) (.seq (.seq (.reg [qq 40 (.mv (.t 9)), qq 41 (.lensl (.t 40)), qq 42 (.mv (ci 0))]) (.block 0 (.loop (.seq (.reg [qq 43 (.bin .lss (.t 42) (.t 41))]) (.seq (.cond (.t 43) .skip (.exit 0)) (.seq (.block 1 (.seq (.reg [qq 44 (.mv (.t 42)), qq 11 (.mv (.t 44))]) (.seq (.dreg [qu 45 (.mv (.t 9)), qu 46 (.mv (.t 11)), qu 47 (.ixsl 1 (.t 45) (.t 46)), qu 48 (.load false 1 (.t 47)), qu 49 (.mv (.t 10)), qu 50 (.mv (.t 11)), qu 51 (.ixsl 1 (.t 49) (.t 50)), qu 52 (.load false 1 (.t 51)), qu 53 (.bin .neq (.t 48) (.t 52))]) (.cond (.t 53) (.seq (.reg [qq 4 (.mv (.c (.bool false)))]) .ret) .skip)))) (.reg [qq 54 (.bin .add (.t 42) (ci 1)), qq 42 (.mv (.t 54))]))))))) (.seq (.reg [qq 55 (.call 5 []), qq 56 (.mv (.t 55)), ⟨(some 57), (some (56, true)), (.mv (.t 5))⟩, ⟨(some 58), (some (56, true)), (.mv (.t 7))⟩, ⟨(some 59), (some (56, true)), (.call 10 [(.t 57), (.t 58)])⟩, qq 60 (.pick (.t 56) (.t 59) (.c (.bool false))), qq 61 (.mv (.t 60)), ⟨(some 62), (some (61, true)), (.mv (.t 6))⟩, ⟨(some 63), (some (61, true)), (.mv (.t 8))⟩, ⟨(some 64), (some (61, true)), (.bin .eql (.t 62) (.t 63))⟩, qq 65 (.pick (.t 61) (.t 64) (.c (.bool false))), qq 66 (.mv (.t 65)), ⟨(some 67), (some (66, true)), (.mv (.t 0))⟩, ⟨(some 68), (some (66, true)), (.mv (.t 1))⟩, ⟨(some 69), (some (66, true)), (.call 11 [(.t 67), (.t 68)])⟩, ⟨(some 70), (some (66, true)), (.mv (.t 0))⟩, ⟨(some 71), (some (66, true)), (.mv (.t 1))⟩, ⟨(some 72), (some (66, true)), (.call 12 [(.t 70), (.t 71)])⟩, ⟨(some 73), (some (66, true)), (.bin .eql (.t 69) (.t 72))⟩, qq 74 (.pick (.t 66) (.t 73) (.c (.bool false))), qq 75 (.mv (.t 74)), ⟨(some 76), (some (75, true)), (.mv (.t 0))⟩, ⟨(some 77), (some (75, true)), (.mv (.t 1))⟩, ⟨(some 78), (some (75, true)), (.call 13 [(.t 76), (.t 77)])⟩, ⟨(some 79), (some (75, true)), (.mv (.t 0))⟩, ⟨(some 80), (some (75, true)), (.mv (.t 1))⟩, ⟨(some 81), (some (75, true)), (.call 14 [(.t 79), (.t 80)])⟩, ⟨(some 82), (some (75, true)), (.bin .eql (.t 78) (.t 81))⟩, qq 83 (.pick (.t 75) (.t 82) (.c (.bool false))), qq 4 (.mv (.t 83))]) .ret))))))))
theorem tr3 : trFun Tryz.prog 3 = some ⟨84, [.t 4], c3⟩ := by kernel_rfl
set_option maxHeartbeats 32000000 in
theorem ok_L24res : SpecOK Tryz.prog 3 (rdS spL24res) := by
  refine rd_run (env_cons ok_lGreat24 (env_cons ok_fixed (env_cons ok_solve (env_cons ok_solve24 (env_cons ok_freeV (env_cons ok_free24 (env_cons ok_same24 (env_cons ok_linCheck (env_cons ok_check24 (env_cons ok_rank (env_cons ok_rank24 (env_nil _)))))))))))) mixed tr3 ?_ ?_
  · intro args h h' v hle e
    unfold spL24res at e ⊢
    split at e
    · split at e
      · rename_i l hb
        simp only [decRows_mono hle hb]; exact e
      · cases e
    · cases e
  intro args v h N hG hN
  unfold spL24res at hG
  split at hG
  case h_2 => cases hG
  rename_i n sl
  split at hG
  case h_2 => cases hG
  rename_i l hx
  split at hG
  case isFalse => cases hG
  rename_i hm
  cases hG
  obtain ⟨a, cc, rfl⟩ := listAt_sl (dec := decEq h) hx
  refine ⟨by rfl, by simp, ?_⟩
  have gr := great24_of (n := n) hx hm
  have fx : spFixed [] = some (.bool true) := rfl
  by_cases sS : smallS n l
  case neg =>
    rw [if_neg sS] at gr
    simp only [c3, G0, Nat.reduceAdd]
    simp only [↓R0, R1, simprocAttr, -Int.reduceAbs, rdS, gr, fx, Fin, isEnd, resL, res1]
    exact ⟨_, rfl, rfl, fun k hk => by simp only [ne_nb hk, if_false]⟩
  rw [if_pos sS] at gr
  have dn : ∀ a b : Int, decide (a ≠ b) = !decide (a = b) := fun a b => by by_cases h : a = b <;> simp [h]
  have sys := sS.sys
  have sysR := small_R sS
  have xH0 : ExtL N h h := fun _ _ => rfl
  obtain ⟨a_1, D_1, mm_1, kc_1, gq_1, hV_1, bd_1⟩ := solve_call2 (b := N + 0) hx sys
  obtain ⟨M_1, hM_1⟩ : ∃ x, x = N + 0 + mm_1 := ⟨_, rfl⟩
  have eM_1 : N + 0 + mm_1 = M_1 + 0 := by omega
  rw [show N + 0 + mm_1 = M_1 by omega] at hV_1 bd_1
  generalize eHP_1 : D_1 ++ h = HP_1 at *
  have ac_1 : ∀ (d : Nat) (tm : List (Nat × Value)) (V : Value) (K : St → Prop), @aft (some d) (some (V, D_1, mm_1)) ⟨(⟨tm, h, N + 0⟩, K)⟩ = K ⟨(d, V) :: tm, HP_1, M_1 + 0⟩ := fun _ _ _ _ => by rw [← eM_1, ← eHP_1]; exact propext Iff.rfl
  have xH_1 : ExtL N h HP_1 := extL_up (M := N + 0) (by omega) xH0 gq_1
  obtain ⟨a_2, D_2, mm_2, kc_2, gq_2, hV_2, bd_2⟩ := solveR_call2 (b := M_1 + 0) (ext_rows hN hx xH_1) sysR
  obtain ⟨M_2, hM_2⟩ : ∃ x, x = M_1 + 0 + mm_2 := ⟨_, rfl⟩
  have eM_2 : M_1 + 0 + mm_2 = M_2 + 0 := by omega
  rw [show M_1 + 0 + mm_2 = M_2 by omega] at hV_2 bd_2
  generalize eHP_2 : D_2 ++ HP_1 = HP_2 at *
  have ac_2 : ∀ (d : Nat) (tm : List (Nat × Value)) (V : Value) (K : St → Prop), @aft (some d) (some (V, D_2, mm_2)) ⟨(⟨tm, HP_1, M_1 + 0⟩, K)⟩ = K ⟨(d, V) :: tm, HP_2, M_2 + 0⟩ := fun _ _ _ _ => by rw [← eM_2, ← eHP_2]; exact propext Iff.rfl
  have xH_2 : ExtL N h HP_2 := extL_up (M := M_1 + 0) (by omega) xH_1 gq_2
  obtain ⟨a_3, D_3, mm_3, kc_3, gq_3, hV_3, bd_3⟩ := free_call2 (b := M_2 + 0) (ext_rows hN hx xH_2) sys
  obtain ⟨M_3, hM_3⟩ : ∃ x, x = M_2 + 0 + mm_3 := ⟨_, rfl⟩
  have eM_3 : M_2 + 0 + mm_3 = M_3 + 0 := by omega
  rw [show M_2 + 0 + mm_3 = M_3 by omega] at hV_3
  generalize eHP_3 : D_3 ++ HP_2 = HP_3 at *
  have ac_3 : ∀ (d : Nat) (tm : List (Nat × Value)) (V : Value) (K : St → Prop), @aft (some d) (some (V, D_3, mm_3)) ⟨(⟨tm, HP_2, M_2 + 0⟩, K)⟩ = K ⟨(d, V) :: tm, HP_3, M_3 + 0⟩ := fun _ _ _ _ => by rw [← eM_3, ← eHP_3]; exact propext Iff.rfl
  have xH_3 : ExtL N h HP_3 := extL_up (M := M_2 + 0) (by omega) xH_2 gq_3
  obtain ⟨a_4, D_4, mm_4, kc_4, gq_4, hV_4, bd_4⟩ := freeR_call2 (b := M_3 + 0) (ext_rows hN hx xH_3) sysR
  obtain ⟨M_4, hM_4⟩ : ∃ x, x = M_3 + 0 + mm_4 := ⟨_, rfl⟩
  have eM_4 : M_3 + 0 + mm_4 = M_4 + 0 := by omega
  rw [show M_3 + 0 + mm_4 = M_4 by omega] at hV_4
  generalize eHP_4 : D_4 ++ HP_3 = HP_4 at *
  have ac_4 : ∀ (d : Nat) (tm : List (Nat × Value)) (V : Value) (K : St → Prop), @aft (some d) (some (V, D_4, mm_4)) ⟨(⟨tm, HP_3, M_3 + 0⟩, K)⟩ = K ⟨(d, V) :: tm, HP_4, M_4 + 0⟩ := fun _ _ _ _ => by rw [← eM_4, ← eHP_4]; exact propext Iff.rfl
  have xH_4 : ExtL N h HP_4 := extL_up (M := M_3 + 0) (by omega) xH_3 gq_4
  have rk1 : ∀ {hp' : Heap}, ExtL N h hp' → spRank [.int .i64 n, .slice a l.length cc] hp' = some (.int .i64 (rankL n l)) := fun he => rank_of (ext_rows hN hx he) sys
  have rk2 : ∀ {hp' : Heap}, ExtL N h hp' → spRankR [.int .i64 n, .slice a l.length cc] hp' = some (.int .i64 (rankL n l)) := fun he => rankR_of (ext_rows hN hx he) sysR
  have ck : ∀ {hp' : Heap}, ExtL N h hp' → spLCheck [.int .i64 n, .slice a l.length cc] hp' = some (.int .i64 (chkL n l)) := fun he => chk_of (ext_rows hN hx he)
  have xHt : ExtL N h HP_4 = True := eq_true xH_4
  have la : (solveL n l).2.length ≤ 100 := by
    by_cases c : chkL n l = 0
    · obtain ⟨n, rfl⟩ := Int.eq_ofNat_of_zero_le (chk0 c).1
      have := solL_le (n := n) (l := l)
      have := (sys c).n8
      omega
    · unfold solveL; rw [if_neg c]; simp
  have lf : (freeVL n l).length ≤ 100 := by
    by_cases c : chkL n l = 0
    · obtain ⟨n, rfl⟩ := Int.eq_ofNat_of_zero_le (chk0 c).1
      have := freeVL_le (n := n) (l := l)
      have := (sys c).n8
      omega
    · unfold freeVL; rw [if_neg (fun x => c x.1)]; simp
  have sm : spSame24 [.slice a_1 (solveL n l).2.length (solveL n l).2.length, .slice a_2 (solveL n l).2.length (solveL n l).2.length] HP_4 = some (.bool true) :=
    same24_of (hV_1 _ (fun q hq => by rw [gq_4 q (by omega), gq_3 q (by omega), gq_2 q (by omega)])) (hV_2 _ (fun q hq => by rw [gq_4 q (by omega), gq_3 q (by omega)])) (by rw [vq_len]; omega)
  generalize freeVL n l = FV at *
  generalize (solveL n l).2.length = LA at *
  generalize (solveL n l).1 = CD at *
  generalize rankL n l = RK at *
  simp only [c3, G0, Nat.reduceAdd]
  simp only [↓R0, R1, simprocAttr, -Int.reduceAbs, rdS, gr, fx, kc_1, ac_1, kc_2, ac_2, kc_3, ac_3, kc_4, ac_4, dn, Bool.not_true, Bool.not_false]
  refine lp_parts (fun c tm hp nx => ∃ (i : Nat), c + i = FV.length ∧ tmget tm 0 = .int .i64 n ∧ tmget tm 1 = .slice a l.length cc ∧ tmget tm 5 = .slice a_1 LA LA ∧ tmget tm 6 = .int .i64 CD ∧ tmget tm 7 = .slice a_2 LA LA ∧ tmget tm 8 = .int .i64 CD ∧ tmget tm 9 = .slice a_3 FV.length FV.length ∧ tmget tm 10 = .slice a_4 FV.length FV.length ∧
      tmget tm 41 = .int .i64 FV.length ∧ tmget tm 42 = .int .i64 (i : Nat) ∧ hp = HP_4 ∧ nx = M_4 + 0) ?_ FV.length
    ⟨0, by omega, ?_, ?_, ?_, ?_, ?_, ?_, ?_, ?_, ?_, ?_, rfl, rfl⟩
  rotate_left
  all_goals first | (simp only [↓R0, R1, simprocAttr, -Int.reduceAbs]; done) | (simp only [↓R0, R1, simprocAttr, -Int.reduceAbs]; rfl) | skip
  clear kc_1 ac_1 kc_2 ac_2 kc_3 ac_3 kc_4 ac_4
  rintro c tm hp2 nx ⟨i, hni, t0, t1, t5, t6, t7, t8, t9, t10, t41, t42, rfl, hnx⟩
  rw [hnx]
  clear hnx nx
  by_cases c2 : i < FV.length
  · have c2' : ((i : Int) < (FV.length : Int)) = True := eq_true (by omega)
    have w1 : IntKind.i64.wrap ((i : Int) + 1) = ((i + 1 : Nat) : Int) := by rw [i64_in _ (by omega)]; omega
    obtain ⟨k1, f1, B1, rfl, b1, q1, q2⟩ := int_at (hV_3 _ (fun q hq => gq_4 q (by omega))) c2
    obtain ⟨k2, f2, B2, rfl, b2, q3, q4⟩ := int_at (hV_4 _ (fun q hq => rfl)) c2
    have q2' := q2
    rw [Nat.mul_one] at q2'
    have q4' := q4
    rw [Nat.mul_one] at q4'
    simp only [↓R0, R1, simprocAttr, -Int.reduceAbs, rdS, t0, t1, t5, t6, t7, t8, t9, t10, t41, t42, c2, c2', b1, b2, q1, q2, q2', q3, q4, q4', dn, w1, Bool.not_true, Bool.not_false]
    exact ⟨c - 1, by omega, i + 1, by omega, rfl⟩
  have ei : i = FV.length := by omega
  subst ei
  have c2' : ((FV.length : Int) < (FV.length : Int)) = False := eq_false (by omega)
  simp only [↓R0, R1, simprocAttr, -Int.reduceAbs, rdS, fx, t0, t1, t5, t6, t7, t8, t9, t10, t41, t42, c2', sm, rk1, rk2, ck, xHt, Fin, isEnd, resL, res1]
  exact ⟨_, rfl, rfl, xH_4⟩
end Go.Eng
end
section
set_option linter.unusedVariables false
set_option linter.unusedSimpArgs false
set_option linter.unusedSectionVars false
namespace Go.Eng.K
open Go.Eng
inductive Ki where
  | b | i (k : IntKind) | s
def kiFs (ty : TypeId → Option (List Ki)) (P : Program) : List Field → Nat → Option (List Ki)
  | [], _ => some []
  | f :: r, off =>
    if f.name ≠ "_" ∧ f.offset = off then
      match ty f.type, szOf P f.type with
      | some ks, some n => if ks.length = n then (kiFs ty P r (off + n)).map (ks ++ ·) else none
      | _, _ => none
    else none
def kiTy (P : Program) : Nat → TypeId → Option (List Ki)
  | 0, _ => none
  | d + 1, t =>
    match P.underlying t with
    | some .bool => some [.b]
    | some (.int k) => some [.i k]
    | some .string => some [.s]
    | some (.struct fs) => if P.stoodInHeld t then none else kiFs (kiTy P d) P fs.toList 0
    | some (.array len e) => match kiTy P d e, szOf P e with
      | some ks, some n => if ks.length = n then some (List.replicate len ks).flatten else none
      | _, _ => none
    | _ => none
def kmatch : List Ki → List Value → Prop
  | [], [] => True
  | .b :: ks, .bool _ :: r => kmatch ks r
  | .i k :: ks, .int k' n :: r => (k' = k ∧ (Lit.int k n).wf = true) ∧ kmatch ks r
  | .s :: ks, .string s :: r => s.size ≤ maxLen ∧ kmatch ks r
  | _, _ => False
theorem kmatch_append : ∀ {ks ks' : List Ki} {cs cs' : List Value}, kmatch ks cs → kmatch ks' cs' → kmatch (ks ++ ks') (cs ++ cs')
  | [], _, [], _, _, h => h
  | [], _, _ :: _, _, h, _ => h.elim
  | .b :: ks, ks', cs, cs', h, h' => by
    match cs, h with
    | .bool _ :: r, h => exact kmatch_append (ks := ks) h h'
  | .i k :: ks, ks', cs, cs', h, h' => by
    match cs, h with
    | .int _ _ :: r, h => exact ⟨h.1, kmatch_append (ks := ks) h.2 h'⟩
  | .s :: ks, ks', cs, cs', h, h' => by
    match cs, h with
    | .string _ :: r, h => exact ⟨h.1, kmatch_append (ks := ks) h.2 h'⟩
section
variable {H : Type} {enc : TypeId × Value → H} {P : Program}
theorem cellsOf_sz {t : TypeId} {n : Nat} (h : szOf P t = some n) : P.cellsOf t = n := by
  unfold Program.cellsOf; unfold szOf at h; rw [h]; rfl
def Plain (P : Program) (enc : TypeId × Value → H) (fuel : Nat) (t : TypeId) (ks : List Ki) : Prop :=
  ∀ (w : World) (base : Nat) (spare : Nat → Bool) (held : Bool) (cs : List Value) (x : DataW H × List MemPlace), DataW.trod enc P w base spare held fuel t cs = some x →
    kmatch ks cs ∧ x.2 = [] ∧ ∀ w' base' spare' held', DataW.trod enc P w' base' spare' held' fuel t cs = some x
theorem plain_fields {fuel : Nat} {ty : TypeId → Option (List Ki)} (hty : ∀ t ks n, ty t = some ks → szOf P t = some n → ks.length = n → Plain P enc fuel t ks) :
    ∀ (fs : List Field) (off : Nat) (ks : List Ki), kiFs ty P fs off = some ks → ∀ (w : World) (base : Nat) (spare : Nat → Bool) (held : Bool) (cs : List Value) (xs : List (DataW H × List MemPlace)),
      (fs.mapM fun f => DataW.trod enc P w base spare held fuel f.type ((cs.drop f.offset).take (P.cellsOf f.type))) = some xs → cs.length = off + ks.length →
      kmatch ks (cs.drop off) ∧ xs.flatMap (·.2) = [] ∧ ∀ w' base' spare' held', (fs.mapM fun f => DataW.trod enc P w' base' spare' held' fuel f.type ((cs.drop f.offset).take (P.cellsOf f.type))) = some xs
  | [], off, ks, h, w, base, spare, held, cs, xs, hm, hl => by
    simp only [kiFs, Option.some.injEq] at h
    subst h
    simp only [List.mapM_nil, Option.pure_def, Option.some.injEq] at hm
    subst hm
    simp only [List.length_nil, Nat.add_zero] at hl
    rw [List.drop_eq_nil_of_le (by omega)]
    exact ⟨trivial, rfl, fun _ _ _ _ => rfl⟩
  | f :: r, off, ks, h, w, base, spare, held, cs, xs, hm, hl => by
    simp only [kiFs] at h
    split at h
    case isFalse => cases h
    rename_i hc
    obtain ⟨_, hoff⟩ := hc
    split at h
    case h_2 => cases h
    rename_i ks0 n hk hn
    split at h
    case isFalse => cases h
    rename_i hlen
    rw [Option.map_eq_some_iff] at h
    obtain ⟨ks1, h1, rfl⟩ := h
    have hsz := cellsOf_sz hn
    simp only [List.mapM_cons, Option.bind_eq_bind, Option.bind_eq_some_iff, Option.pure_def, Option.some.injEq] at hm
    obtain ⟨y, hy, ys, hys, rfl⟩ := hm
    have hp := hty f.type ks0 n hk hn hlen w base spare held _ y hy
    obtain ⟨p1, p2, p3⟩ := hp
    simp only [List.length_append] at hl
    obtain ⟨q1, q2, q3⟩ := plain_fields hty r (off + n) ks1 h1 w base spare held cs ys hys (by omega)
    rw [hoff, hsz] at p1
    refine ⟨?_, ?_, ?_⟩
    · have e : cs.drop off = (cs.drop off).take n ++ cs.drop (off + n) := by
        rw [← List.drop_drop, List.take_append_drop]
      rw [e]
      exact kmatch_append p1 q1
    · simp only [List.flatMap_cons, p2, q2, List.nil_append]
    · intro w' base' spare' held'
      simp only [List.mapM_cons, Option.bind_eq_bind, Option.bind_eq_some_iff, Option.pure_def, Option.some.injEq]
      exact ⟨y, p3 w' base' spare' held', ys, q3 w' base' spare' held', rfl⟩
theorem plain_elems {fuel : Nat} {e : TypeId} {ks : List Ki} {n : Nat} (hn : szOf P e = some n) (hl : ks.length = n) (he : Plain P enc fuel e ks) :
    ∀ (m i0 : Nat) (w : World) (base : Nat) (spare : Nat → Bool) (held : Bool) (cs : List Value) (xs : List (DataW H × List MemPlace)),
      ((List.range' i0 m).mapM fun i => DataW.trod enc P w base spare held fuel e ((cs.drop (i * P.cellsOf e)).take (P.cellsOf e))) = some xs → cs.length = (i0 + m) * n →
      kmatch (List.replicate m ks).flatten (cs.drop (i0 * n)) ∧ xs.flatMap (·.2) = [] ∧ ∀ w' base' spare' held', ((List.range' i0 m).mapM fun i => DataW.trod enc P w' base' spare' held' fuel e ((cs.drop (i * P.cellsOf e)).take (P.cellsOf e))) = some xs
  | 0, i0, w, base, spare, held, cs, xs, hm, hlen => by
    simp only [List.range'_zero, List.mapM_nil, Option.pure_def, Option.some.injEq] at hm
    subst hm
    simp only [Nat.add_zero] at hlen
    rw [List.drop_eq_nil_of_le (by omega)]
    exact ⟨trivial, rfl, fun _ _ _ _ => by simp⟩
  | m + 1, i0, w, base, spare, held, cs, xs, hm, hlen => by
    have hsz := cellsOf_sz hn
    simp only [List.range'_succ, List.mapM_cons, Option.bind_eq_bind, Option.bind_eq_some_iff, Option.pure_def, Option.some.injEq] at hm
    obtain ⟨y, hy, ys, hys, rfl⟩ := hm
    obtain ⟨p1, p2, p3⟩ := he w base spare held _ y hy
    obtain ⟨q1, q2, q3⟩ := plain_elems hn hl he m (i0 + 1) w base spare held cs ys hys (by rw [hlen]; congr 1; omega)
    rw [hsz] at p1
    refine ⟨?_, ?_, ?_⟩
    · rw [List.replicate_succ, List.flatten_cons]
      have e : cs.drop (i0 * n) = (cs.drop (i0 * n)).take n ++ cs.drop ((i0 + 1) * n) := by
        rw [Nat.succ_mul, ← List.drop_drop, List.take_append_drop]
      rw [e]
      exact kmatch_append p1 q1
    · simp only [List.flatMap_cons, p2, q2, List.nil_append]
    · intro w' base' spare' held'
      simp only [List.range'_succ, List.mapM_cons, Option.bind_eq_bind, Option.bind_eq_some_iff, Option.pure_def, Option.some.injEq]
      exact ⟨y, p3 w' base' spare' held', ys, q3 w' base' spare' held', rfl⟩
theorem plain_ty : ∀ (fuel d : Nat) (t : TypeId) (ks : List Ki) (n : Nat), kiTy P d t = some ks → szOf P t = some n → ks.length = n → Plain P enc fuel t ks
  | 0, d, t, ks, n, h, hn, hl => by intro w base spare held cs x hx; simp [DataW.trod] at hx
  | fuel + 1, 0, t, ks, n, h, hn, hl => by simp [kiTy] at h
  | fuel + 1, d + 1, t, ks, n, h, hn, hl => by
    intro w base spare held cs x hx
    unfold kiTy at h
    unfold DataW.trod at hx ⊢
    split at h
    · rename_i hu
      cases h
      rw [hu] at hx ⊢
      match cs, hx with
      | [.bool b], hx => simp only [Option.some.injEq] at hx; subst hx; exact ⟨trivial, rfl, fun _ _ _ _ => rfl⟩
    · rename_i k hu
      cases h
      rw [hu] at hx ⊢
      match cs, hx with
      | [.int k' m], hx =>
        simp only at hx
        split at hx
        · rename_i hc
          simp only [Option.some.injEq] at hx; subst hx
          exact ⟨⟨hc, trivial⟩, rfl, fun _ _ _ _ => by simp only; rw [if_pos hc]⟩
        · cases hx
    · rename_i hu
      cases h
      rw [hu] at hx ⊢
      match cs, hx with
      | [.string s], hx =>
        simp only at hx
        split at hx
        · rename_i hc
          simp only [Option.some.injEq] at hx; subst hx
          exact ⟨⟨hc, trivial⟩, rfl, fun _ _ _ _ => by simp only; rw [if_pos hc]⟩
        · cases hx
    · rename_i fs hu
      split at h
      · cases h
      rw [hu] at hx ⊢
      simp only at hx ⊢
      split at hx
      case isFalse => cases hx
      rename_i hlen
      rw [Option.map_eq_some_iff] at hx
      obtain ⟨xs, hxs, rfl⟩ := hx
      rw [cellsOf_sz hn, ← hl] at hlen
      obtain ⟨p1, p2, p3⟩ := plain_fields (fuel := fuel) (fun t ks n h1 h2 h3 => plain_ty fuel d t ks n h1 h2 h3) fs.toList 0 ks h w base spare held cs xs hxs (by omega)
      refine ⟨by simpa using p1, p2, fun w' base' spare' held' => ?_⟩
      rw [if_pos (by rw [cellsOf_sz hn, ← hl, hlen]), p3]; rfl
    · rename_i len e hu
      split at h
      case h_2 => cases h
      rename_i ks0 m hk hm
      split at h
      case isFalse => cases h
      rename_i hlm
      simp only [Option.some.injEq] at h
      subst h
      rw [hu] at hx ⊢
      simp only at hx ⊢
      split at hx
      case isFalse => cases hx
      rename_i hlen
      rw [Option.map_eq_some_iff] at hx
      obtain ⟨xs, hxs, rfl⟩ := hx
      rw [cellsOf_sz hn, ← hl] at hlen
      rw [List.range_eq_range'] at hxs
      have hfl : ((List.replicate len ks0).flatten).length = len * m := by rw [List.length_flatten]; simp [hlm]
      obtain ⟨p1, p2, p3⟩ := plain_elems hm hlm (plain_ty fuel d e ks0 m hk hm hlm) len 0 w base spare held cs xs hxs (by rw [hlen, hfl, Nat.zero_add])
      refine ⟨by simpa using p1, p2, fun w' base' spare' held' => ?_⟩
      rw [if_pos (by rw [cellsOf_sz hn, ← hl, hlen]), List.range_eq_range', p3]; rfl
    · cases h
end
theorem wf_i64 {n : Int} (h : (Lit.int .i64 n).wf = true) : -9223372036854775808 ≤ n ∧ n ≤ 9223372036854775807 := by simpa [Lit.wf, IntKind.min, IntKind.max, IntKind.signed, IntKind.bits] using h
end Go.Eng.K
end
section
set_option linter.unusedVariables false
set_option linter.unusedSimpArgs false
set_option linter.unusedSectionVars false
namespace Go.Eng.K
open Go.Eng
theorem vr_ex (β : Emb) : ∀ v : Value, ∃ a, VR β a v := by
  have key : ∀ (n : Nat) (v : Value), SizeOf.sizeOf v < n → ∃ a, VR β a v := by
    intro n
    induction n with
    | zero => intro v h; omega
    | succ n ih =>
      intro v h
      have list : ∀ l : List Value, (∀ x ∈ l, SizeOf.sizeOf x < n) → ∃ bs, VRs β bs l := by
        intro l
        induction l with
        | nil => intro _; exact ⟨[], .nil⟩
        | cons x r ihl =>
          intro hx
          obtain ⟨a, ha⟩ := ih x (hx x (List.mem_cons_self ..))
          obtain ⟨bs, hs⟩ := ihl (fun y hy => hx y (List.mem_cons_of_mem _ hy))
          exact ⟨a :: bs, .cons _ _ _ _ ha hs⟩
      by_cases ho : okCell v = true
      · exact ⟨.chan none, .junk none v ho⟩
      · match v, ho, h with
        | .agg ⟨l⟩, _, h =>
          obtain ⟨bs, hs⟩ := list l (fun x hx => by
            have := List.sizeOf_lt_of_mem hx
            simp only [Value.agg.sizeOf_spec, Array.mk.sizeOf_spec] at h
            omega)
          exact ⟨.agg ⟨bs⟩, .agg _ _ hs⟩
        | .tuple ⟨l⟩, _, h =>
          obtain ⟨bs, hs⟩ := list l (fun x hx => by
            have := List.sizeOf_lt_of_mem hx
            simp only [Value.tuple.sizeOf_spec, Array.mk.sizeOf_spec] at h
            omega)
          exact ⟨.tuple ⟨bs⟩, .tup _ _ hs⟩
  exact fun v => key (SizeOf.sizeOf v + 1) v (Nat.lt_succ_self _)
def mirE (W : World) : Emb := fun k => if k < W.heap.size then some ⟨k, 0, []⟩ else none
open Classical in
noncomputable def absV (W : World) (v : Value) : Value :=
  match v with
  | .slice (some a) len cap =>
    if len = 0 then .slice (some ⟨0, 0, some 1⟩) 0 0
    else if a.spot = none ∧ a.block < W.heap.size then .slice (some a) len cap
    else Classical.choose (vr_ex (mirE W) (.slice (some a) len cap))
  | v => if isBase v = true then v else Classical.choose (vr_ex (mirE W) v)
theorem absV_vr (W : World) (v : Value) : VR (mirE W) (absV W v) v := by
  unfold absV
  split
  · rename_i a len cap
    split
    · rename_i h; subst h; exact .sle _ _
    · split
      · rename_i h
        obtain ⟨b, off, s⟩ := a
        obtain ⟨h1, h2⟩ := h
        simp only at h1 h2
        subst h1
        exact VR.sl b off len cap ⟨b, 0, []⟩ (by unfold mirE; rw [if_pos h2])
      · exact Classical.choose_spec (vr_ex (mirE W) _)
  · split
    · rename_i h; exact .base _ h
    · exact Classical.choose_spec (vr_ex (mirE W) _)
theorem absV_base {W : World} {v : Value} (h : isBase v = true) : absV W v = v := by
  unfold absV
  split
  · simp [isBase] at h
  · rw [if_pos h]
theorem absV_map (W : World) : ∀ l : List Value, VRs (mirE W) (l.map (absV W)) l
  | [] => .nil
  | v :: r => .cons _ _ _ _ (absV_vr W v) (absV_map W r)
theorem absV_bases {W : World} : ∀ {l : List Value}, l.all isBase = true → l.map (absV W) = l
  | [], _ => rfl
  | v :: r, h => by
    simp only [List.all_cons, Bool.and_eq_true] at h
    rw [List.map_cons, absV_base h.1, absV_bases h.2]
noncomputable def mirB (W : World) (b : Nat) : Option Blk :=
  match W.heap[b]? with
  | some (.cells c elem _) => some ⟨elem, 0, true, c.toList.map (absV W)⟩
  | _ => none
noncomputable def mirror (W : World) : Heap := (List.range W.heap.size).map fun b => (b, mirB W b)
theorem hget_map {f : Nat → Option Blk} {k : Nat} : ∀ (l : List Nat), hget (l.map fun b => (b, f b)) k = if k ∈ l then f k else none
  | [] => rfl
  | b :: r => by
    simp only [List.map_cons, hget]
    by_cases e : b = k
    · subst e; simp
    · rw [if_neg e, hget_map r]
      simp [Ne.symm e]
theorem mir_get (W : World) (k : Nat) : hget (mirror W) k = mirB W k := by
  unfold mirror
  rw [hget_map]
  by_cases h : k < W.heap.size
  · rw [if_pos (List.mem_range.2 h)]
  · rw [if_neg (by simpa using h)]
    unfold mirB
    rw [Array.getElem?_eq_none (by omega)]
theorem mir_blk {W : World} {k : Nat} {blk : Blk} (h : hget (mirror W) k = some blk) : k < W.heap.size ∧ ∃ C fr, W.heap[k]? = some (.cells ⟨C⟩ blk.elem fr) ∧ blk.sz = 0 ∧ blk.cells = C.map (absV W) := by
  rw [mir_get] at h
  unfold mirB at h
  split at h
  · rename_i c elem fr hk
    cases h
    refine ⟨?_, c.toList, fr, hk, rfl, rfl⟩
    rcases Nat.lt_or_ge k W.heap.size with h | h
    · exact h
    · rw [Array.getElem?_eq_none h] at hk; cases hk
  · cases h
theorem mir_wr {W : World} {k : Nat} : ¬ wr (mirror W) k := fun ⟨blk, h1, h2⟩ => by
  obtain ⟨_, C, fr, _, h3, _⟩ := mir_blk h1
  exact h2 h3
theorem mir_rel (W : World) : Rel (mirE W) (mirror W) W := by
  refine ⟨fun k blk hk => ?_, fun k k' L L' _ b => absurd b mir_wr, fun k L h => ?_⟩
  · obtain ⟨h1, C, fr, h2, h3, h4⟩ := mir_blk hk
    refine ⟨⟨k, 0, []⟩, C, fr, by unfold mirE; rw [if_pos h1], by simpa using h2, fun h => absurd h3 h, by rw [h4]; exact absV_map W C, by simp, fun _ => rfl⟩
  · unfold mirE at h
    split at h
    · rename_i hk; cases h; exact hk
    · cases h
theorem mir_calls {P : Program} {f : Nat} {S : List Value → Heap → Nat → Option Out} (hS : SpecOK P f S) {W : World} {aargs args : List Value} {v : Value} (h : S aargs (mirror W) W.heap.size = some (v, [], 0))
    (ha : VRs (mirE W) aargs args) (hv : isBase v = true) :
    Calls P f ⟨args⟩ W fun e W' => e = .returned v ∧ W'.os = W.os ∧ W'.output = W.output ∧ ∀ b, b < W.heap.size → W'.heap[b]? = W.heap[b]? := by
  have h := hS.ok aargs (mirror W) W.heap.size (v, [], 0) h (mirE W) W args ha (mir_rel W) (fun k h1 h2 => by simp only at h2; omega)
    ⟨W.heap.size, fun k hk => by
      rcases Nat.lt_or_ge k W.heap.size with h | h
      · exact h
      · exact absurd (by unfold mirE; rw [if_neg (by omega)]) hk⟩
  refine h.mono ?_
  rintro e W' ⟨β', v', he, hvr, hrel, hfr, _⟩
  exact ⟨by rw [he, hvr.base_left hv], hfr.os, hfr.out, fun b hb => hfr.keep b hb (fun k L hk => absurd hk mir_wr)⟩
theorem kept_of {W W' : World} (h1 : W'.os = W.os) (h2 : W'.output = W.output) (h3 : ∀ b, b < W.heap.size → W'.heap[b]? = W.heap[b]?) : W.keptBut W' (fun _ => False) := by
  refine ⟨h1, h2, fun i hi => ?_⟩
  rw [h3 i hi]
  cases W.heap[i]? with
  | none => rfl
  | some o =>
    cases o with
    | cells c t fr => exact ⟨rfl, rfl, rfl, fun _ _ => rfl⟩
    | map es cl => exact .inr ⟨rfl, rfl⟩
    | _ => rfl
section
variable {H : Type} {enc : TypeId × Value → H} {P : Program}
theorem trodAll_old {W W' : World} (hs : ∀ b, b < W.heap.size → W'.heap[b]? = W.heap[b]?) {base : Nat} {sp : Nat → Bool} {held : Bool} :
    ∀ {ts : List TypeId} {vs : List Value} {ds : List (DataW H)} {ps : List MemPlace}, DataW.TrodAll enc P W base sp held ts vs ds ps → DataW.TrodAll enc P W' base sp held ts vs ds ps
  | [], [], [], _, h => h
  | t :: ts, v :: vs, d :: ds, ps, ⟨p, q, ⟨n, h1⟩, h2, e⟩ => by
    have lt := DataW.trod_lt n _ _ _ h1
    refine ⟨p, q, ⟨n, DataW.trod_carry n _ _ _ h1 (fun x hx => ?_)⟩, trodAll_old hs h2, e⟩
    have hb := lt x hx
    cases x with
    | cell b off => simp only [MemPlace.block] at hb; simp only [World.sameAt, World.cell?, hs b hb]
    | map b => simp only [MemPlace.block] at hb; simp only [World.sameAt, hs b hb]
  | [], [], _ :: _, _, h => h.elim
  | [], _ :: _, _, _, h => by cases h
  | _ :: _, [], _, _, h => by cases h
  | _ :: _, _ :: _, [], _, h => by cases h
theorem args_again {W W' : World} (hl : laidOutB P = true) (hm : mapsRowed P = true) (hz : ((List.range P.types.size).all fun t => match P.underlying t with | some (.slice e) => decide (0 < P.cellsOf e) | _ => true) = true)
    (hs : ∀ b, b < W.heap.size → W'.heap[b]? = W.heap[b]?) {ts : List TypeId} (ht : ts.all (fun t => decide (t < P.types.size)) = true) {vs : List Value} {ds : List (DataW H)} {ps : List MemPlace} (h : DataW.TrodAll enc P W 0 (fun _ => true) true ts vs ds ps) :
    DataW.TrodAll enc P W' 0 (fun b => decide (b < W.heap.size)) true ts vs ds ps := by
  refine DataW.TrodAll.respare (kids_rows hl hm) (slices_full_of P hz) (fun t h => of_decide_eq_true (List.all_eq_true.1 ht t h)) (trodAll_old hs h) (fun p hp => ?_)
  exact decide_eq_true (DataW.TrodAll.lt h p hp)
theorem mir_at {W : World} {a : Addr} {n : Nat} {cs : List Value} (hn : 0 < n) (h : W.cells? 0 a n = some cs) :
    a.spot = none ∧ a.block < W.heap.size ∧ ∃ blk, hget (mirror W) a.block = some blk ∧ a.off + n ≤ blk.cells.length ∧ (blk.cells.drop a.off).take n = cs.map (absV W) := by
  obtain ⟨_, hlen, hc⟩ := World.cells?_some h
  have h0 := hc 0 hn
  rw [List.getElem?_eq_getElem (by omega)] at h0
  have e0 : a.add 0 = a := rfl
  rw [e0] at h0
  unfold World.cell? at h0
  split at h0
  case h_2 => cases h0
  rename_i c elem fr hk
  split at h0
  case isTrue => cases h0
  rename_i hsp
  have hspot : a.spot = none := by cases h : a.spot with | none => rfl | some s => rw [h] at hsp; simp at hsp
  have hlt : a.block < W.heap.size := by
    rcases Nat.lt_or_ge a.block W.heap.size with h | h
    · exact h
    · rw [Array.getElem?_eq_none h] at hk; cases hk
  have cell : ∀ i, i < n → c.toList[a.off + i]? = cs[i]? := fun i hi => by
    have := hc i hi
    rw [← this]
    have ea : a.add i = ⟨a.block, a.off + i, none⟩ := by
      unfold Addr.add
      split
      · rename_i h0; subst h0; cases a; simp_all
      · rfl
    rw [ea]
    simp only [World.cell?, hk]
    simp
  have hle : a.off + n ≤ c.toList.length := by
    have := cell (n - 1) (by omega)
    rw [List.getElem?_eq_getElem (by omega : n - 1 < cs.length)] at this
    have := (List.getElem?_eq_some_iff.1 this).1
    omega
  refine ⟨hspot, hlt, ⟨elem, 0, true, c.toList.map (absV W)⟩, ?_, by simpa using hle, ?_⟩
  · rw [mir_get]; unfold mirB; rw [hk]
  · refine List.ext_getElem? fun i => ?_
    rw [List.getElem?_take]
    by_cases hi : i < n
    · rw [if_pos hi, List.getElem?_drop, List.getElem?_map, List.getElem?_map, cell i hi]
    · rw [if_neg hi, List.getElem?_eq_none (by simp; omega)]
theorem many_ex {α : Type} {sz : Nat} {dec : List Value → Option α} : ∀ (l : Nat) (cs : List Value), (∀ i, i < l → ∃ x, dec ((cs.drop (i * sz)).take sz) = some x) → ∃ xs, many sz dec l cs = some xs
  | 0, cs, _ => ⟨[], rfl⟩
  | l + 1, cs, h => by
    obtain ⟨x, hx⟩ := h 0 (by omega)
    simp only [Nat.zero_mul, List.drop_zero] at hx
    obtain ⟨xs, hxs⟩ := many_ex l (cs.drop sz) (fun i hi => by
      obtain ⟨y, hy⟩ := h (i + 1) (by omega)
      refine ⟨y, ?_⟩
      rw [List.drop_drop, ← hy, Nat.succ_mul, Nat.add_comm (i * sz) sz])
    refine ⟨x :: xs, ?_⟩
    unfold many
    simp only [hx, hxs]
theorem mir_list {W : World} {α : Type} {dec : List Value → Option α} {t e : TypeId} {n fuel : Nat} {held : Bool} {sv : Value} {x : DataW H × List MemPlace} (ht : P.underlying t = some (.slice e)) (hsz : P.cellsOf e = n) (hn : 0 < n)
    (h : DataW.trod enc P W 0 (fun _ => true) held fuel t [sv] = some x)
    (hdec : ∀ (m : Nat) (cs : List Value) (y : DataW H × List MemPlace), DataW.trod enc P W 0 (fun _ => true) held m e cs = some y → ∃ z, dec (cs.map (absV W)) = some z) :
    ∃ xs, listAt n dec (mirror W) (absV W sv) = some xs ∧ xs.length ≤ maxLen := by
  rcases Go.Deep.open_slice ht h with ⟨h1, _⟩ | ⟨a, len, cap, m, k, D, Pl, h1, _, hl, hm, hmm, _, hx⟩
  · simp only [List.cons.injEq, and_true] at h1
    subst h1
    exact ⟨[], by rw [absV_base rfl]; rfl, by simp⟩
  · simp only [List.cons.injEq, and_true] at h1
    subst h1
    simp only [if_true] at hmm
    subst hmm
    rw [hsz] at hx
    by_cases h0 : len = 0
    · subst h0
      exact ⟨[], by unfold absV; simp only [if_true]; rfl, by simp⟩
    · obtain ⟨c0, hc0, _⟩ := hx 0 (by omega)
      rw [Nat.zero_mul] at hc0
      obtain ⟨s1, s2, blk, s3, _, _⟩ := mir_at hn hc0
      have ev : absV W (.slice (some a) len m) = .slice (some a) len m := by unfold absV; simp only; rw [if_neg h0, if_pos ⟨s1, s2⟩]
      obtain ⟨b, off, sp⟩ := a
      replace s1 : sp = none := s1
      replace s3 : hget (mirror W) b = some blk := s3
      subst s1
      have cell : ∀ i, i < len → ∃ cs, off + i * n + n ≤ blk.cells.length ∧ (blk.cells.drop (off + i * n)).take n = cs.map (absV W) ∧ ∃ y, DataW.trod enc P W 0 (fun _ => true) held k e cs = some y := fun i hi => by
        obtain ⟨cs, hc, hy⟩ := hx i (by omega)
        obtain ⟨q1, q2, blk', q3, q4, q5⟩ := mir_at hn hc
        have ea : (⟨b, off, none⟩ : Addr).add (i * n) = ⟨b, off + i * n, none⟩ := add_none _ _ _
        rw [ea] at q3 q4 q5
        replace q3 : hget (mirror W) b = some blk' := q3
        replace q4 : off + i * n + n ≤ blk'.cells.length := q4
        replace q5 : (blk'.cells.drop (off + i * n)).take n = cs.map (absV W) := q5
        rw [s3] at q3; cases q3
        exact ⟨cs, q4, q5, _, hy⟩
      have hle : off + len * n ≤ blk.cells.length := by
        obtain ⟨_, q, _⟩ := cell (len - 1) (by omega)
        obtain ⟨l', rfl⟩ : ∃ l', len = l' + 1 := ⟨len - 1, by omega⟩
        simp only [Nat.add_sub_cancel] at q
        rw [Nat.succ_mul]; omega
      have la : lay n (mirror W) (.slice (some ⟨b, off, none⟩) len m) = some ((blk.cells.drop off).take (len * n)) := by
        obtain ⟨l', rfl⟩ : ∃ l', len = l' + 1 := ⟨len - 1, by omega⟩
        unfold lay
        simp only [s3]
        rw [if_pos ⟨hl, hle⟩]
      obtain ⟨xs, hxs⟩ := many_ex (sz := n) (dec := dec) len ((blk.cells.drop off).take (len * n)) (fun i hi => by
        obtain ⟨cs, q1, q2, y, q3⟩ := cell i hi
        obtain ⟨z, hz⟩ := hdec k cs y q3
        refine ⟨z, ?_⟩
        rw [List.drop_take, List.take_take, List.drop_drop]
        have : n ≤ len * n - i * n := by rw [← Nat.sub_mul]; exact Nat.le_mul_of_pos_left _ (by omega)
        rw [Nat.min_eq_left this, q2]
        exact hz)
      refine ⟨xs, ?_, ?_⟩
      · rw [ev]
        unfold listAt
        rw [la]
        exact hxs
      · rw [(many_get hxs).1]; omega
theorem kmatch_base : ∀ {ks : List Ki} {cs : List Value}, kmatch ks cs → cs.all isBase = true
  | [], [], _ => rfl
  | .b :: ks, cs, h => by
    match cs, h with
    | .bool _ :: r, h => simp only [List.all_cons, isBase, Bool.true_and]; exact kmatch_base (ks := ks) h
  | .i k :: ks, cs, h => by
    match cs, h with
    | .int _ _ :: r, h => simp only [List.all_cons, isBase, Bool.true_and]; exact kmatch_base (ks := ks) h.2
  | .s :: ks, cs, h => by
    match cs, h with
    | .string _ :: r, h => simp only [List.all_cons, isBase, Bool.true_and]; exact kmatch_base (ks := ks) h.2
end
end Go.Eng.K
end
section
set_option linter.unusedVariables false
set_option linter.unusedSimpArgs false
set_option linter.unusedSectionVars false
namespace Go.Eng
structure Pt where
  (s1 : Bool) (l1 : List UInt8) (s2 : Bool) (l2 : List UInt8) (s3 : Bool) (l3 : List UInt8) (s4 : Bool) (l4 : List UInt8)
deriving DecidableEq
namespace Pt
def cells (p : Pt) : List Value := [.bool p.s1, .string ⟨⟨p.l1⟩⟩, .bool p.s2, .string ⟨⟨p.l2⟩⟩, .bool p.s3, .string ⟨⟨p.l3⟩⟩, .bool p.s4, .string ⟨⟨p.l4⟩⟩]
def x (p : Pt) : Int := sv p.s1 p.l1
def y (p : Pt) : Int := sv p.s2 p.l2
def z (p : Pt) : Int := sv p.s3 p.l3
def w (p : Pt) : Int := sv p.s4 p.l4
def cmp (p q : Pt) : Int := cmp4 p.x p.y p.z p.w q.x q.y q.z q.w
def on (p q r : Pt) : Prop := flt p.x p.y p.z p.w q.x q.y q.z q.w r.x r.y r.z r.w
instance {p q r : Pt} : Decidable (on p q r) := by unfold on; infer_instance
def ok (p : Pt) : Prop := (p.l1.length ≤ 65536 ∧ p.l2.length ≤ 65536 ∧ p.l3.length ≤ 65536 ∧ p.l4.length ≤ 65536) ∧ 0 < p.w
instance {p : Pt} : Decidable p.ok := by unfold ok; infer_instance
def hi (p q : Pt) : Pt := if 0 < cmp p q then p else q
end Pt
end Go.Eng
end
section
set_option linter.unusedVariables false
set_option linter.unusedSimpArgs false
set_option linter.unusedSectionVars false
namespace Go.Eng
namespace Pt
def dflt : Pt := ⟨false, [], false, [], false, [], false, []⟩
def sz (k : Nat) (p : Pt) : Prop := p.l1.length ≤ k ∧ p.l2.length ≤ k ∧ p.l3.length ≤ k ∧ p.l4.length ≤ k
instance {k : Nat} {p : Pt} : Decidable (p.sz k) := by unfold sz; infer_instance
def c1 (p : Pt) : List Value := [.bool p.s1, .string ⟨⟨p.l1⟩⟩]
def c2 (p : Pt) : List Value := [.bool p.s2, .string ⟨⟨p.l2⟩⟩]
def c3 (p : Pt) : List Value := [.bool p.s3, .string ⟨⟨p.l3⟩⟩]
theorem g1 (p : Pt) : p.cells.take 2 = p.c1 := rfl
theorem g2 (p : Pt) : (p.cells.drop 2).take 2 = p.c2 := rfl
theorem g3 (p : Pt) : (p.cells.drop 4).take 2 = p.c3 := rfl
end Pt
def ptAt (l : List Pt) (i : Nat) : Pt := (l[i]?).getD Pt.dflt
def awx (a b : Pt) : Int := b.x * a.w - a.x * b.w
def awy (a b : Pt) : Int := b.y * a.w - a.y * b.w
def awz (a b : Pt) : Int := b.z * a.w - a.z * b.w
def lftZ (P a b x : Pt) : Int :=
  0 + P.x * (awy a b * awz a x - awz a b * awy a x) + P.y * (awz a b * awx a x - awx a b * awz a x) + P.z * (awx a b * awy a x - awy a b * awx a x)
def turnsP (P : Pt) (l : List Pt) : Prop := ∀ i, i < l.length → ∀ j, j < l.length → j ≠ i → j ≠ (i + 1) % l.length → 0 < lftZ P (ptAt l i) (ptAt l ((i + 1) % l.length)) (ptAt l j)
instance {P : Pt} {l : List Pt} : Decidable (turnsP P l) := by unfold turnsP; infer_instance
end Go.Eng
end
section
set_option linter.unusedVariables false
set_option linter.unusedSimpArgs false
set_option linter.unusedSectionVars false
namespace Go.Eng.K
open Go.Eng
section
variable {H : Type} {enc : TypeId × Value → H} {P : Program}
theorem trod_struct {w : World} {base : Nat} {spare : Nat → Bool} {held : Bool} {fuel : Nat} {t : TypeId} {cs : List Value} {x : DataW H × List MemPlace} {fs : Array Field} (hu : P.underlying t = some (.struct fs))
    (h : DataW.trod enc P w base spare held fuel t cs = some x) :
    cs.length = P.cellsOf t ∧ ∃ fuel' xs, fs.toList.mapM (fun f => DataW.trod enc P w base spare held fuel' f.type ((cs.drop f.offset).take (P.cellsOf f.type))) = some xs ∧ x = (.agg (xs.map (·.1)), xs.flatMap (·.2)) := by
  cases fuel with
  | zero => simp [DataW.trod] at h
  | succ fuel =>
    unfold DataW.trod at h
    rw [hu] at h
    simp only at h
    split at h
    case isFalse => cases h
    rename_i hl
    rw [Option.map_eq_some_iff] at h
    obtain ⟨xs, hx, rfl⟩ := h
    exact ⟨hl, fuel, xs, hx, rfl⟩
def sumL : List Nat → Nat
  | [] => 0
  | x :: r => x + sumL r
variable (bulk : DataW H → Nat) (b1 : ∀ b : List UInt8, b.length ≤ bulk (.lit (.string b))) (b2 : ∀ ps : List (DataW H), sumL (ps.map bulk) ≤ bulk (.agg ps))
include b1 b2 in
include b1 b2 in
end
end Go.Eng.K
end
section
set_option linter.unusedVariables false
set_option linter.unusedSimpArgs false
set_option linter.unusedSectionVars false
namespace Go.Eng.K
open Go.Eng Go.WideShapes
section
variable {H : Type} {enc : TypeId × Value → H} {P : Program}
theorem km_q {cs : List Value} (h : kmatch [.b, .s, .s] cs) : ∃ q : RQ, cs = q.cells := by
  match cs, h with
  | [.bool s, .string ⟨⟨n⟩⟩, .string ⟨⟨d⟩⟩], _ => exact ⟨⟨s, n, d⟩, rfl⟩
theorem km_i {k : IntKind} {cs : List Value} (h : kmatch [.i k] cs) : ∃ n, cs = [.int k n] := by
  match cs, h with
  | [.int k' n], h => obtain ⟨⟨rfl, _⟩, _⟩ := h; exact ⟨n, rfl⟩
theorem rats_trod {W : World} {fuel : Nat} {tv tq : TypeId} {sv : Value} {x : DataW H × List MemPlace} (hv : P.underlying tv = some (.slice tq)) (hq : kiTy P 20 tq = some [.b, .s, .s]) (hs : szOf P tq = some 3)
    (h : DataW.trod enc P W 0 (fun _ => true) true fuel tv [sv] = some x) : ∃ l, listAt 3 dec1 (mirror W) (absV W sv) = some l ∧ l.length ≤ maxLen :=
  mir_list (dec := dec1) (n := 3) hv (cellsOf_sz hs) (by omega) h (fun m cs y hy => by
    obtain ⟨km, _, _⟩ := plain_ty m 20 tq _ 3 hq hs rfl W 0 _ true _ y hy
    obtain ⟨q, eq⟩ := km_q km
    rw [absV_bases (kmatch_base km), eq]
    exact ⟨q, rfl⟩)
theorem five {l : List Value} (h : l.length = 5) : ∃ a b c d e, l = [a, b, c, d, e] := by
  match l, h with
  | [a, b, c, d, e], _ => exact ⟨a, b, c, d, e, rfl⟩
theorem open_eqs {W : World} {base : Nat} {t te tc tq ti : TypeId} {n1 n2 n3 g1 g2 g3 q1 q2 q3 : String} {b1 b2 b3 c1 c2 c3 : _} {v : Value} {d : DataW H} {ps : List MemPlace} (ht : P.underlying t = some (.slice te))
    (hu : P.underlying te = some (.struct #[⟨n1, tc, 0, b1, g1, q1, c1⟩, ⟨n2, tq, 1, b2, g2, q2, c2⟩, ⟨n3, ti, 4, b3, g3, q3, c3⟩])) (hce : P.cellsOf te = 5) (hv : P.underlying tc = some (.slice tq)) (hcc : P.cellsOf tc = 1)
    (hq : kiTy P 20 tq = some [.b, .s, .s]) (hs : szOf P tq = some 3) (hi : kiTy P 20 ti = some [.i .i64]) (hsi : szOf P ti = some 1)
    (hval : Value.okWide P W .any base t v) (h : DataW.Trod enc P W 0 (fun _ => true) true t v d ps) : ∃ l, decRows (mirror W) (absV W v) = some l ∧ l.length ≤ maxLen := by
  obtain ⟨a, len, cap, rfl⟩ := okWide_slice ht hval
  obtain ⟨fuel, h⟩ := h
  unfold decRows
  refine mir_list (dec := decEq (mirror W)) (n := 5) ht hce (by omega) h (fun m cs y hy => ?_)
  obtain ⟨hl, fuel', xs, hx, _⟩ := trod_struct hu hy
  rw [hce] at hl
  simp only [List.mapM_cons, List.mapM_nil, Option.bind_eq_bind, Option.bind_eq_some_iff, Option.pure_def, Option.some.injEq] at hx
  obtain ⟨y1, hy1, ys, ⟨y2, hy2, zs, ⟨y3, hy3, _⟩, _⟩, _⟩ := hx
  have e3 : P.cellsOf tq = 3 := cellsOf_sz hs
  have e1 : P.cellsOf ti = 1 := cellsOf_sz hsi
  rw [hcc] at hy1
  rw [e3] at hy2
  rw [e1] at hy3
  obtain ⟨k0, k1, k2, k3, k4, rfl⟩ := five hl
  have hy1 : DataW.trod enc P W 0 (fun _ => true) true fuel' tc [k0] = some y1 := hy1
  have hy2 : DataW.trod enc P W 0 (fun _ => true) true fuel' tq [k1, k2, k3] = some y2 := hy2
  have hy3 : DataW.trod enc P W 0 (fun _ => true) true fuel' ti [k4] = some y3 := hy3
  obtain ⟨l, hl1, _⟩ := rats_trod hv hq hs hy1
  obtain ⟨km, _, _⟩ := plain_ty fuel' 20 tq _ 3 hq hs rfl W 0 _ true _ y2 hy2
  obtain ⟨q, eq⟩ := km_q km
  obtain ⟨ki, _, _⟩ := plain_ty fuel' 20 ti _ 1 hi hsi rfl W 0 _ true _ y3 hy3
  obtain ⟨n, en⟩ := km_i ki
  simp only [RQ.cells, List.cons.injEq, and_true] at eq en
  obtain ⟨rfl, rfl, rfl⟩ := eq
  subst en
  refine ⟨⟨l, q, n⟩, ?_⟩
  simp only [List.map_cons, List.map_nil]
  rw [absV_base (v := .bool q.s) rfl, absV_base (v := .string ⟨⟨q.n⟩⟩) rfl, absV_base (v := .string ⟨⟨q.d⟩⟩) rfl, absV_base (v := .int .i64 n) rfl]
  exact decEq_of (e := ⟨l, q, n⟩) hl1
end
end Go.Eng.K
end
