/-
  A part of the proof: the machine, the contracts of the functions and the plain laws, merged from smaller texts.
-/
import Derived.Test.YtecgadjeomfagaaGreatDoorCx4
import Derived.RowKit3
import Derived.ChangeSame
import Derived.ReadAgain
import Derived.Deep.Slices
import Derived.WideShapes
section
set_option linter.unusedVariables false
set_option linter.unusedSimpArgs false
set_option linter.unusedSectionVars false
set_option maxRecDepth 20000
namespace Go.Eng
open Go Go.Proofs Go.IntWalk
theorem norm_call2 {h : Heap} {b : Nat} {l : List PQ} {sl : Value} (hx : decPts h sl = some l) (hs : ptsN l) (ne : (nmOut (pvs l)).2 ≠ []) :
    nwL spNorm2 [sl] h b = some (.tuple ⟨[.slice (some ⟨b + 0, 0, none⟩) (nmOut (pvs l)).2.length (nmOut (pvs l)).2.length, .int .i64 (nmOut (pvs l)).1]⟩, [(b + 0, some ⟨34, 6, false, ptC ((nmOut (pvs l)).2.map pqo)⟩)], 1) := by
  have e0 : spNorm2 [sl] h = some (nmNL (nmOut (pvs l))) := by
    unfold spNorm2
    simp only [hx]
    exact if_pos hs
  have e : nwL spNorm2 [sl] h b = some ((nmNL (nmOut (pvs l))).val (b + ·), newH (nmNL (nmOut (pvs l))) (b + ·) (nmNL (nmOut (pvs l))).m, (nmNL (nmOut (pvs l))).m) := by
    unfold nwL
    rw [e0]; rfl
  rw [e]
  generalize nmOut (pvs l) = r at *
  unfold nmNL
  rw [if_neg ne]
  rfl
def lfB (C : List P2) (x : P2) : Nat → Bool
  | 0 => true
  | i + 1 => lfB C x i && decide (0 < cr (vt C i) (vt C (i + 1)) x)
def rtB (C : List P2) (x : P2) : Nat → Bool
  | 0 => false
  | i + 1 => rtB C x i || decide (cr (vt C i) (vt C (i + 1)) x < 0)
theorem lfB_iff {C : List P2} {x : P2} : ∀ {n : Nat}, lfB C x n = true ↔ ∀ i, i < n → 0 < cr (vt C i) (vt C (i + 1)) x
  | 0 => ⟨fun _ i h => absurd h (Nat.not_lt_zero i), fun _ => rfl⟩
  | n + 1 => by
    unfold lfB
    rw [Bool.and_eq_true, lfB_iff, decide_eq_true_eq]
    refine ⟨fun ⟨a, b⟩ i hi => ?_, fun hh => ⟨fun i hi => hh i (by omega), hh n (by omega)⟩⟩
    by_cases e : i = n
    · rw [e]; exact b
    · exact a i (by omega)
theorem rtB_iff {C : List P2} {x : P2} : ∀ {n : Nat}, rtB C x n = true ↔ ∃ i, i < n ∧ cr (vt C i) (vt C (i + 1)) x < 0
  | 0 => ⟨fun h => (by cases h), fun ⟨i, h, _⟩ => absurd h (Nat.not_lt_zero i)⟩
  | n + 1 => by
    unfold rtB
    rw [Bool.or_eq_true, rtB_iff, decide_eq_true_eq]
    refine ⟨fun hh => ?_, fun ⟨i, hi, k⟩ => ?_⟩
    · rcases hh with ⟨i, hi, k⟩ | k
      · exact ⟨i, by omega, k⟩
      · exact ⟨n, by omega, k⟩
    · by_cases e : i = n
      · exact .inr (e ▸ k)
      · exact .inl ⟨i, by omega, k⟩
theorem cv_law {C : List P2} (s : Simp C) (b : AllB C) (hc : ∀ i, i < C.length → ∀ k, k < C.length → 0 ≤ cr (vt C i) (vt C (i + 1)) (ptv C k)) (x : P2) :
    decide (clsP C x = 1) = lfB C x C.length ∧ decide (clsP C x = -1) = rtB C x C.length := by
  have n3 := s.n3
  have cv : CV C := ⟨s, b, fun i j => by
    have := hc (i % C.length) (Nat.mod_lt _ (by omega)) (j % C.length) (Nat.mod_lt _ (by omega))
    rwa [vt_congr (l := C) (i := i % C.length) (j := i) (Nat.mod_mod _ _), vt_congr (l := C) (i := i % C.length + 1) (j := i + 1) (by rw [Nat.mod_add_mod])] at this⟩
  obtain ⟨l1, l2⟩ := cv.law x
  have p1 : clsP C x = 1 ↔ onL C x = false ∧ xs x C % 2 = 1 := by
    unfold clsP
    cases onL C x with
    | true => simp
    | false =>
      by_cases o : xs x C % 2 = 1 <;> simp [o]
  have p2 : clsP C x = -1 ↔ onL C x = false ∧ xs x C % 2 ≠ 1 := by
    unfold clsP
    cases onL C x with
    | true => simp
    | false =>
      by_cases o : xs x C % 2 = 1 <;> simp [o]
  constructor
  · rw [Bool.eq_iff_iff, decide_eq_true_eq, lfB_iff, p1, l1]
  · rw [Bool.eq_iff_iff, decide_eq_true_eq, rtB_iff, p2, l2]
theorem nm_simp {L : List P2} (h : (nmOut L).1 = 0) : Simp (nmOut L).2 ∧ AllB (nmOut L).2 := by
  have p := nm_ok h
  have e : nmOut L = (0, ncf L) := by unfold nmOut; rw [if_neg (by have := nm_le h; omega), if_pos p]
  obtain ⟨s1, s2, _⟩ := (prof_iff.1 p).ncf
  rw [e]
  exact ⟨s1, s2⟩
def spL26cx : List Value → Heap → Option Value
  | [sl, .agg ⟨cx⟩], h => match decPts h sl, dec2 cx with
    | some l, some x => if l.length ≤ 9223372036854775807 then some (.bool true) else none
    | _, _ => none
  | _, _ => none
theorem fr_L26cx {h : Heap} {N : Nat} {sl : Value} {l : List PQ} {x : PQ} (e : decPts h sl = some l) (m : l.length ≤ maxLen) : rdS spL26cx [sl, .agg ⟨pcl x⟩] h N = some (.bool true, [], 0) := by
  unfold rdS spL26cx
  simp only [e, pcl_dec]
  rw [if_pos (show l.length ≤ 9223372036854775807 from m)]; rfl
def c5 : ICode :=
  (.seq (.reg [qq 3 (.box 34 6 (.t 1)), qq 4 (.mv (.c (.bool false)))]) (.seq (.seq (.dreg [qu 15 (.mv (.t 0)), qu 16 (.call 6 [(.t 15)]), qv 17 [1] (.load true 6 (.t 3)), qu 18 (.bslice 34 6 1 [(.bool false), e0, e0, (.bool false), e0, e0] [(0, 6, (.t 17))]), qu 19 (.call 6 [(.t 18)]), qu 20 (.bin .add (.t 16) (.t 19)), qu 21 (.bin .gtr (.t 20) (ci 0))]) (.cond (.t 21) (.seq (.reg [qq 22 (.call 7 []), qq 4 (.mv (.t 22))]) .ret) .skip)) (.seq (.reg [qq 24 (.mv (.t 0)), qq 25 (.call 8 [(.t 24)]), qq 23 (.mv (.t 25)), qq 26 (.ext (.t 23) 0), qq 27 (.ext (.t 23) 1), qq 5 (.mv (.t 26)), qq 6 (.mv (.t 27))]) (.seq (.seq (.reg [qq 28 (.mv (.t 6)), qq 29 (.bin .neq (.t 28) (ci 0))]) (.cond (.t 29) (.seq (.reg [qq 30 (.call 7 []), qq 4 (.mv (.t 30))]) .ret) .skip)) (.seq (.reg [qq 7 (.mv (.c (.bool true))), qq 8 (.mv (.c (.bool false)))]) (.seq (.seq (.reg [qq 31 (.mv (.t 5)), qq 32 (.lensl (.t 31)), qq 33 (.mv (ci 0))]) (.block 0 (.loop (.seq (.reg [qq 34 (.bin .lss (.t 33) (.t 32))]) (.seq (.cond (.t 34) .skip (.exit 0)) (.seq (.block 1 (.seq (.reg [qq 35 (.mv (.t 33)), qq 9 (.mv (.t 35))]) (.seq (.dreg [qu 36 (.mv (.t 5)), qu 37 (.mv (.t 9)), qu 38 (.ixsl 6 (.t 36) (.t 37)), qu 39 (.load true 6 (.t 38)), qu 40 (.mv (.t 5)), qu 41 (.mv (.t 9)), qu 42 (.bin .add (.t 41) (ci 1)), qu 43 (.mv (.t 5)), qu 44 (.lensl (.t 43)), qu 45 (.bin .rem (.t 42) (.t 44)), qu 46 (.ixsl 6 (.t 40) (.t 45)), qu 47 (.load true 6 (.t 46)), qu 10 (.alloc 34 6 [(.bool false), e0, e0, (.bool false), e0, e0]), qu 11 (.alloc 34 6 [(.bool false), e0, e0, (.bool false), e0, e0]), ⟨none, none, [1011], (.store 6 (.t 10) (.t 39))⟩, qm (.store 6 (.t 11) (.t 47))]) (.seq (.seq (.reg [qq 48 (.mv (.t 5)), qq 49 (.lensl (.t 48)), qq 50 (.mv (ci 0))]) (.block 2 (.loop (.seq (.reg [qq 51 (.bin .lss (.t 50) (.t 49))]) (.seq (.cond (.t 51) .skip (.exit 2)) (.seq (.block 3 (.seq (.reg [qq 52 (.mv (.t 50)), qq 12 (.mv (.t 52))]) (.seq (.dreg [qu 53 (.load true 6 (.t 10)), qu 54 (.load true 6 (.t 11)), qu 55 (.mv (.t 5)), qu 56 (.mv (.t 12)), qu 57 (.ixsl 6 (.t 55) (.t 56)), qu 58 (.load true 6 (.t 57)), qu 59 (.call 17 [(.t 53), (.t 54), (.t 58)]), qu 60 (.call 16 [(.t 59)]), qu 61 (.bin .lss (.t 60) (ci 0))]) (.cond (.t 61) (.seq (.reg [qq 62 (.call 7 []), qq 4 (.mv (.t 62))]) .ret) .skip)))) (.reg [qq 63 (.bin .add (.t 50) (ci 1)), qq 50 (.mv (.t 63))]))))))) (.seq (.reg [qq 64 (.load true 6 (.t 10)), qq 65 (.load true 6 (.t 11)), qq 66 (.load true 6 (.t 3)), qq 67 (.call 17 [(.t 64), (.t 65), (.t 66)]), qq 68 (.call 16 [(.t 67)]), qq 13 (.mv (.t 68))]) (.seq (.reg [qq 69 (.mv (.t 7)), qq 70 (.mv (.t 69)), ⟨(some 71), (some (70, true)), (.mv (.t 13))⟩, ⟨(some 72), (some (70, true)), (.bin .gtr (.t 71) (ci 0))⟩, qq 73 (.pick (.t 70) (.t 72) (.c (.bool false))), qq 7 (.mv (.t 73))]) (.reg [qq 74 (.mv (.t 8)), qq 75 (.mv (.t 74)), ⟨(some 76), (some (75, false)), (.mv (.t 13))⟩, ⟨(some 77), (some (75, false)), (.bin .lss (.t 76) (ci 0))⟩, qq 78 (.pick (.t 75) (.c (.bool true)) (.t 77)), qq 8 (.mv (.t 78))]))))))) (.reg [qq 79 (.bin .add (.t 33) (ci 1)), qq 33 (.mv (.t 79))]))))))) (.seq (.reg [qq 80 (.mv (.t 5)), qq 81 (.load true 6 (.t 3)), qq 82 (.call 14 [(.t 80), (.t 81)]), qq 14 (.mv (.t 82))]) (.seq (.reg [qq 83 (.mv (.t 14)), qq 84 (.bin .eql (.t 83) (ci 1)), qq 85 (.mv (.t 7)), qq 86 (.eqb false (.t 84) (.t 85)), qq 87 (.mv (.t 86)), ⟨(some 88), (some (87, true)), (.mv (.t 14))⟩, ⟨(some 89), (some (87, true)), (.bin .eql (.t 88) (ci (-1)))⟩, ⟨(some 90), (some (87, true)), (.mv (.t 8))⟩, ⟨(some 91), (some (87, true)), (.eqb false (.t 89) (.t 90))⟩, qq 92 (.pick (.t 87) (.t 91) (.c (.bool false))), qq 93 (.mv (.t 92)), ⟨(some 94), (some (93, true)), (.call 7 [])⟩, qq 95 (.pick (.t 93) (.t 94) (.c (.bool false))), qq 4 (.mv (.t 95))]) .ret))))))))
theorem tr5 : trFun Tryz.prog 5 = some ⟨96, [.t 4], c5⟩ := by kernel_rfl
set_option maxHeartbeats 32000000 in
theorem ok_L26cx : SpecOK Tryz.prog 5 (rdS spL26cx) := by
  refine rd_run (env_cons ok_great26 (env_cons ok_awake26 (env_cons ok_norm2 (env_cons ok_left (env_cons ok_qSign (env_cons ok_cls2 (env_nil _))))))) mixed tr5 ?_ ?_
  · intro args h h' v hle e
    unfold spL26cx at e ⊢
    split at e
    · split at e
      · rename_i l x hb hc
        simp only [decPts_mono hle hb, hc]; exact e
      · cases e
    · cases e
  intro args v h N hG hN
  unfold spL26cx at hG
  split at hG
  case h_2 => cases hG
  rename_i sl cx
  split at hG
  case h_2 => cases hG
  rename_i l x hx hc
  split at hG
  case isFalse => cases hG
  rename_i hm
  cases hG
  obtain ⟨a, cc, rfl⟩ := decPts_sl hx
  have ecx := dec2_pcl hc
  subst ecx
  clear hc
  refine ⟨rfl, by simp, ?_⟩
  have nbN : ∀ q, q < N → ∀ j, (N + j = q) = False := fun q hq j => eq_false (by omega)
  have gr1 : ∀ b0, spGreat26 [.slice a l.length cc] ((N + 0, b0) :: h) = some (.int .i64 (if smallP l then 0 else 1)) := fun b0 => great26_of (ext_pts hN hx (fun k hk => by simp only [hget, nbN k hk, if_false])) hm
  have gr2 : ∀ tl, spGreat26 [.slice (some ⟨N + 1, 0, none⟩) 1 1] ((N + 1, some ⟨34, 6, true, pcl x⟩) :: tl) = some (.int .i64 (if smallP [x] then 0 else 1)) := fun tl => great26_of (l := [x]) (pts_list (hget_cons_same _ _ _) rfl) (show (1 : Nat) ≤ 9223372036854775807 by omega)
  have w0 : IntKind.i64.wrap ((0 : Int) + 0) = 0 := by rw [i64_in _ (by omega)]; rfl
  have w1 : IntKind.i64.wrap ((0 : Int) + 1) = 1 := by rw [i64_in _ (by omega)]; rfl
  have w2 : IntKind.i64.wrap ((1 : Int) + 0) = 1 := by rw [i64_in _ (by omega)]; rfl
  have w3 : IntKind.i64.wrap ((1 : Int) + 1) = 2 := by rw [i64_in _ (by omega)]; rfl
  have z0 : ((0 : Int) > 0) = False := eq_false (by omega)
  have z1 : ((1 : Int) > 0) = True := eq_true (by omega)
  have z2 : ((2 : Int) > 0) = True := eq_true (by omega)
  by_cases s12 : smallP l ∧ smallP [x]
  case neg =>
    by_cases s1 : smallP l
    · have s2 : ¬ smallP [x] := fun s => s12 ⟨s1, s⟩
      rw [if_pos s1] at gr1
      rw [if_neg s2] at gr2
      simp only [c5, G0, Nat.reduceAdd]
      simp only [↓R0, R1, simprocAttr, -Int.reduceAbs, rdS, gr1, gr2, w0, w1, w2, w3, z0, z1, z2, awake_of, pcl_len, pcl_ok, pcl_tk, pp_st, setR_length, List.length_cons, List.length_nil, Fin, isEnd, resL, res1]
      exact ⟨_, rfl, rfl, fun k hk => by simp only [ne_nb hk, if_false]⟩
    · rw [if_neg s1] at gr1
      by_cases s2 : smallP [x]
      · rw [if_pos s2] at gr2
        simp only [c5, G0, Nat.reduceAdd]
        simp only [↓R0, R1, simprocAttr, -Int.reduceAbs, rdS, gr1, gr2, w0, w1, w2, w3, z0, z1, z2, awake_of, pcl_len, pcl_ok, pcl_tk, pp_st, setR_length, List.length_cons, List.length_nil, Fin, isEnd, resL, res1]
        exact ⟨_, rfl, rfl, fun k hk => by simp only [ne_nb hk, if_false]⟩
      · rw [if_neg s2] at gr2
        simp only [c5, G0, Nat.reduceAdd]
        simp only [↓R0, R1, simprocAttr, -Int.reduceAbs, rdS, gr1, gr2, w0, w1, w2, w3, z0, z1, z2, awake_of, pcl_len, pcl_ok, pcl_tk, pp_st, setR_length, List.length_cons, List.length_nil, Fin, isEnd, resL, res1]
        exact ⟨_, rfl, rfl, fun k hk => by simp only [ne_nb hk, if_false]⟩
  obtain ⟨s1, s2⟩ := s12
  rw [if_pos s1] at gr1
  rw [if_pos s2] at gr2
  have sx : pok 6 x := s2.2 x (by simp)
  have l16 : l.length ≤ 16 := s1.1
  have okl : ptsN l := s1.n
  have dn : ∀ a b : Int, decide (a ≠ b) = !decide (a = b) := fun a b => by by_cases h : a = b <;> simp [h]
  have hx0 : decPts ((N + 1, some ⟨34, 6, true, pcl x⟩) :: (N + 0, some ⟨34, 6, true, pcl x⟩) :: h) (.slice a l.length cc) = some l := ext_pts hN hx (fun k hk => by simp only [hget, nbN k hk, if_false])
  by_cases z : (nmOut (pvs l)).1 = 0
  case neg =>
    obtain ⟨a_1, D_1, mm_1, kc_1, gq_1, hV_1⟩ := norm_call (b := N + 2) hx0 okl
    obtain ⟨M, hM⟩ : ∃ x, x = N + 2 + mm_1 := ⟨_, rfl⟩
    have eM : N + 2 + mm_1 = M + 0 := by omega
    rw [show N + 2 + mm_1 = M by omega] at hV_1
    generalize eHP_1 : D_1 ++ ((N + 1, some ⟨34, 6, true, pcl x⟩) :: (N + 0, some ⟨34, 6, true, pcl x⟩) :: h) = HP_1 at *
    have ac_1 : ∀ (d : Nat) (tm : List (Nat × Value)) (V : Value) (K : St → Prop), @aft (some d) (some (V, D_1, mm_1)) ⟨(⟨tm, (N + 1, some ⟨34, 6, true, pcl x⟩) :: (N + 0, some ⟨34, 6, true, pcl x⟩) :: h, N + 2⟩, K)⟩ = K ⟨(d, V) :: tm, HP_1, M + 0⟩ := fun _ _ _ _ => by rw [← eM, ← eHP_1]; exact propext Iff.rfl
    have hh : ExtL N h HP_1 := fun q hq => by
      rw [gq_1 q (by omega)]
      simp only [hget, nbN q hq, if_false]
    have z' := eq_false z
    simp only [c5, G0, Nat.reduceAdd]
    simp only [↓R0, R1, simprocAttr, -Int.reduceAbs, rdS, gr1, gr2, w0, w1, w2, w3, z0, z1, z2, kc_1, ac_1, dn, z', awake_of, pcl_len, pcl_ok, pcl_tk, pp_st, setR_length, List.length_cons, List.length_nil, Bool.not_true, Bool.not_false, Fin, isEnd, resL, res1]
    exact ⟨_, rfl, rfl, hh⟩
  obtain ⟨cs, cb⟩ := nm_simp z
  have n3 := cs.n3
  have okc := nm_can s1
  have kc := norm_call2 (b := N + 2) hx0 okl (fun e => by rw [e] at n3; simp at n3)
  rw [Nat.add_zero (N + 2)] at kc
  have z' := eq_true z
  have clen := okc.1
  rw [List.length_map] at clen
  generalize nmOut (pvs l) = r at *
  obtain ⟨rc, C⟩ := r
  simp only at kc z z' cs cb n3 okc clen
  subst z
  have pl := ptC_len (C.map pqo)
  rw [List.length_map] at pl
  have okO : ∀ i, i < C.length → pok 1000000 (pqAt (C.map pqo) i) := fun i hi => okc.ok.2 _ (pqAt_mem (by rw [List.length_map]; exact hi))
  have pv : ∀ i, i < C.length → pv2 (pqAt (C.map pqo) i) = ptv C i := fun i hi => by rw [pq_map hi, pqo_v]
  have sx' : pok 1000000 x := sx.le (by omega)
  simp only [c5, G0, Nat.reduceAdd]
  simp only [↓R0, R1, simprocAttr, -Int.reduceAbs, rdS, gr1, gr2, w0, w1, w2, w3, z0, z1, z2, kc, dn, pcl_len, pcl_ok, pcl_tk, pp_st, setR_length, List.length_cons, List.length_nil, Bool.not_true, Bool.not_false]
  clear w0 w1 w2 w3
  refine lp_parts (fun c tm hp nx => ∃ (i M : Nat), c + i = C.length ∧ tmget tm 3 = .pointer (some ⟨N + 0, 0, none⟩) ∧ tmget tm 5 = .slice (some ⟨N + 2, 0, none⟩) C.length C.length ∧ tmget tm 7 = .bool (lfB C (pv2 x) i) ∧ tmget tm 8 = .bool (rtB C (pv2 x) i) ∧ tmget tm 32 = .int .i64 C.length ∧ tmget tm 33 = .int .i64 (i : Nat) ∧
      hget hp (N + 0) = some ⟨34, 6, true, pcl x⟩ ∧ hget hp (N + 2) = some ⟨34, 6, false, ptC (C.map pqo)⟩ ∧ (∀ j, j < i → ∀ k, k < C.length → 0 ≤ cr (vt C j) (vt C (j + 1)) (ptv C k)) ∧ ExtL N h hp ∧ N + 3 ≤ M ∧ nx = M + 0) ?_ C.length
    ⟨0, N + 3, by omega, ?_, ?_, ?_, ?_, ?_, ?_, ?_, ?_, fun j hj => absurd hj (Nat.not_lt_zero j), ?_, Nat.le_refl _, rfl⟩
  rotate_left
  all_goals first | (simp only [↓R0, R1, simprocAttr, -Int.reduceAbs]; done) | (simp only [↓R0, R1, simprocAttr, -Int.reduceAbs]; rfl) | skip
  · intro q hq
    have nb := nbN q hq
    simp only [↓R0, R1, simprocAttr, -Int.reduceAbs, nb]
  rintro c tm hp nx ⟨i, M, hc, t3, t5, t7, t8, t32, t33, b0, b2, hcr, hh, hM, hnx⟩
  rw [hnx]
  clear hnx nx
  have nbq : ∀ q, q < N → ∀ d, (M + d = q) = False := fun q hq d => eq_false (by omega)
  have m0 : ∀ d, (M + d = N + 0) = False := fun d => eq_false (by omega)
  have m1 : ∀ d, (M + d = N) = False := fun d => eq_false (by omega)
  have m2 : ∀ d, (M + d = N + 2) = False := fun d => eq_false (by omega)
  have m3 : ∀ d, (N + 2 = M + d) = False := fun d => eq_false (by omega)
  by_cases c1 : i < C.length
  case neg =>
    have e : i = C.length := by omega
    subst e
    have c1' : ((C.length : Int) < (C.length : Int)) = False := eq_false (by omega)
    have cl := cls2_of (pts_list b2 (List.length_map _)) okc.ok sx'
    rw [map_pqo] at cl
    obtain ⟨e1, e2⟩ := cv_law cs cb (fun j hj k hk => hcr j (by omega) k hk) (pv2 x)
    rw [← e1] at t7
    rw [← e2] at t8
    generalize clsP C (pv2 x) = CLS at *
    generalize hd1 : decide (CLS = 1) = D1 at *
    generalize hd2 : decide (CLS = -1) = D2 at *
    cases D1 <;> cases D2
    all_goals
      simp only [↓R0, R1, simprocAttr, -Int.reduceAbs, rdS, t3, t5, t7, t8, t32, t33, c1', b0, b2, cl, hd1, hd2, awake_of, pcl_len, pcl_ok, pcl_tk, decide_true, Fin, isEnd, resL, res1]
      exact ⟨_, rfl, rfl, hh⟩
  have c1' : ((i : Int) < (C.length : Int)) = True := eq_true (by omega)
  have w1 : IntKind.i64.wrap ((i : Int) + 1) = ((i + 1 : Nat) : Int) := by rw [i64_in _ (by omega)]; omega
  have hm := Nat.mod_lt (i + 1) (show C.length > 0 by omega)
  have tm1 : Int.tmod ((i + 1 : Nat) : Int) (C.length : Int) = (((i + 1) % C.length : Nat) : Int) := rfl
  have y1 : ((C.length : Int) = 0) = False := eq_false (by omega)
  have y2 : (C.length = 0) = False := eq_false (by omega)
  have hm' : ((((i + 1) % C.length : Nat) : Int) < (C.length : Int)) = True := eq_true (by omega)
  have a1 := ptC_at (C.map pqo) i (by rw [List.length_map]; omega)
  have a2 := ptC_at (C.map pqo) ((i + 1) % C.length) (by rw [List.length_map]; omega)
  have d1 : (i * 6 + 6 ≤ C.length * 6) = True := eq_true (by omega)
  have d2 : ((i + 1) % C.length * 6 + 6 ≤ C.length * 6) = True := eq_true (by omega)
  have oA := okO i c1
  have oB := okO _ hm
  have vA : pv2 (pqAt (C.map pqo) i) = vt C i := by rw [pv i c1, vt_lt c1]
  have vB : pv2 (pqAt (C.map pqo) ((i + 1) % C.length)) = vt C (i + 1) := pv _ hm
  generalize pqAt (C.map pqo) i = A at *
  generalize pqAt (C.map pqo) ((i + 1) % C.length) = B at *
  generalize (i + 1) % C.length = m at *
  simp only [↓R0, R1, simprocAttr, -Int.reduceAbs, t3, t5, t7, t8, t32, t33, c1, c1', b0, b2, pl, a1, a2, d1, d2, hm, hm', tm1, y1, y2, w1, m0, m1, m2, m3, pcl_len, pcl_ok, pcl_tk, pp_st]
  refine lp_parts (fun d tm hp3 nx => ∃ (k : Nat), d + k = C.length ∧ tmget tm 3 = .pointer (some ⟨N + 0, 0, none⟩) ∧ tmget tm 5 = .slice (some ⟨N + 2, 0, none⟩) C.length C.length ∧ tmget tm 7 = .bool (lfB C (pv2 x) i) ∧ tmget tm 8 = .bool (rtB C (pv2 x) i) ∧ tmget tm 32 = .int .i64 C.length ∧ tmget tm 33 = .int .i64 (i : Nat) ∧
      tmget tm 10 = .pointer (some ⟨M + 0, 0, none⟩) ∧ tmget tm 11 = .pointer (some ⟨M + 1, 0, none⟩) ∧ tmget tm 49 = .int .i64 C.length ∧ tmget tm 50 = .int .i64 (k : Nat) ∧
      hget hp3 (N + 0) = some ⟨34, 6, true, pcl x⟩ ∧ hget hp3 (N + 2) = some ⟨34, 6, false, ptC (C.map pqo)⟩ ∧ hget hp3 (M + 0) = some ⟨34, 6, true, pcl A⟩ ∧ hget hp3 (M + 1) = some ⟨34, 6, true, pcl B⟩ ∧ (∀ j, j < k → 0 ≤ cr (vt C i) (vt C (i + 1)) (ptv C j)) ∧ ExtL N h hp3 ∧ nx = M + 2) ?_ C.length
    ⟨0, by omega, ?_, ?_, ?_, ?_, ?_, ?_, ?_, ?_, ?_, ?_, ?_, ?_, ?_, ?_, fun j hj => absurd hj (Nat.not_lt_zero j), ?_, rfl⟩
  rotate_left
  all_goals first | (simp only [↓R0, R1, simprocAttr, -Int.reduceAbs, t3, t5, t7, t8, t32, t33, b0, b2, m0, m1, m2, m3]; done) | (simp only [↓R0, R1, simprocAttr, -Int.reduceAbs, t3, t5, t7, t8, t32, t33, b0, b2, m0, m1, m2, m3]; rfl) | skip
  · intro q hq
    have nb := nbq q hq
    simp only [↓R0, R1, simprocAttr, -Int.reduceAbs, nb]
    exact hh q hq
  clear t3 t5 t7 t8 t32 t33 b0 b2
  rintro d tm hp3 nx ⟨k, hd, t3, t5, t7, t8, t32, t33, t10, t11, t49, t50, b0, b2, bA, bB, hj, hh3, hnx⟩
  rw [hnx]
  clear hnx nx
  by_cases e1 : k < C.length
  case pos =>
    have e1' : ((k : Int) < (C.length : Int)) = True := eq_true (by omega)
    have wk : IntKind.i64.wrap ((k : Int) + 1) = ((k + 1 : Nat) : Int) := by rw [i64_in _ (by omega)]; omega
    have a3 := ptC_at (C.map pqo) k (by rw [List.length_map]; omega)
    have d3 : (k * 6 + 6 ≤ C.length * 6) = True := eq_true (by omega)
    have oK := okO k e1
    have vK := pv k e1
    have lf := left_of oA oB oK
    have sg := qsign_of (cr_RB oA oB oK) (by omega)
    rw [vA, vB, vK] at lf sg
    generalize pqAt (C.map pqo) k = K at *
    by_cases neg : cr (vt C i) (vt C (i + 1)) (ptv C k) < 0
    · have g' : (Go.Eng.sg (cr (vt C i) (vt C (i + 1)) (ptv C k)) < 0) = True := eq_true (sg_lt.2 neg)
      simp only [↓R0, R1, simprocAttr, -Int.reduceAbs, rdS, t3, t5, t7, t8, t32, t33, t10, t11, t49, t50, e1, e1', b0, b2, bA, bB, pl, a3, d3, lf, sg, g', awake_of, pcl_len, pcl_ok, pcl_tk, q_len, q_ok, q_tk, Fin, isEnd, resL, res1]
      exact ⟨_, rfl, rfl, hh3⟩
    · have g' : (Go.Eng.sg (cr (vt C i) (vt C (i + 1)) (ptv C k)) < 0) = False := eq_false (fun h => neg (sg_lt.1 h))
      simp only [↓R0, R1, simprocAttr, -Int.reduceAbs, rdS, t3, t5, t7, t8, t32, t33, t10, t11, t49, t50, e1, e1', b0, b2, bA, bB, pl, a3, d3, lf, sg, g', wk, pcl_len, pcl_ok, pcl_tk, q_len, q_ok, q_tk]
      refine ⟨d - 1, by omega, k + 1, by omega, rfl, fun j hjk => ?_, hh3⟩
      by_cases e : j = k
      · rw [e]; grind
      · exact hj j (by omega)
  have e : k = C.length := by omega
  subst e
  have e1' : ((C.length : Int) < (C.length : Int)) = False := eq_false (by omega)
  have lf := left_of oA oB sx'
  have sg := qsign_of (cr_RB oA oB sx') (by omega)
  rw [vA, vB] at lf sg
  have eL : lfB C (pv2 x) (i + 1) = (lfB C (pv2 x) i && decide (0 < cr (vt C i) (vt C (i + 1)) (pv2 x))) := rfl
  have eR : rtB C (pv2 x) (i + 1) = (rtB C (pv2 x) i || decide (cr (vt C i) (vt C (i + 1)) (pv2 x) < 0)) := rfl
  have gT : ∀ q : Rat, (Go.Eng.sg q > 0) = (0 < q) := fun q => propext sg_gt
  have gT' : ∀ q : Rat, (Go.Eng.sg q < 0) = (q < 0) := fun q => propext sg_lt
  have hcr' : ∀ j, j < i + 1 → ∀ k, k < C.length → 0 ≤ cr (vt C j) (vt C (j + 1)) (ptv C k) := fun j h1 k hk => by
    by_cases e : j = i
    · rw [e]; exact hj k hk
    · exact hcr j (by omega) k hk
  generalize RQ.of (cr (vt C i) (vt C (i + 1)) (pv2 x)) = QC at *
  generalize cr (vt C i) (vt C (i + 1)) (pv2 x) = CR at *
  generalize hLB : lfB C (pv2 x) i = LB at *
  generalize hRB : rtB C (pv2 x) i = RB at *
  generalize hE1 : decide (0 < CR) = E1 at *
  generalize hE2 : decide (CR < 0) = E2 at *
  cases LB <;> cases RB <;> cases E1 <;> cases E2
  all_goals
    simp only [↓R0, R1, simprocAttr, -Int.reduceAbs, t3, t5, t7, t8, t32, t33, t10, t11, t49, t50, e1, e1', b0, b2, bA, bB, lf, sg, gT, gT', hE1, hE2, w1, pcl_len, pcl_ok, pcl_tk, q_len, q_ok, q_tk]
    exact ⟨c - 1, by omega, i + 1, M + 2, by omega, by rw [eL]; rfl, by rw [eR]; rfl, rfl, hcr', hh3, by omega, rfl⟩
end Go.Eng
end
section
set_option linter.unusedVariables false
set_option linter.unusedSimpArgs false
set_option linter.unusedSectionVars false
namespace Go.Eng.K
open Go.Eng
inductive Ki where
  | b | i (k : IntKind) | s
def kiFs (ty : TypeId → Option (List Ki)) (P : Program) : List Field → Nat → Option (List Ki)
  | [], _ => some []
  | f :: r, off =>
    if f.name ≠ "_" ∧ f.offset = off then
      match ty f.type, szOf P f.type with
      | some ks, some n => if ks.length = n then (kiFs ty P r (off + n)).map (ks ++ ·) else none
      | _, _ => none
    else none
def kiTy (P : Program) : Nat → TypeId → Option (List Ki)
  | 0, _ => none
  | d + 1, t =>
    match P.underlying t with
    | some .bool => some [.b]
    | some (.int k) => some [.i k]
    | some .string => some [.s]
    | some (.struct fs) => if P.stoodInHeld t then none else kiFs (kiTy P d) P fs.toList 0
    | some (.array len e) => match kiTy P d e, szOf P e with
      | some ks, some n => if ks.length = n then some (List.replicate len ks).flatten else none
      | _, _ => none
    | _ => none
def kmatch : List Ki → List Value → Prop
  | [], [] => True
  | .b :: ks, .bool _ :: r => kmatch ks r
  | .i k :: ks, .int k' n :: r => (k' = k ∧ (Lit.int k n).wf = true) ∧ kmatch ks r
  | .s :: ks, .string s :: r => s.size ≤ maxLen ∧ kmatch ks r
  | _, _ => False
theorem kmatch_append : ∀ {ks ks' : List Ki} {cs cs' : List Value}, kmatch ks cs → kmatch ks' cs' → kmatch (ks ++ ks') (cs ++ cs')
  | [], _, [], _, _, h => h
  | [], _, _ :: _, _, h, _ => h.elim
  | .b :: ks, ks', cs, cs', h, h' => by
    match cs, h with
    | .bool _ :: r, h => exact kmatch_append (ks := ks) h h'
  | .i k :: ks, ks', cs, cs', h, h' => by
    match cs, h with
    | .int _ _ :: r, h => exact ⟨h.1, kmatch_append (ks := ks) h.2 h'⟩
  | .s :: ks, ks', cs, cs', h, h' => by
    match cs, h with
    | .string _ :: r, h => exact ⟨h.1, kmatch_append (ks := ks) h.2 h'⟩
section
variable {H : Type} {enc : TypeId × Value → H} {P : Program}
theorem cellsOf_sz {t : TypeId} {n : Nat} (h : szOf P t = some n) : P.cellsOf t = n := by
  unfold Program.cellsOf; unfold szOf at h; rw [h]; rfl
def Plain (P : Program) (enc : TypeId × Value → H) (fuel : Nat) (t : TypeId) (ks : List Ki) : Prop :=
  ∀ (w : World) (base : Nat) (spare : Nat → Bool) (held : Bool) (cs : List Value) (x : DataW H × List MemPlace), DataW.trod enc P w base spare held fuel t cs = some x →
    kmatch ks cs ∧ x.2 = [] ∧ ∀ w' base' spare' held', DataW.trod enc P w' base' spare' held' fuel t cs = some x
theorem plain_fields {fuel : Nat} {ty : TypeId → Option (List Ki)} (hty : ∀ t ks n, ty t = some ks → szOf P t = some n → ks.length = n → Plain P enc fuel t ks) :
    ∀ (fs : List Field) (off : Nat) (ks : List Ki), kiFs ty P fs off = some ks → ∀ (w : World) (base : Nat) (spare : Nat → Bool) (held : Bool) (cs : List Value) (xs : List (DataW H × List MemPlace)),
      (fs.mapM fun f => DataW.trod enc P w base spare held fuel f.type ((cs.drop f.offset).take (P.cellsOf f.type))) = some xs → cs.length = off + ks.length →
      kmatch ks (cs.drop off) ∧ xs.flatMap (·.2) = [] ∧ ∀ w' base' spare' held', (fs.mapM fun f => DataW.trod enc P w' base' spare' held' fuel f.type ((cs.drop f.offset).take (P.cellsOf f.type))) = some xs
  | [], off, ks, h, w, base, spare, held, cs, xs, hm, hl => by
    simp only [kiFs, Option.some.injEq] at h
    subst h
    simp only [List.mapM_nil, Option.pure_def, Option.some.injEq] at hm
    subst hm
    simp only [List.length_nil, Nat.add_zero] at hl
    rw [List.drop_eq_nil_of_le (by omega)]
    exact ⟨trivial, rfl, fun _ _ _ _ => rfl⟩
  | f :: r, off, ks, h, w, base, spare, held, cs, xs, hm, hl => by
    simp only [kiFs] at h
    split at h
    case isFalse => cases h
    rename_i hc
    obtain ⟨_, hoff⟩ := hc
    split at h
    case h_2 => cases h
    rename_i ks0 n hk hn
    split at h
    case isFalse => cases h
    rename_i hlen
    rw [Option.map_eq_some_iff] at h
    obtain ⟨ks1, h1, rfl⟩ := h
    have hsz := cellsOf_sz hn
    simp only [List.mapM_cons, Option.bind_eq_bind, Option.bind_eq_some_iff, Option.pure_def, Option.some.injEq] at hm
    obtain ⟨y, hy, ys, hys, rfl⟩ := hm
    have hp := hty f.type ks0 n hk hn hlen w base spare held _ y hy
    obtain ⟨p1, p2, p3⟩ := hp
    simp only [List.length_append] at hl
    obtain ⟨q1, q2, q3⟩ := plain_fields hty r (off + n) ks1 h1 w base spare held cs ys hys (by omega)
    rw [hoff, hsz] at p1
    refine ⟨?_, ?_, ?_⟩
    · have e : cs.drop off = (cs.drop off).take n ++ cs.drop (off + n) := by
        rw [← List.drop_drop, List.take_append_drop]
      rw [e]
      exact kmatch_append p1 q1
    · simp only [List.flatMap_cons, p2, q2, List.nil_append]
    · intro w' base' spare' held'
      simp only [List.mapM_cons, Option.bind_eq_bind, Option.bind_eq_some_iff, Option.pure_def, Option.some.injEq]
      exact ⟨y, p3 w' base' spare' held', ys, q3 w' base' spare' held', rfl⟩
theorem plain_elems {fuel : Nat} {e : TypeId} {ks : List Ki} {n : Nat} (hn : szOf P e = some n) (hl : ks.length = n) (he : Plain P enc fuel e ks) :
    ∀ (m i0 : Nat) (w : World) (base : Nat) (spare : Nat → Bool) (held : Bool) (cs : List Value) (xs : List (DataW H × List MemPlace)),
      ((List.range' i0 m).mapM fun i => DataW.trod enc P w base spare held fuel e ((cs.drop (i * P.cellsOf e)).take (P.cellsOf e))) = some xs → cs.length = (i0 + m) * n →
      kmatch (List.replicate m ks).flatten (cs.drop (i0 * n)) ∧ xs.flatMap (·.2) = [] ∧ ∀ w' base' spare' held', ((List.range' i0 m).mapM fun i => DataW.trod enc P w' base' spare' held' fuel e ((cs.drop (i * P.cellsOf e)).take (P.cellsOf e))) = some xs
  | 0, i0, w, base, spare, held, cs, xs, hm, hlen => by
    simp only [List.range'_zero, List.mapM_nil, Option.pure_def, Option.some.injEq] at hm
    subst hm
    simp only [Nat.add_zero] at hlen
    rw [List.drop_eq_nil_of_le (by omega)]
    exact ⟨trivial, rfl, fun _ _ _ _ => by simp⟩
  | m + 1, i0, w, base, spare, held, cs, xs, hm, hlen => by
    have hsz := cellsOf_sz hn
    simp only [List.range'_succ, List.mapM_cons, Option.bind_eq_bind, Option.bind_eq_some_iff, Option.pure_def, Option.some.injEq] at hm
    obtain ⟨y, hy, ys, hys, rfl⟩ := hm
    obtain ⟨p1, p2, p3⟩ := he w base spare held _ y hy
    obtain ⟨q1, q2, q3⟩ := plain_elems hn hl he m (i0 + 1) w base spare held cs ys hys (by rw [hlen]; congr 1; omega)
    rw [hsz] at p1
    refine ⟨?_, ?_, ?_⟩
    · rw [List.replicate_succ, List.flatten_cons]
      have e : cs.drop (i0 * n) = (cs.drop (i0 * n)).take n ++ cs.drop ((i0 + 1) * n) := by
        rw [Nat.succ_mul, ← List.drop_drop, List.take_append_drop]
      rw [e]
      exact kmatch_append p1 q1
    · simp only [List.flatMap_cons, p2, q2, List.nil_append]
    · intro w' base' spare' held'
      simp only [List.range'_succ, List.mapM_cons, Option.bind_eq_bind, Option.bind_eq_some_iff, Option.pure_def, Option.some.injEq]
      exact ⟨y, p3 w' base' spare' held', ys, q3 w' base' spare' held', rfl⟩
theorem plain_ty : ∀ (fuel d : Nat) (t : TypeId) (ks : List Ki) (n : Nat), kiTy P d t = some ks → szOf P t = some n → ks.length = n → Plain P enc fuel t ks
  | 0, d, t, ks, n, h, hn, hl => by intro w base spare held cs x hx; simp [DataW.trod] at hx
  | fuel + 1, 0, t, ks, n, h, hn, hl => by simp [kiTy] at h
  | fuel + 1, d + 1, t, ks, n, h, hn, hl => by
    intro w base spare held cs x hx
    unfold kiTy at h
    unfold DataW.trod at hx ⊢
    split at h
    · rename_i hu
      cases h
      rw [hu] at hx ⊢
      match cs, hx with
      | [.bool b], hx => simp only [Option.some.injEq] at hx; subst hx; exact ⟨trivial, rfl, fun _ _ _ _ => rfl⟩
    · rename_i k hu
      cases h
      rw [hu] at hx ⊢
      match cs, hx with
      | [.int k' m], hx =>
        simp only at hx
        split at hx
        · rename_i hc
          simp only [Option.some.injEq] at hx; subst hx
          exact ⟨⟨hc, trivial⟩, rfl, fun _ _ _ _ => by simp only; rw [if_pos hc]⟩
        · cases hx
    · rename_i hu
      cases h
      rw [hu] at hx ⊢
      match cs, hx with
      | [.string s], hx =>
        simp only at hx
        split at hx
        · rename_i hc
          simp only [Option.some.injEq] at hx; subst hx
          exact ⟨⟨hc, trivial⟩, rfl, fun _ _ _ _ => by simp only; rw [if_pos hc]⟩
        · cases hx
    · rename_i fs hu
      split at h
      · cases h
      rw [hu] at hx ⊢
      simp only at hx ⊢
      split at hx
      case isFalse => cases hx
      rename_i hlen
      rw [Option.map_eq_some_iff] at hx
      obtain ⟨xs, hxs, rfl⟩ := hx
      rw [cellsOf_sz hn, ← hl] at hlen
      obtain ⟨p1, p2, p3⟩ := plain_fields (fuel := fuel) (fun t ks n h1 h2 h3 => plain_ty fuel d t ks n h1 h2 h3) fs.toList 0 ks h w base spare held cs xs hxs (by omega)
      refine ⟨by simpa using p1, p2, fun w' base' spare' held' => ?_⟩
      rw [if_pos (by rw [cellsOf_sz hn, ← hl, hlen]), p3]; rfl
    · rename_i len e hu
      split at h
      case h_2 => cases h
      rename_i ks0 m hk hm
      split at h
      case isFalse => cases h
      rename_i hlm
      simp only [Option.some.injEq] at h
      subst h
      rw [hu] at hx ⊢
      simp only at hx ⊢
      split at hx
      case isFalse => cases hx
      rename_i hlen
      rw [Option.map_eq_some_iff] at hx
      obtain ⟨xs, hxs, rfl⟩ := hx
      rw [cellsOf_sz hn, ← hl] at hlen
      rw [List.range_eq_range'] at hxs
      have hfl : ((List.replicate len ks0).flatten).length = len * m := by rw [List.length_flatten]; simp [hlm]
      obtain ⟨p1, p2, p3⟩ := plain_elems hm hlm (plain_ty fuel d e ks0 m hk hm hlm) len 0 w base spare held cs xs hxs (by rw [hlen, hfl, Nat.zero_add])
      refine ⟨by simpa using p1, p2, fun w' base' spare' held' => ?_⟩
      rw [if_pos (by rw [cellsOf_sz hn, ← hl, hlen]), List.range_eq_range', p3]; rfl
    · cases h
theorem trod_plain {w : World} {t : TypeId} {v : Value} {d : DataW H} {ps : List MemPlace} {ks : List Ki} {n : Nat} {base : Nat} {spare : Nat → Bool} {held : Bool}
    (hf : kiTy P 20 t = some ks) (hs : szOf P t = some n) (hl : ks.length = n) (h : DataW.Trod enc P w base spare held t v d ps) :
    kmatch ks v.cells.toList ∧ ps = [] ∧ ∀ w' base' spare' held', DataW.Trod enc P w' base' spare' held' t v d ps := by
  obtain ⟨fuel, h⟩ := h
  obtain ⟨p1, p2, p3⟩ := plain_ty fuel 20 t ks n hf hs hl w base spare held _ _ h
  exact ⟨p1, p2, fun w' base' spare' held' => ⟨fuel, p3 w' base' spare' held'⟩⟩
end
theorem agg_of {v : Value} {cs : List Value} (h : v.cells.toList = cs) (h2 : 2 ≤ cs.length) : v = .agg ⟨cs⟩ := by
  rw [vcells_eq] at h
  cases v <;> simp [vcells] at h <;> subst h <;> first | rfl | simp at h2
end Go.Eng.K
end
section
set_option linter.unusedVariables false
set_option linter.unusedSimpArgs false
set_option linter.unusedSectionVars false
namespace Go.Eng.K
open Go.Eng
theorem vr_ex (β : Emb) : ∀ v : Value, ∃ a, VR β a v := by
  have key : ∀ (n : Nat) (v : Value), SizeOf.sizeOf v < n → ∃ a, VR β a v := by
    intro n
    induction n with
    | zero => intro v h; omega
    | succ n ih =>
      intro v h
      have list : ∀ l : List Value, (∀ x ∈ l, SizeOf.sizeOf x < n) → ∃ bs, VRs β bs l := by
        intro l
        induction l with
        | nil => intro _; exact ⟨[], .nil⟩
        | cons x r ihl =>
          intro hx
          obtain ⟨a, ha⟩ := ih x (hx x (List.mem_cons_self ..))
          obtain ⟨bs, hs⟩ := ihl (fun y hy => hx y (List.mem_cons_of_mem _ hy))
          exact ⟨a :: bs, .cons _ _ _ _ ha hs⟩
      by_cases ho : okCell v = true
      · exact ⟨.chan none, .junk none v ho⟩
      · match v, ho, h with
        | .agg ⟨l⟩, _, h =>
          obtain ⟨bs, hs⟩ := list l (fun x hx => by
            have := List.sizeOf_lt_of_mem hx
            simp only [Value.agg.sizeOf_spec, Array.mk.sizeOf_spec] at h
            omega)
          exact ⟨.agg ⟨bs⟩, .agg _ _ hs⟩
        | .tuple ⟨l⟩, _, h =>
          obtain ⟨bs, hs⟩ := list l (fun x hx => by
            have := List.sizeOf_lt_of_mem hx
            simp only [Value.tuple.sizeOf_spec, Array.mk.sizeOf_spec] at h
            omega)
          exact ⟨.tuple ⟨bs⟩, .tup _ _ hs⟩
  exact fun v => key (SizeOf.sizeOf v + 1) v (Nat.lt_succ_self _)
def mirE (W : World) : Emb := fun k => if k < W.heap.size then some ⟨k, 0, []⟩ else none
open Classical in
noncomputable def absV (W : World) (v : Value) : Value :=
  match v with
  | .slice (some a) len cap =>
    if len = 0 then .slice (some ⟨0, 0, some 1⟩) 0 0
    else if a.spot = none ∧ a.block < W.heap.size then .slice (some a) len cap
    else Classical.choose (vr_ex (mirE W) (.slice (some a) len cap))
  | v => if isBase v = true then v else Classical.choose (vr_ex (mirE W) v)
theorem absV_vr (W : World) (v : Value) : VR (mirE W) (absV W v) v := by
  unfold absV
  split
  · rename_i a len cap
    split
    · rename_i h; subst h; exact .sle _ _
    · split
      · rename_i h
        obtain ⟨b, off, s⟩ := a
        obtain ⟨h1, h2⟩ := h
        simp only at h1 h2
        subst h1
        exact VR.sl b off len cap ⟨b, 0, []⟩ (by unfold mirE; rw [if_pos h2])
      · exact Classical.choose_spec (vr_ex (mirE W) _)
  · split
    · rename_i h; exact .base _ h
    · exact Classical.choose_spec (vr_ex (mirE W) _)
theorem absV_base {W : World} {v : Value} (h : isBase v = true) : absV W v = v := by
  unfold absV
  split
  · simp [isBase] at h
  · rw [if_pos h]
theorem absV_map (W : World) : ∀ l : List Value, VRs (mirE W) (l.map (absV W)) l
  | [] => .nil
  | v :: r => .cons _ _ _ _ (absV_vr W v) (absV_map W r)
theorem absV_bases {W : World} : ∀ {l : List Value}, l.all isBase = true → l.map (absV W) = l
  | [], _ => rfl
  | v :: r, h => by
    simp only [List.all_cons, Bool.and_eq_true] at h
    rw [List.map_cons, absV_base h.1, absV_bases h.2]
noncomputable def mirB (W : World) (b : Nat) : Option Blk :=
  match W.heap[b]? with
  | some (.cells c elem _) => some ⟨elem, 0, true, c.toList.map (absV W)⟩
  | _ => none
noncomputable def mirror (W : World) : Heap := (List.range W.heap.size).map fun b => (b, mirB W b)
theorem hget_map {f : Nat → Option Blk} {k : Nat} : ∀ (l : List Nat), hget (l.map fun b => (b, f b)) k = if k ∈ l then f k else none
  | [] => rfl
  | b :: r => by
    simp only [List.map_cons, hget]
    by_cases e : b = k
    · subst e; simp
    · rw [if_neg e, hget_map r]
      simp [Ne.symm e]
theorem mir_get (W : World) (k : Nat) : hget (mirror W) k = mirB W k := by
  unfold mirror
  rw [hget_map]
  by_cases h : k < W.heap.size
  · rw [if_pos (List.mem_range.2 h)]
  · rw [if_neg (by simpa using h)]
    unfold mirB
    rw [Array.getElem?_eq_none (by omega)]
theorem mir_blk {W : World} {k : Nat} {blk : Blk} (h : hget (mirror W) k = some blk) : k < W.heap.size ∧ ∃ C fr, W.heap[k]? = some (.cells ⟨C⟩ blk.elem fr) ∧ blk.sz = 0 ∧ blk.cells = C.map (absV W) := by
  rw [mir_get] at h
  unfold mirB at h
  split at h
  · rename_i c elem fr hk
    cases h
    refine ⟨?_, c.toList, fr, hk, rfl, rfl⟩
    rcases Nat.lt_or_ge k W.heap.size with h | h
    · exact h
    · rw [Array.getElem?_eq_none h] at hk; cases hk
  · cases h
theorem mir_wr {W : World} {k : Nat} : ¬ wr (mirror W) k := fun ⟨blk, h1, h2⟩ => by
  obtain ⟨_, C, fr, _, h3, _⟩ := mir_blk h1
  exact h2 h3
theorem mir_rel (W : World) : Rel (mirE W) (mirror W) W := by
  refine ⟨fun k blk hk => ?_, fun k k' L L' _ b => absurd b mir_wr, fun k L h => ?_⟩
  · obtain ⟨h1, C, fr, h2, h3, h4⟩ := mir_blk hk
    refine ⟨⟨k, 0, []⟩, C, fr, by unfold mirE; rw [if_pos h1], by simpa using h2, fun h => absurd h3 h, by rw [h4]; exact absV_map W C, by simp, fun _ => rfl⟩
  · unfold mirE at h
    split at h
    · rename_i hk; cases h; exact hk
    · cases h
theorem mir_calls {P : Program} {f : Nat} {S : List Value → Heap → Nat → Option Out} (hS : SpecOK P f S) {W : World} {aargs args : List Value} {v : Value} (h : S aargs (mirror W) W.heap.size = some (v, [], 0))
    (ha : VRs (mirE W) aargs args) (hv : isBase v = true) :
    Calls P f ⟨args⟩ W fun e W' => e = .returned v ∧ W'.os = W.os ∧ W'.output = W.output ∧ ∀ b, b < W.heap.size → W'.heap[b]? = W.heap[b]? := by
  have h := hS.ok aargs (mirror W) W.heap.size (v, [], 0) h (mirE W) W args ha (mir_rel W) (fun k h1 h2 => by simp only at h2; omega)
    ⟨W.heap.size, fun k hk => by
      rcases Nat.lt_or_ge k W.heap.size with h | h
      · exact h
      · exact absurd (by unfold mirE; rw [if_neg (by omega)]) hk⟩
  refine h.mono ?_
  rintro e W' ⟨β', v', he, hvr, hrel, hfr, _⟩
  exact ⟨by rw [he, hvr.base_left hv], hfr.os, hfr.out, fun b hb => hfr.keep b hb (fun k L hk => absurd hk mir_wr)⟩
theorem kept_of {W W' : World} (h1 : W'.os = W.os) (h2 : W'.output = W.output) (h3 : ∀ b, b < W.heap.size → W'.heap[b]? = W.heap[b]?) : W.keptBut W' (fun _ => False) := by
  refine ⟨h1, h2, fun i hi => ?_⟩
  rw [h3 i hi]
  cases W.heap[i]? with
  | none => rfl
  | some o =>
    cases o with
    | cells c t fr => exact ⟨rfl, rfl, rfl, fun _ _ => rfl⟩
    | map es cl => exact .inr ⟨rfl, rfl⟩
    | _ => rfl
section
variable {H : Type} {enc : TypeId × Value → H} {P : Program}
theorem trodAll_old {W W' : World} (hs : ∀ b, b < W.heap.size → W'.heap[b]? = W.heap[b]?) {base : Nat} {sp : Nat → Bool} {held : Bool} :
    ∀ {ts : List TypeId} {vs : List Value} {ds : List (DataW H)} {ps : List MemPlace}, DataW.TrodAll enc P W base sp held ts vs ds ps → DataW.TrodAll enc P W' base sp held ts vs ds ps
  | [], [], [], _, h => h
  | t :: ts, v :: vs, d :: ds, ps, ⟨p, q, ⟨n, h1⟩, h2, e⟩ => by
    have lt := DataW.trod_lt n _ _ _ h1
    refine ⟨p, q, ⟨n, DataW.trod_carry n _ _ _ h1 (fun x hx => ?_)⟩, trodAll_old hs h2, e⟩
    have hb := lt x hx
    cases x with
    | cell b off => simp only [MemPlace.block] at hb; simp only [World.sameAt, World.cell?, hs b hb]
    | map b => simp only [MemPlace.block] at hb; simp only [World.sameAt, hs b hb]
  | [], [], _ :: _, _, h => h.elim
  | [], _ :: _, _, _, h => by cases h
  | _ :: _, [], _, _, h => by cases h
  | _ :: _, _ :: _, [], _, h => by cases h
theorem args_again {W W' : World} (hl : laidOutB P = true) (hm : mapsRowed P = true) (hz : ((List.range P.types.size).all fun t => match P.underlying t with | some (.slice e) => decide (0 < P.cellsOf e) | _ => true) = true)
    (hs : ∀ b, b < W.heap.size → W'.heap[b]? = W.heap[b]?) {ts : List TypeId} (ht : ts.all (fun t => decide (t < P.types.size)) = true) {vs : List Value} {ds : List (DataW H)} {ps : List MemPlace} (h : DataW.TrodAll enc P W 0 (fun _ => true) true ts vs ds ps) :
    DataW.TrodAll enc P W' 0 (fun b => decide (b < W.heap.size)) true ts vs ds ps := by
  refine DataW.TrodAll.respare (kids_rows hl hm) (slices_full_of P hz) (fun t h => of_decide_eq_true (List.all_eq_true.1 ht t h)) (trodAll_old hs h) (fun p hp => ?_)
  exact decide_eq_true (DataW.TrodAll.lt h p hp)
theorem mir_at {W : World} {a : Addr} {n : Nat} {cs : List Value} (hn : 0 < n) (h : W.cells? 0 a n = some cs) :
    a.spot = none ∧ a.block < W.heap.size ∧ ∃ blk, hget (mirror W) a.block = some blk ∧ a.off + n ≤ blk.cells.length ∧ (blk.cells.drop a.off).take n = cs.map (absV W) := by
  obtain ⟨_, hlen, hc⟩ := World.cells?_some h
  have h0 := hc 0 hn
  rw [List.getElem?_eq_getElem (by omega)] at h0
  have e0 : a.add 0 = a := rfl
  rw [e0] at h0
  unfold World.cell? at h0
  split at h0
  case h_2 => cases h0
  rename_i c elem fr hk
  split at h0
  case isTrue => cases h0
  rename_i hsp
  have hspot : a.spot = none := by cases h : a.spot with | none => rfl | some s => rw [h] at hsp; simp at hsp
  have hlt : a.block < W.heap.size := by
    rcases Nat.lt_or_ge a.block W.heap.size with h | h
    · exact h
    · rw [Array.getElem?_eq_none h] at hk; cases hk
  have cell : ∀ i, i < n → c.toList[a.off + i]? = cs[i]? := fun i hi => by
    have := hc i hi
    rw [← this]
    have ea : a.add i = ⟨a.block, a.off + i, none⟩ := by
      unfold Addr.add
      split
      · rename_i h0; subst h0; cases a; simp_all
      · rfl
    rw [ea]
    simp only [World.cell?, hk]
    simp
  have hle : a.off + n ≤ c.toList.length := by
    have := cell (n - 1) (by omega)
    rw [List.getElem?_eq_getElem (by omega : n - 1 < cs.length)] at this
    have := (List.getElem?_eq_some_iff.1 this).1
    omega
  refine ⟨hspot, hlt, ⟨elem, 0, true, c.toList.map (absV W)⟩, ?_, by simpa using hle, ?_⟩
  · rw [mir_get]; unfold mirB; rw [hk]
  · refine List.ext_getElem? fun i => ?_
    rw [List.getElem?_take]
    by_cases hi : i < n
    · rw [if_pos hi, List.getElem?_drop, List.getElem?_map, List.getElem?_map, cell i hi]
    · rw [if_neg hi, List.getElem?_eq_none (by simp; omega)]
theorem many_ex {α : Type} {sz : Nat} {dec : List Value → Option α} : ∀ (l : Nat) (cs : List Value), (∀ i, i < l → ∃ x, dec ((cs.drop (i * sz)).take sz) = some x) → ∃ xs, many sz dec l cs = some xs
  | 0, cs, _ => ⟨[], rfl⟩
  | l + 1, cs, h => by
    obtain ⟨x, hx⟩ := h 0 (by omega)
    simp only [Nat.zero_mul, List.drop_zero] at hx
    obtain ⟨xs, hxs⟩ := many_ex l (cs.drop sz) (fun i hi => by
      obtain ⟨y, hy⟩ := h (i + 1) (by omega)
      refine ⟨y, ?_⟩
      rw [List.drop_drop, ← hy, Nat.succ_mul, Nat.add_comm (i * sz) sz])
    refine ⟨x :: xs, ?_⟩
    unfold many
    simp only [hx, hxs]
theorem mir_list {W : World} {α : Type} {dec : List Value → Option α} {t e : TypeId} {n fuel : Nat} {held : Bool} {sv : Value} {x : DataW H × List MemPlace} (ht : P.underlying t = some (.slice e)) (hsz : P.cellsOf e = n) (hn : 0 < n)
    (h : DataW.trod enc P W 0 (fun _ => true) held fuel t [sv] = some x)
    (hdec : ∀ (m : Nat) (cs : List Value) (y : DataW H × List MemPlace), DataW.trod enc P W 0 (fun _ => true) held m e cs = some y → ∃ z, dec (cs.map (absV W)) = some z) :
    ∃ xs, listAt n dec (mirror W) (absV W sv) = some xs ∧ xs.length ≤ maxLen := by
  rcases Go.Deep.open_slice ht h with ⟨h1, _⟩ | ⟨a, len, cap, m, k, D, Pl, h1, _, hl, hm, hmm, _, hx⟩
  · simp only [List.cons.injEq, and_true] at h1
    subst h1
    exact ⟨[], by rw [absV_base rfl]; rfl, by simp⟩
  · simp only [List.cons.injEq, and_true] at h1
    subst h1
    simp only [if_true] at hmm
    subst hmm
    rw [hsz] at hx
    by_cases h0 : len = 0
    · subst h0
      exact ⟨[], by unfold absV; simp only [if_true]; rfl, by simp⟩
    · obtain ⟨c0, hc0, _⟩ := hx 0 (by omega)
      rw [Nat.zero_mul] at hc0
      obtain ⟨s1, s2, blk, s3, _, _⟩ := mir_at hn hc0
      have ev : absV W (.slice (some a) len m) = .slice (some a) len m := by unfold absV; simp only; rw [if_neg h0, if_pos ⟨s1, s2⟩]
      obtain ⟨b, off, sp⟩ := a
      replace s1 : sp = none := s1
      replace s3 : hget (mirror W) b = some blk := s3
      subst s1
      have cell : ∀ i, i < len → ∃ cs, off + i * n + n ≤ blk.cells.length ∧ (blk.cells.drop (off + i * n)).take n = cs.map (absV W) ∧ ∃ y, DataW.trod enc P W 0 (fun _ => true) held k e cs = some y := fun i hi => by
        obtain ⟨cs, hc, hy⟩ := hx i (by omega)
        obtain ⟨q1, q2, blk', q3, q4, q5⟩ := mir_at hn hc
        have ea : (⟨b, off, none⟩ : Addr).add (i * n) = ⟨b, off + i * n, none⟩ := add_none _ _ _
        rw [ea] at q3 q4 q5
        replace q3 : hget (mirror W) b = some blk' := q3
        replace q4 : off + i * n + n ≤ blk'.cells.length := q4
        replace q5 : (blk'.cells.drop (off + i * n)).take n = cs.map (absV W) := q5
        rw [s3] at q3; cases q3
        exact ⟨cs, q4, q5, _, hy⟩
      have hle : off + len * n ≤ blk.cells.length := by
        obtain ⟨_, q, _⟩ := cell (len - 1) (by omega)
        obtain ⟨l', rfl⟩ : ∃ l', len = l' + 1 := ⟨len - 1, by omega⟩
        simp only [Nat.add_sub_cancel] at q
        rw [Nat.succ_mul]; omega
      have la : lay n (mirror W) (.slice (some ⟨b, off, none⟩) len m) = some ((blk.cells.drop off).take (len * n)) := by
        obtain ⟨l', rfl⟩ : ∃ l', len = l' + 1 := ⟨len - 1, by omega⟩
        unfold lay
        simp only [s3]
        rw [if_pos ⟨hl, hle⟩]
      obtain ⟨xs, hxs⟩ := many_ex (sz := n) (dec := dec) len ((blk.cells.drop off).take (len * n)) (fun i hi => by
        obtain ⟨cs, q1, q2, y, q3⟩ := cell i hi
        obtain ⟨z, hz⟩ := hdec k cs y q3
        refine ⟨z, ?_⟩
        rw [List.drop_take, List.take_take, List.drop_drop]
        have : n ≤ len * n - i * n := by rw [← Nat.sub_mul]; exact Nat.le_mul_of_pos_left _ (by omega)
        rw [Nat.min_eq_left this, q2]
        exact hz)
      refine ⟨xs, ?_, ?_⟩
      · rw [ev]
        unfold listAt
        rw [la]
        exact hxs
      · rw [(many_get hxs).1]; omega
theorem kmatch_base : ∀ {ks : List Ki} {cs : List Value}, kmatch ks cs → cs.all isBase = true
  | [], [], _ => rfl
  | .b :: ks, cs, h => by
    match cs, h with
    | .bool _ :: r, h => simp only [List.all_cons, isBase, Bool.true_and]; exact kmatch_base (ks := ks) h
  | .i k :: ks, cs, h => by
    match cs, h with
    | .int _ _ :: r, h => simp only [List.all_cons, isBase, Bool.true_and]; exact kmatch_base (ks := ks) h.2
  | .s :: ks, cs, h => by
    match cs, h with
    | .string _ :: r, h => simp only [List.all_cons, isBase, Bool.true_and]; exact kmatch_base (ks := ks) h.2
end
end Go.Eng.K
end
section
set_option linter.unusedVariables false
set_option linter.unusedSimpArgs false
set_option linter.unusedSectionVars false
namespace Go.Eng
structure Pt where
  (s1 : Bool) (l1 : List UInt8) (s2 : Bool) (l2 : List UInt8) (s3 : Bool) (l3 : List UInt8) (s4 : Bool) (l4 : List UInt8)
deriving DecidableEq
namespace Pt
def cells (p : Pt) : List Value := [.bool p.s1, .string ⟨⟨p.l1⟩⟩, .bool p.s2, .string ⟨⟨p.l2⟩⟩, .bool p.s3, .string ⟨⟨p.l3⟩⟩, .bool p.s4, .string ⟨⟨p.l4⟩⟩]
def x (p : Pt) : Int := sv p.s1 p.l1
def y (p : Pt) : Int := sv p.s2 p.l2
def z (p : Pt) : Int := sv p.s3 p.l3
def w (p : Pt) : Int := sv p.s4 p.l4
def on (p q r : Pt) : Prop := flt p.x p.y p.z p.w q.x q.y q.z q.w r.x r.y r.z r.w
instance {p q r : Pt} : Decidable (on p q r) := by unfold on; infer_instance
def ok (p : Pt) : Prop := (p.l1.length ≤ 65536 ∧ p.l2.length ≤ 65536 ∧ p.l3.length ≤ 65536 ∧ p.l4.length ≤ 65536) ∧ 0 < p.w
instance {p : Pt} : Decidable p.ok := by unfold ok; infer_instance
end Pt
end Go.Eng
end
section
set_option linter.unusedVariables false
set_option linter.unusedSimpArgs false
set_option linter.unusedSectionVars false
namespace Go.Eng
namespace Pt
def dflt : Pt := ⟨false, [], false, [], false, [], false, []⟩
def sz (k : Nat) (p : Pt) : Prop := p.l1.length ≤ k ∧ p.l2.length ≤ k ∧ p.l3.length ≤ k ∧ p.l4.length ≤ k
instance {k : Nat} {p : Pt} : Decidable (p.sz k) := by unfold sz; infer_instance
end Pt
def ptAt (l : List Pt) (i : Nat) : Pt := (l[i]?).getD Pt.dflt
def awx (a b : Pt) : Int := b.x * a.w - a.x * b.w
def awy (a b : Pt) : Int := b.y * a.w - a.y * b.w
def awz (a b : Pt) : Int := b.z * a.w - a.z * b.w
def lftZ (P a b x : Pt) : Int :=
  0 + P.x * (awy a b * awz a x - awz a b * awy a x) + P.y * (awz a b * awx a x - awx a b * awz a x) + P.z * (awx a b * awy a x - awy a b * awx a x)
def turnsP (P : Pt) (l : List Pt) : Prop := ∀ i, i < l.length → ∀ j, j < l.length → j ≠ i → j ≠ (i + 1) % l.length → 0 < lftZ P (ptAt l i) (ptAt l ((i + 1) % l.length)) (ptAt l j)
instance {P : Pt} {l : List Pt} : Decidable (turnsP P l) := by unfold turnsP; infer_instance
end Go.Eng
end
section
set_option linter.unusedVariables false
set_option linter.unusedSimpArgs false
set_option linter.unusedSectionVars false
namespace Go.Eng.K
open Go.Eng
section
variable {H : Type} {enc : TypeId × Value → H} {P : Program}
def sumL : List Nat → Nat
  | [] => 0
  | x :: r => x + sumL r
variable (bulk : DataW H → Nat) (b1 : ∀ b : List UInt8, b.length ≤ bulk (.lit (.string b))) (b2 : ∀ ps : List (DataW H), sumL (ps.map bulk) ≤ bulk (.agg ps))
include b1 b2 in
include b1 b2 in
end
end Go.Eng.K
end
section
set_option linter.unusedVariables false
set_option linter.unusedSimpArgs false
set_option linter.unusedSectionVars false
namespace Go.Eng.K
open Go.Eng Go.WideShapes
section
variable {H : Type} {enc : TypeId × Value → H} {P : Program}
end
end Go.Eng.K
end
section
set_option linter.unusedVariables false
set_option linter.unusedSimpArgs false
set_option linter.unusedSectionVars false
namespace Go.Eng.K
open Go.Eng Go.WideShapes
section
variable {H : Type} {enc : TypeId × Value → H} {P : Program}
theorem km_p {cs : List Value} (h : kmatch [.b, .s, .s, .b, .s, .s] cs) : ∃ p : PQ, cs = pcl p := by
  match cs, h with
  | [.bool s, .string ⟨⟨n⟩⟩, .string ⟨⟨d⟩⟩, .bool s', .string ⟨⟨n'⟩⟩, .string ⟨⟨d'⟩⟩], _ => exact ⟨(⟨s, n, d⟩, ⟨s', n', d'⟩), rfl⟩
theorem pts_trod {W : World} {fuel : Nat} {tv tp : TypeId} {sv : Value} {x : DataW H × List MemPlace} (hv : P.underlying tv = some (.slice tp)) (hq : kiTy P 20 tp = some [.b, .s, .s, .b, .s, .s]) (hs : szOf P tp = some 6)
    (h : DataW.trod enc P W 0 (fun _ => true) true fuel tv [sv] = some x) : ∃ l, decPts (mirror W) (absV W sv) = some l ∧ l.length ≤ maxLen :=
  mir_list (dec := dec2) (n := 6) hv (cellsOf_sz hs) (by omega) h (fun m cs y hy => by
    obtain ⟨km, _, _⟩ := plain_ty m 20 tp _ 6 hq hs rfl W 0 _ true _ y hy
    obtain ⟨q, eq⟩ := km_p km
    rw [absV_bases (kmatch_base km), eq]
    exact ⟨q, rfl⟩)
theorem open_pts {W : World} {base : Nat} {t tp : TypeId} {v : Value} {d : DataW H} {ps : List MemPlace} (hv : P.underlying t = some (.slice tp)) (hq : kiTy P 20 tp = some [.b, .s, .s, .b, .s, .s]) (hs : szOf P tp = some 6)
    (hval : Value.okWide P W .any base t v) (h : DataW.Trod enc P W 0 (fun _ => true) true t v d ps) : ∃ l, decPts (mirror W) (absV W v) = some l ∧ l.length ≤ maxLen := by
  obtain ⟨a, len, cap, rfl⟩ := okWide_slice hv hval
  obtain ⟨fuel, h⟩ := h
  exact pts_trod hv hq hs h
end
end Go.Eng.K
end
