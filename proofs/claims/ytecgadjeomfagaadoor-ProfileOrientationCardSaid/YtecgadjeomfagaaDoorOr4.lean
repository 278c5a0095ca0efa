/-
  A part of the proof: the machine, the contracts of the functions and the plain laws, merged from smaller texts.
-/
import Derived.Test.YtecgadjeomfagaaDoorOr3
import Derived.RowKit3
import Derived.ChangeSame
import Derived.ReadAgain
import Derived.Deep.Slices
import Derived.WideShapes
section
set_option linter.unusedVariables false
set_option linter.unusedSimpArgs false
set_option linter.unusedSectionVars false
set_option maxRecDepth 20000
namespace Go.Eng
open Go Go.Proofs Go.IntWalk
theorem take_snoc {α : Type} {l : List α} {i : Nat} {x : α} (h : l[i]? = some x) : l.take (i + 1) = l.take i ++ [x] := by
  rw [List.take_add_one, h]; rfl
theorem of0 : (RQ.of 0).cells = [.bool false, .string ⟨⟨[]⟩⟩, .string ⟨⟨[]⟩⟩] := by
  show [Value.bool (decide ((0 : Rat).num < 0)), .string ⟨⟨bl (0 : Rat).num.natAbs⟩⟩, .string ⟨⟨if (0 : Rat).den = 1 then [] else bl (0 : Rat).den⟩⟩] = _
  rw [show (0 : Rat).num.natAbs = 0 from rfl, bl_zero]; rfl
theorem RB0 : RB 0 1 := ⟨by rw [show (0 : Rat).num.natAbs = 0 from rfl, bl_zero]; exact Nat.zero_le _, bl_length_le.2 (by decide)⟩
theorem rv_zero {s : Bool} {n d : List UInt8} (h : nl n = 0) : rv s n d = 0 := by
  unfold rv sv
  rw [h]
  cases s <;> exact Rat.zero_divInt _
theorem qdiv {p q : RQ} (hp : p.ok 8589934591) (hq : q.ok 8589934591) (h : q.v ≠ 0) : spQDiv [.agg ⟨p.cells⟩, .agg ⟨q.cells⟩] = some (.tuple ⟨[.agg ⟨(RQ.of (p.v / q.v)).cells⟩, .bool true]⟩) := by
  have e : spQDiv [.agg ⟨p.cells⟩, .agg ⟨q.cells⟩] = _ := if_pos ⟨by have := hp.1; omega, by have := hp.2; omega, by have := hq.1; omega, by have := hq.2; omega⟩
  rw [e, if_neg (fun z => h (rv_zero z))]; rfl
theorem RBs {z : Int} (h : -1000 ≤ z ∧ z ≤ 1000) : RB (z : Rat) 2 := ⟨by rw [Rat.num_intCast]; exact bl_length_le.2 (by omega), by rw [Rat.den_intCast]; exact Nat.le_trans (bl_length_le (k := 1).2 (by decide)) (by omega)⟩
theorem qfrom {z : Int} (h : -1000 ≤ z ∧ z ≤ 1000) : spQFrom [.int .i64 z] = some (.agg ⟨(RQ.of (z : Rat)).cells⟩) := if_pos ⟨by omega, by omega⟩
def arT (L : List P2) (i : Nat) : Rat := sumE crs ((edg L).take i)
theorem arT_s {L : List P2} {i : Nat} (h : i < L.length) : arT L (i + 1) = arT L i + crs (vt L i, vt L (i + 1)) := by
  unfold arT
  rw [take_snoc (edg_at h), sumE_app]
  show _ + (crs _ + 0) = _
  rw [Rat.add_zero]
theorem arT_all (L : List P2) : arT L L.length = ar2 L := by
  unfold arT ar2
  rw [← edg_len L, List.take_length]
theorem crs_RB {a b : PQ} {k : Nat} (ha : pok k a) (hb : pok k b) : RB (crs (pv2 a, pv2 b)) (4 * k + 5) :=
  (ha.1.rb.mul hb.2.rb (k := 2 * k + 2) (by omega)).sub (hb.1.rb.mul ha.2.rb (k := 2 * k + 2) (by omega)) (by omega)
theorem arT_RB {l : List PQ} {k : Nat} (h : ∀ p ∈ l, pok k p) (l0 : 0 < l.length) : ∀ i, i ≤ l.length → RB (arT (pvs l) i) (1 + i * (4 * k + 6))
  | 0, _ => by
    rw [Nat.zero_mul]
    exact RB0
  | i + 1, hi => by
    rw [arT_s (by rw [pvs_len]; omega)]
    have ih := arT_RB h l0 i (by omega)
    rw [pvs_vt l0, pvs_vt l0]
    refine ih.add (crs_RB (h _ (pqAt_mem (Nat.mod_lt _ l0))) (h _ (pqAt_mem (Nat.mod_lt _ l0)))) ?_
    have := Nat.succ_mul i (4 * k + 6)
    generalize (i + 1) * (4 * k + 6) = Y at *
    generalize i * (4 * k + 6) = X at *
    omega
def spArea2 : List Value → Heap → Option Value
  | [sl], h => match decPts h sl with
    | some l => if ptsOK l then some (.agg ⟨(RQ.of (ar2 (pvs l) / 2)).cells⟩) else none
    | none => none
  | _, _ => none
theorem area2_of {h : Heap} {sl : Value} {l : List PQ} (hx : decPts h sl = some l) (hs : ptsOK l) : spArea2 [sl] h = some (.agg ⟨(RQ.of (ar2 (pvs l) / 2)).cells⟩) := by
  unfold spArea2
  simp only [hx]
  exact if_pos hs
def c10 : ICode :=
  (.seq (.reg [qq 2 (.alloc 24 3 [(.bool false), e0, e0])]) (.seq (.reg [qq 3 (.alloc 24 3 [(.bool false), e0, e0])]) (.seq (.seq (.reg [qq 9 (.mv (.t 0)), qq 10 (.lensl (.t 9)), qq 11 (.mv (ci 0))]) (.block 0 (.loop (.seq (.reg [qq 12 (.bin .lss (.t 11) (.t 10))]) (.seq (.cond (.t 12) .skip (.exit 0)) (.seq (.block 1 (.seq (.reg [qq 13 (.mv (.t 11)), qq 14 (.ixsl 6 (.t 9) (.t 11)), qq 15 (.load true 6 (.t 14)), qq 5 (.alloc 26 6 [(.bool false), e0, e0, (.bool false), e0, e0]), qq 4 (.mv (.t 13)), qn (.store 6 (.t 5) (.t 15))]) (.seq (.reg [qq 16 (.mv (.t 0)), qq 17 (.mv (.t 4)), qq 18 (.bin .add (.t 17) (ci 1)), qq 19 (.mv (.t 0)), qq 20 (.lensl (.t 19)), qq 21 (.bin .rem (.t 18) (.t 20)), qq 22 (.ixsl 6 (.t 16) (.t 21)), qq 23 (.load true 6 (.t 22)), qq 6 (.alloc 26 6 [(.bool false), e0, e0, (.bool false), e0, e0]), qn (.store 6 (.t 6) (.t 23))]) (.dreg [qu 24 (.load true 3 (.t 3)), qu 25 (.ixarr 2 3 (.t 5) (ci 0)), qu 26 (.load true 3 (.t 25)), qu 27 (.ixarr 2 3 (.t 6) (ci 1)), qu 28 (.load true 3 (.t 27)), qu 29 (.call 17 [(.t 26), (.t 28)]), qu 30 (.ixarr 2 3 (.t 6) (ci 0)), qv 31 [5] (.load true 3 (.t 30)), qu 32 (.ixarr 2 3 (.t 5) (ci 1)), qv 33 [5] (.load true 3 (.t 32)), qu 34 (.call 17 [(.t 31), (.t 33)]), qu 35 (.call 18 [(.t 29), (.t 34)]), qu 36 (.call 16 [(.t 24), (.t 35)]), qm (.store 3 (.t 3) (.t 36))])))) (.reg [qq 37 (.bin .add (.t 11) (ci 1)), qq 11 (.mv (.t 37))]))))))) (.seq (.dreg [qu 39 (.load true 3 (.t 3)), qu 40 (.call 15 [(ci 2)]), qu 41 (.call 14 [(.t 39), (.t 40)]), qu 38 (.mv (.t 41)), qu 42 (.ext (.t 38) 0), qu 43 (.ext (.t 38) 1), qu 7 (.alloc 24 3 [(.bool false), e0, e0]), qm (.store 3 (.t 7) (.t 42)), qu 8 (.mv (.t 43))]) (.seq (.reg [qq 44 (.load true 3 (.t 7)), qn (.store 3 (.t 2) (.t 44))]) .ret)))))
theorem tr10 : trFun Tryd.prog 10 = some ⟨45, [.cell 2 true 3], c10⟩ := by kernel_rfl
set_option maxHeartbeats 8000000 in
theorem ok_area2 : SpecOK Tryd.prog 10 (rdS spArea2) := by
  refine rd_run (env_cons ok_qMul (env_cons ok_qSub (env_cons ok_qAdd (env_cons ok_qFrom (env_cons ok_qDiv (env_nil _)))))) mixed tr10 ?_ ?_
  · intro args h h' v hle e
    unfold spArea2 at e ⊢
    split at e
    · split at e
      · rename_i l hb
        simp only [decPts_mono hle hb]; exact e
      · cases e
    · cases e
  intro args v h N hG hN
  unfold spArea2 at hG
  split at hG
  case h_2 => cases hG
  rename_i sl
  split at hG
  case h_2 => cases hG
  rename_i l hx
  split at hG
  case isFalse => cases hG
  rename_i hs
  cases hG
  obtain ⟨a, cc, rfl⟩ := decPts_sl hx
  refine ⟨rfl, by simp, ?_⟩
  have l1000 := hs.1
  have hL : (pvs l).length = l.length := pvs_len l
  have nbN : ∀ q, q < N → ∀ j, (N + j = q) = False := fun q hq j => eq_false (by omega)
  have g01 : (N + 1 = N + 0) = False := eq_false (by omega)
  have gN : (N + 1 = N) = False := eq_false (by omega)
  have gN' : (N = N + 1) = False := eq_false (by omega)
  have f2 : spQFrom [.int .i64 2] = some (.agg ⟨(RQ.of 2).cells⟩) := qfrom (z := 2) (by omega)
  simp only [c10, G0, Nat.reduceAdd]
  simp only [↓R0, R1, simprocAttr, -Int.reduceAbs]
  refine lp_parts (fun c tm hp nx => ∃ (i M : Nat), c + i = l.length ∧ tmget tm 0 = .slice a l.length cc ∧ tmget tm 2 = .pointer (some ⟨N + 0, 0, none⟩) ∧ tmget tm 3 = .pointer (some ⟨N + 1, 0, none⟩) ∧ tmget tm 9 = .slice a l.length cc ∧ tmget tm 10 = .int .i64 l.length ∧ tmget tm 11 = .int .i64 (i : Nat) ∧
      hget hp (N + 0) = some ⟨24, 3, true, [.bool false, .string ⟨⟨[]⟩⟩, .string ⟨⟨[]⟩⟩]⟩ ∧ hget hp (N + 1) = some ⟨24, 3, true, (RQ.of (arT (pvs l) i)).cells⟩ ∧ ExtL N h hp ∧ N + 2 ≤ M ∧ nx = M + 0) ?_ l.length
    ⟨0, N + 2, by omega, ?_, ?_, ?_, ?_, ?_, ?_, ?_, ?_, ?_, Nat.le_refl _, rfl⟩
  rotate_left
  all_goals first | (simp only [↓R0, R1, simprocAttr, -Int.reduceAbs]; done) | (simp only [↓R0, R1, simprocAttr, -Int.reduceAbs]; rfl) | (simp only [↓R0, R1, simprocAttr, -Int.reduceAbs]; exact congrArg some (congrArg (Blk.mk 24 3 true) of0.symm)) | skip
  · intro q hq
    have nb := nbN q hq
    simp only [↓R0, R1, simprocAttr, -Int.reduceAbs, nb]
  rintro c tm hp nx ⟨i, M, hc, t0, t2, t3, t9, t10, t11, b0, b1, hh, hM, hnx⟩
  rw [hnx]
  clear hnx nx
  have nbq : ∀ q, q < N → ∀ d, (M + d = q) = False := fun q hq d => eq_false (by omega)
  have m0 : ∀ d, (M + d = N + 0) = False := fun d => eq_false (by omega)
  have m1 : ∀ d, (M + d = N + 1) = False := fun d => eq_false (by omega)
  have m2 : ∀ d, (M + d = N) = False := fun d => eq_false (by omega)
  have m3 : ∀ d, (N + 1 = M + d) = False := fun d => eq_false (by omega)
  have m4 : ∀ d, (N + 0 = M + d) = False := fun d => eq_false (by omega)
  by_cases c1 : i < l.length
  case neg =>
    have e : i = l.length := by omega
    subst e
    have c1' : ((l.length : Int) < (l.length : Int)) = False := eq_false (by omega)
    have eA : arT (pvs l) l.length = ar2 (pvs l) := by rw [← hL, arT_all]
    rw [eA] at b1
    have rA : RB (ar2 (pvs l)) 4000007000 := by
      by_cases l0 : 0 < l.length
      · have := arT_RB hs.2 l0 l.length (Nat.le_refl _)
        rw [eA] at this
        refine this.le ?_
        have : l.length * (4 * 1000000 + 6) ≤ 1000 * (4 * 1000000 + 6) := Nat.mul_le_mul_right _ l1000
        omega
      · have : ar2 (pvs l) = 0 := by rw [List.eq_nil_of_length_eq_zero (l := l) (by omega)]; rfl
        rw [this]
        exact RB0.le (by omega)
    have two : (RQ.of (2 : Rat)).v ≠ 0 := by rw [RQ.of_v]; decide
    have dv := qdiv (p := RQ.of (ar2 (pvs l))) (q := RQ.of 2) (ofB rA (by omega)) (ofB (RBs (z := 2) (by omega)) (by omega)) two
    rw [RQ.of_v, RQ.of_v] at dv
    generalize RQ.of (ar2 (pvs l)) = Q1 at *
    generalize RQ.of (ar2 (pvs l) / 2) = Q2 at *
    generalize RQ.of 2 = Q3 at *
    simp only [↓R0, R1, simprocAttr, -Int.reduceAbs, t0, t2, t3, t9, t10, t11, c1', b0, b1, f2, dv, q_len, q_ok, q_tk, q_st, m0, m1, m2, m3, m4, g01, gN, gN', Fin, isEnd, resL, res1]
    refine ⟨_, rfl, rfl, fun q hq => ?_⟩
    have nb := nbq q hq
    have nb0 := nbN q hq
    have nN : (N = q) = False := eq_false (by omega)
    simp only [↓R0, R1, simprocAttr, -Int.reduceAbs, nb, nb0, nN]
    exact hh q hq
  have c1' : ((i : Int) < (l.length : Int)) = True := eq_true (by omega)
  have w1 : IntKind.i64.wrap ((i : Int) + 1) = ((i + 1 : Nat) : Int) := by rw [i64_in _ (by omega)]; omega
  have l0 : 0 < l.length := by omega
  have hm : (i + 1) % l.length < l.length := Nat.mod_lt _ l0
  have tm1 : Int.tmod ((i + 1 : Nat) : Int) (l.length : Int) = (((i + 1) % l.length : Nat) : Int) := rfl
  have z1 : ((l.length : Int) = 0) = False := eq_false (by omega)
  have z2 : (l.length = 0) = False := eq_false (by omega)
  have hm' : ((((i + 1) % l.length : Nat) : Int) < (l.length : Int)) = True := eq_true (by omega)
  obtain ⟨k, off, blk, rfl, hb, q1, q2⟩ := pts_at hx c1
  obtain ⟨k', off', blk', e', hb', q3, q4⟩ := pts_at hx hm
  cases e'
  rw [hb] at hb'
  cases hb'
  have hk := hN _ _ hb
  have hbb : hget hp k = some blk := by rw [hh k hk]; exact hb
  have nk := nbq k hk
  have sA := hs.2 _ (pqAt_mem c1)
  have sB := hs.2 _ (pqAt_mem hm)
  have vA := pvs_vt (i := i) l0
  have vB := pvs_vt (i := i + 1) l0
  rw [Nat.mod_eq_of_lt c1] at vA
  have rA := (arT_RB hs.2 l0 i (by omega)).le (show _ ≤ 4000007000 by
    have : i * (4 * 1000000 + 6) ≤ 1000 * (4 * 1000000 + 6) := Nat.mul_le_mul_right _ (by omega)
    omega)
  have mm1 := qmul (pok1 sA (by omega)) (pok2 sB (by omega))
  have mm2 := qmul (pok1 sB (by omega)) (pok2 sA (by omega))
  have r1 := sA.1.rb.mul sB.2.rb (Nat.le_refl _)
  have r2 := sB.1.rb.mul sA.2.rb (Nat.le_refl _)
  have ss := qsub (ofB r1 (by omega)) (ofB r2 (by omega))
  rw [RQ.of_v, RQ.of_v] at ss
  have aa := qadd (ofB rA (by omega)) (ofB (r1.sub r2 (Nat.le_refl _)) (by omega))
  rw [RQ.of_v, RQ.of_v] at aa
  have eS := arT_s (L := pvs l) (i := i) (by omega)
  rw [vA, vB] at eS
  have eC : crs (pv2 (pqAt l i), pv2 (pqAt l ((i + 1) % l.length))) = (pqAt l i).1.v * (pqAt l ((i + 1) % l.length)).2.v - (pqAt l ((i + 1) % l.length)).1.v * (pqAt l i).2.v := rfl
  rw [eC] at eS
  rw [← eS] at aa
  generalize (pqAt l i).1.v * (pqAt l ((i + 1) % l.length)).2.v = X1 at *
  generalize (pqAt l ((i + 1) % l.length)).1.v * (pqAt l i).2.v = X2 at *
  generalize pqAt l i = A at *
  generalize pqAt l ((i + 1) % l.length) = B at *
  generalize (i + 1) % l.length = m at *
  simp only [↓R0, R1, simprocAttr, -Int.reduceAbs, t0, t2, t3, t9, t10, t11, c1, c1', b0, b1, hbb, nk, q1, q2, q3, q4, hm, hm', tm1, z1, z2, w1, pcl_len, pcl_ok, pcl_tk, pcl_x, pcl_y, pp_st, q_len, q_ok, q_tk, q_st, q_st', mm1, mm2, ss, aa, m0, m1, m2, m3, m4, g01, gN, gN']
  refine ⟨c - 1, by omega, i + 1, M + 2, by omega, rfl, rfl, fun q hq => ?_, by omega, rfl⟩
  have nb := nbq q hq
  have nb0 := nbN q hq
  simp only [↓R0, R1, simprocAttr, -Int.reduceAbs, nb, nb0]
  exact hh q hq
def clsP (L : List P2) (x : P2) : Int := if onL L x = true then 0 else if xs x L % 2 = 1 then 1 else -1
def xsT (x : P2) (L : List P2) (i : Nat) : Nat := ((edg L).take i).countP (xg x)
theorem xsT_s {x : P2} {L : List P2} {i : Nat} (h : i < L.length) : xsT x L (i + 1) = xsT x L i + if xg x (vt L i, vt L (i + 1)) = true then 1 else 0 := by
  unfold xsT
  rw [take_snoc (edg_at h), List.countP_append, List.countP_cons, List.countP_nil, Nat.zero_add]
theorem xsT_all (x : P2) (L : List P2) : xsT x L L.length = xs x L := by
  unfold xsT xs
  rw [← edg_len L, List.take_length]
theorem onL_no {L : List P2} {x : P2} (h : ∀ i, i < L.length → onB (vt L i) (vt L (i + 1)) x = false) : onL L x = false := by
  unfold onL
  rw [List.any_eq_false]
  intro e he
  obtain ⟨i, hi, rfl⟩ := mem_edg he
  rw [h i hi]; simp
theorem onL_yes {L : List P2} {x : P2} {i : Nat} (hi : i < L.length) (h : onB (vt L i) (vt L (i + 1)) x = true) : onL L x = true := by
  unfold onL
  rw [List.any_eq_true]
  exact ⟨_, edg_mem hi, h⟩
def spCls2 : List Value → Heap → Option Value
  | [sl, .agg ⟨cx⟩], h => match decPts h sl, dec2 cx with
    | some l, some x => if ptsOK l ∧ pok 1000000 x then some (.int .i64 (clsP (pvs l) (pv2 x))) else none
    | _, _ => none
  | _, _ => none
theorem cls2_of {h : Heap} {sl : Value} {l : List PQ} {x : PQ} (hx : decPts h sl = some l) (hs : ptsOK l) (sx : pok 1000000 x) : spCls2 [sl, .agg ⟨pcl x⟩] h = some (.int .i64 (clsP (pvs l) (pv2 x))) := by
  unfold spCls2
  simp only [hx, pcl_dec]
  exact if_pos ⟨hs, sx⟩
theorem odd_flip (n : Nat) : (!decide (n % 2 = 1)) = decide ((n + 1) % 2 = 1) := by
  rcases Nat.mod_two_eq_zero_or_one n with h | h
  · rw [show (n + 1) % 2 = 1 by omega, h]; rfl
  · rw [show (n + 1) % 2 = 0 by omega, h]; rfl
def c13 : ICode :=
  (.seq (.reg [qq 3 (.box 26 6 (.t 1)), qq 4 (.mv (ci 0))]) (.seq (.reg [qq 5 (.mv (.c (.bool false)))]) (.seq (.seq (.reg [qq 12 (.mv (.t 0)), qq 13 (.lensl (.t 12)), qq 14 (.mv (ci 0))]) (.block 0 (.loop (.seq (.reg [qq 15 (.bin .lss (.t 14) (.t 13))]) (.seq (.cond (.t 15) .skip (.exit 0)) (.seq (.block 1 (.seq (.reg [qq 16 (.mv (.t 14)), qq 17 (.ixsl 6 (.t 12) (.t 14)), qq 18 (.load true 6 (.t 17)), qq 7 (.alloc 26 6 [(.bool false), e0, e0, (.bool false), e0, e0]), qq 6 (.mv (.t 16)), qn (.store 6 (.t 7) (.t 18))]) (.seq (.reg [qq 19 (.mv (.t 0)), qq 20 (.mv (.t 6)), qq 21 (.bin .add (.t 20) (ci 1)), qq 22 (.mv (.t 0)), qq 23 (.lensl (.t 22)), qq 24 (.bin .rem (.t 21) (.t 23)), qq 25 (.ixsl 6 (.t 19) (.t 24)), qq 26 (.load true 6 (.t 25)), qq 8 (.alloc 26 6 [(.bool false), e0, e0, (.bool false), e0, e0]), qn (.store 6 (.t 8) (.t 26))]) (.seq (.seq (.reg [qq 27 (.load true 6 (.t 7)), qq 28 (.load true 6 (.t 8)), qq 29 (.load true 6 (.t 3)), qq 30 (.call 30 [(.t 27), (.t 28), (.t 29)])]) (.cond (.t 30) (.seq (.reg [qq 4 (.mv (ci 0))]) .ret) .skip)) (.seq (.dreg [qu 31 (.ixarr 2 3 (.t 8) (ci 1)), qu 32 (.load true 3 (.t 31)), qu 33 (.ixarr 2 3 (.t 3) (ci 1)), qu 34 (.load true 3 (.t 33)), qu 35 (.call 31 [(.t 32), (.t 34)]), qu 36 (.bin .gtr (.t 35) (ci 0)), qu 37 (.ixarr 2 3 (.t 7) (ci 1)), qv 38 [4] (.load true 3 (.t 37)), qu 39 (.ixarr 2 3 (.t 3) (ci 1)), qv 40 [4] (.load true 3 (.t 39)), qu 41 (.call 31 [(.t 38), (.t 40)]), qu 42 (.bin .gtr (.t 41) (ci 0)), qu 9 (.mv (.t 36)), qu 10 (.mv (.t 42))]) (.seq (.seq (.reg [qq 43 (.mv (.t 9)), qq 44 (.mv (.t 10)), qq 45 (.eqb false (.t 43) (.t 44))]) (.cond (.t 45) (.exit 1) .skip)) (.seq (.reg [qq 46 (.load true 6 (.t 7)), qq 47 (.load true 6 (.t 8)), qq 48 (.load true 6 (.t 3)), qq 49 (.call 21 [(.t 46), (.t 47), (.t 48)]), qq 11 (.mv (.t 49))]) (.seq (.reg [qq 50 (.mv (.t 11)), qq 51 (.bin .gtr (.t 50) (ci 0)), qq 52 (.mv (.t 51)), ⟨(some 53), (some (52, true)), (.mv (.t 9))⟩, qq 54 (.pick (.t 52) (.t 53) (.c (.bool false))), qq 55 (.mv (.t 54)), ⟨(some 56), (some (55, false)), (.mv (.t 11))⟩, ⟨(some 57), (some (55, false)), (.bin .lss (.t 56) (ci 0))⟩, ⟨(some 58), (some (55, false)), (.mv (.t 57))⟩, ⟨(some 59), (some (58, true)), (.mv (.t 10))⟩, ⟨(some 60), (some (55, false)), (.pick (.t 58) (.t 59) (.c (.bool false)))⟩, qq 61 (.pick (.t 55) (.c (.bool true)) (.t 60))]) (.cond (.t 61) (.reg [qq 62 (.mv (.t 5)), qq 63 (.un .not (.t 62)), qq 5 (.mv (.t 63))]) .skip))))))))) (.reg [qq 64 (.bin .add (.t 14) (ci 1)), qq 14 (.mv (.t 64))]))))))) (.seq (.seq (.reg [qq 65 (.mv (.t 5))]) (.cond (.t 65) (.seq (.reg [qq 4 (.mv (ci 1))]) .ret) .skip)) (.seq (.reg [qq 4 (.mv (ci (-1)))]) .ret)))))
theorem tr13 : trFun Tryd.prog 13 = some ⟨66, [.t 4], c13⟩ := by kernel_rfl
set_option maxHeartbeats 8000000 in
theorem ok_cls2 : SpecOK Tryd.prog 13 (rdS spCls2) := by
  refine rd_run (env_cons ok_onP (env_cons ok_qCmp (env_cons ok_turn (env_nil _)))) mixed tr13 ?_ ?_
  · intro args h h' v hle e
    unfold spCls2 at e ⊢
    split at e
    · split at e
      · rename_i l hb hc
        simp only [decPts_mono hle hb, hc]; exact e
      · cases e
    · cases e
  intro args v h N hG hN
  unfold spCls2 at hG
  split at hG
  case h_2 => cases hG
  rename_i sl cx
  split at hG
  case h_2 => cases hG
  rename_i l x hx hcx
  split at hG
  case isFalse => cases hG
  rename_i hs
  obtain ⟨hs, sx⟩ := hs
  cases hG
  have ex := dec2_pcl hcx
  subst ex
  clear hcx
  obtain ⟨a, cc, rfl⟩ := decPts_sl hx
  refine ⟨rfl, by simp, ?_⟩
  have l1000 := hs.1
  have hL : (pvs l).length = l.length := pvs_len l
  have nbN : ∀ q, q < N → ∀ j, (N + j = q) = False := fun q hq j => eq_false (by omega)
  simp only [c13, G0, Nat.reduceAdd]
  simp only [↓R0, R1, simprocAttr, -Int.reduceAbs, pcl_len, pcl_ok]
  refine lp_parts (fun c tm hp nx => ∃ (i M : Nat), c + i = l.length ∧ tmget tm 0 = .slice a l.length cc ∧ tmget tm 3 = .pointer (some ⟨N + 0, 0, none⟩) ∧ tmget tm 5 = .bool (decide (xsT (pv2 x) (pvs l) i % 2 = 1)) ∧ tmget tm 12 = .slice a l.length cc ∧ tmget tm 13 = .int .i64 l.length ∧ tmget tm 14 = .int .i64 (i : Nat) ∧
      hget hp (N + 0) = some ⟨26, 6, true, pcl x⟩ ∧ (∀ j, j < i → onB (vt (pvs l) j) (vt (pvs l) (j + 1)) (pv2 x) = false) ∧ ExtL N h hp ∧ N + 1 ≤ M ∧ nx = M + 0) ?_ l.length
    ⟨0, N + 1, by omega, ?_, ?_, ?_, ?_, ?_, ?_, ?_, fun j hj => absurd hj (Nat.not_lt_zero j), ?_, Nat.le_refl _, rfl⟩
  rotate_left
  all_goals first | (simp only [↓R0, R1, simprocAttr, -Int.reduceAbs]; done) | (simp only [↓R0, R1, simprocAttr, -Int.reduceAbs]; rfl) | skip
  · intro q hq
    have nb := nbN q hq
    simp only [↓R0, R1, simprocAttr, -Int.reduceAbs, nb]
  rintro c tm hp nx ⟨i, M, hc, t0, t3, t5, t12, t13, t14, b0, hno, hh, hM, hnx⟩
  rw [hnx]
  clear hnx nx
  have nbq : ∀ q, q < N → ∀ d, (M + d = q) = False := fun q hq d => eq_false (by omega)
  have m0 : ∀ d, (M + d = N + 0) = False := fun d => eq_false (by omega)
  have m2 : ∀ d, (M + d = N) = False := fun d => eq_false (by omega)
  by_cases c1 : i < l.length
  case neg =>
    have e : i = l.length := by omega
    subst e
    have c1' : ((l.length : Int) < (l.length : Int)) = False := eq_false (by omega)
    have eA : xsT (pv2 x) (pvs l) l.length = xs (pv2 x) (pvs l) := by rw [← hL, xsT_all]
    rw [eA] at t5
    have no := onL_no (L := pvs l) (x := pv2 x) (fun j hj => hno j (by omega))
    unfold clsP
    rw [no, if_neg (by simp)]
    by_cases o : xs (pv2 x) (pvs l) % 2 = 1
    · rw [if_pos o]
      rw [decide_eq_true o] at t5
      simp only [↓R0, R1, simprocAttr, -Int.reduceAbs, t0, t3, t5, t12, t13, t14, c1', Fin, isEnd, resL, res1]
      exact ⟨_, rfl, rfl, hh⟩
    · rw [if_neg o]
      rw [decide_eq_false o] at t5
      simp only [↓R0, R1, simprocAttr, -Int.reduceAbs, t0, t3, t5, t12, t13, t14, c1', Fin, isEnd, resL, res1]
      exact ⟨_, rfl, rfl, hh⟩
  have c1' : ((i : Int) < (l.length : Int)) = True := eq_true (by omega)
  have w1 : IntKind.i64.wrap ((i : Int) + 1) = ((i + 1 : Nat) : Int) := by rw [i64_in _ (by omega)]; omega
  have l0 : 0 < l.length := by omega
  have hm : (i + 1) % l.length < l.length := Nat.mod_lt _ l0
  have tm1 : Int.tmod ((i + 1 : Nat) : Int) (l.length : Int) = (((i + 1) % l.length : Nat) : Int) := rfl
  have z1 : ((l.length : Int) = 0) = False := eq_false (by omega)
  have z2 : (l.length = 0) = False := eq_false (by omega)
  have hm' : ((((i + 1) % l.length : Nat) : Int) < (l.length : Int)) = True := eq_true (by omega)
  obtain ⟨k, off, blk, rfl, hb, q1, q2⟩ := pts_at hx c1
  obtain ⟨k', off', blk', e', hb', q3, q4⟩ := pts_at hx hm
  cases e'
  rw [hb] at hb'
  cases hb'
  have hk := hN _ _ hb
  have hbb : hget hp k = some blk := by rw [hh k hk]; exact hb
  have nk := nbq k hk
  have sA := hs.2 _ (pqAt_mem c1)
  have sB := hs.2 _ (pqAt_mem hm)
  have vA := pvs_vt (i := i) l0
  have vB := pvs_vt (i := i + 1) l0
  rw [Nat.mod_eq_of_lt c1] at vA
  have o1 := onP_of sA sB sx
  have u1 := qcmp (pok2 sB (by omega)) (pok2 sx (by omega))
  have u2 := qcmp (pok2 sA (by omega)) (pok2 sx (by omega))
  have t1 := turn_of sA sB sx
  have eT := xsT_s (x := pv2 x) (L := pvs l) (i := i) (by omega)
  have yB : (vt (pvs l) (i + 1)).2 = (pqAt l ((i + 1) % l.length)).2.v := by rw [vB]; rfl
  have yA : (vt (pvs l) i).2 = (pqAt l i).2.v := by rw [vA]; rfl
  have yX : (pv2 x).2 = x.2.v := rfl
  rw [← vA, ← vB] at o1 t1
  cases z3 : onB (vt (pvs l) i) (vt (pvs l) (i + 1)) (pv2 x) with
  | true =>
    rw [z3] at o1
    have ev : clsP (pvs l) (pv2 x) = 0 := if_pos (onL_yes (by omega) z3)
    rw [ev]
    generalize pqAt l i = A at *
    generalize pqAt l ((i + 1) % l.length) = B at *
    generalize (i + 1) % l.length = m at *
    simp only [↓R0, R1, simprocAttr, -Int.reduceAbs, t0, t3, t5, t12, t13, t14, c1, c1', b0, hbb, nk, q1, q2, q3, q4, hm, hm', tm1, z1, z2, w1, pcl_len, pcl_ok, pcl_tk, pp_st, o1, m0, m2, Fin, isEnd, resL, res1]
    refine ⟨_, rfl, rfl, fun q hq => ?_⟩
    have nb := nbq q hq
    simp only [↓R0, R1, simprocAttr, -Int.reduceAbs, nb]
    exact hh q hq
  | false =>
  rw [z3] at o1
  have hno' : ∀ j, j < i + 1 → onB (vt (pvs l) j) (vt (pvs l) (j + 1)) (pv2 x) = false := fun j hj => by
    by_cases e : j = i
    · rw [e]; exact z3
    · exact hno j (by omega)
  have oF := odd_flip (xsT (pv2 x) (pvs l) i)
  have gB : (sg ((pqAt l ((i + 1) % l.length)).2.v - x.2.v) > 0) = (x.2.v < (pqAt l ((i + 1) % l.length)).2.v) := propext (sg_gt.trans ⟨fun h => by grind, fun h => by grind⟩)
  have gA : (sg ((pqAt l i).2.v - x.2.v) > 0) = (x.2.v < (pqAt l i).2.v) := propext (sg_gt.trans ⟨fun h => by grind, fun h => by grind⟩)
  have gT : ∀ q : Rat, (sg q > 0) = (0 < q) := fun q => propext sg_gt
  have gT' : ∀ q : Rat, (sg q < 0) = (q < 0) := fun q => propext sg_lt
  have xgE : xg (pv2 x) (vt (pvs l) i, vt (pvs l) (i + 1)) = if decide (x.2.v < (pqAt l ((i + 1) % l.length)).2.v) = decide (x.2.v < (pqAt l i).2.v) then false else if x.2.v < (pqAt l ((i + 1) % l.length)).2.v then decide (0 < cr (vt (pvs l) i) (vt (pvs l) (i + 1)) (pv2 x)) else decide (cr (vt (pvs l) i) (vt (pvs l) (i + 1)) (pv2 x) < 0) := by
    unfold xg
    simp only [yA, yB, yX]
  rw [xgE] at eT
  clear xgE yA yB yX vA vB hno
  generalize cr (vt (pvs l) i) (vt (pvs l) (i + 1)) (pv2 x) = CR at *
  generalize pqAt l i = A at *
  generalize pqAt l ((i + 1) % l.length) = B at *
  generalize (i + 1) % l.length = m at *
  generalize hT1 : xsT (pv2 x) (pvs l) (i + 1) = T1 at *
  generalize xsT (pv2 x) (pvs l) i = T0 at *
  by_cases h1 : x.2.v < B.2.v
  · have h1' := eq_true h1
    by_cases h2 : x.2.v < A.2.v
    · have h2' := eq_true h2
      have eT : T1 = T0 := by rw [eT]; simp [h1', h2']
      simp only [↓R0, R1, simprocAttr, -Int.reduceAbs, t0, t3, t5, t12, t13, t14, c1, c1', b0, hbb, nk, q1, q2, q3, q4, hm, hm', tm1, z1, z2, w1, pcl_len, pcl_ok, pcl_tk, pcl_x, pcl_y, pp_st, q_len, q_ok, q_tk, o1, u1, u2, t1, gA, gB, gT, gT', oF, h1', h2', m0, m2, Bool.not_true, Bool.not_false]
      refine ⟨c - 1, by omega, i + 1, M + 2, by omega, ?_, rfl, hno', fun q hq => ?_, by omega, rfl⟩
      · rw [hT1, eT]
      · have nb := nbq q hq
        simp only [↓R0, R1, simprocAttr, -Int.reduceAbs, nb]
        exact hh q hq
    · have h2' := eq_false h2
      by_cases h3 : 0 < CR
      · have h3' := eq_true h3
        have eT : T1 = T0 + 1 := by rw [eT]; simp [h1', h2', h3']
        simp only [↓R0, R1, simprocAttr, -Int.reduceAbs, t0, t3, t5, t12, t13, t14, c1, c1', b0, hbb, nk, q1, q2, q3, q4, hm, hm', tm1, z1, z2, w1, pcl_len, pcl_ok, pcl_tk, pcl_x, pcl_y, pp_st, q_len, q_ok, q_tk, o1, u1, u2, t1, gA, gB, gT, gT', oF, h1', h2', h3', m0, m2, Bool.not_true, Bool.not_false]
        refine ⟨c - 1, by omega, i + 1, M + 2, by omega, ?_, rfl, hno', fun q hq => ?_, by omega, rfl⟩
        · rw [hT1, eT]
        · have nb := nbq q hq
          simp only [↓R0, R1, simprocAttr, -Int.reduceAbs, nb]
          exact hh q hq
      · have h3' := eq_false h3
        have eT : T1 = T0 := by rw [eT]; simp [h1', h2', h3']
        by_cases h4 : CR < 0
        · have h4' := eq_true h4
          simp only [↓R0, R1, simprocAttr, -Int.reduceAbs, t0, t3, t5, t12, t13, t14, c1, c1', b0, hbb, nk, q1, q2, q3, q4, hm, hm', tm1, z1, z2, w1, pcl_len, pcl_ok, pcl_tk, pcl_x, pcl_y, pp_st, q_len, q_ok, q_tk, o1, u1, u2, t1, gA, gB, gT, gT', oF, h1', h2', h3', h4', m0, m2, Bool.not_true, Bool.not_false]
          refine ⟨c - 1, by omega, i + 1, M + 2, by omega, ?_, rfl, hno', fun q hq => ?_, by omega, rfl⟩
          · rw [hT1, eT]
          · have nb := nbq q hq
            simp only [↓R0, R1, simprocAttr, -Int.reduceAbs, nb]
            exact hh q hq
        · have h4' := eq_false h4
          simp only [↓R0, R1, simprocAttr, -Int.reduceAbs, t0, t3, t5, t12, t13, t14, c1, c1', b0, hbb, nk, q1, q2, q3, q4, hm, hm', tm1, z1, z2, w1, pcl_len, pcl_ok, pcl_tk, pcl_x, pcl_y, pp_st, q_len, q_ok, q_tk, o1, u1, u2, t1, gA, gB, gT, gT', oF, h1', h2', h3', h4', m0, m2, Bool.not_true, Bool.not_false]
          refine ⟨c - 1, by omega, i + 1, M + 2, by omega, ?_, rfl, hno', fun q hq => ?_, by omega, rfl⟩
          · rw [hT1, eT]
          · have nb := nbq q hq
            simp only [↓R0, R1, simprocAttr, -Int.reduceAbs, nb]
            exact hh q hq
  · have h1' := eq_false h1
    by_cases h2 : x.2.v < A.2.v
    · have h2' := eq_true h2
      by_cases h4 : CR < 0
      · have h4' := eq_true h4
        have h3' : (0 < CR) = False := eq_false (by grind)
        have eT : T1 = T0 + 1 := by rw [eT]; simp [h1', h2', h4', h3']
        simp only [↓R0, R1, simprocAttr, -Int.reduceAbs, t0, t3, t5, t12, t13, t14, c1, c1', b0, hbb, nk, q1, q2, q3, q4, hm, hm', tm1, z1, z2, w1, pcl_len, pcl_ok, pcl_tk, pcl_x, pcl_y, pp_st, q_len, q_ok, q_tk, o1, u1, u2, t1, gA, gB, gT, gT', oF, h1', h2', h3', h4', m0, m2, Bool.not_true, Bool.not_false]
        refine ⟨c - 1, by omega, i + 1, M + 2, by omega, ?_, rfl, hno', fun q hq => ?_, by omega, rfl⟩
        · rw [hT1, eT]
        · have nb := nbq q hq
          simp only [↓R0, R1, simprocAttr, -Int.reduceAbs, nb]
          exact hh q hq
      · have h4' := eq_false h4
        have eT : T1 = T0 := by rw [eT]; simp [h1', h2', h4']
        by_cases h3 : 0 < CR
        · have h3' := eq_true h3
          simp only [↓R0, R1, simprocAttr, -Int.reduceAbs, t0, t3, t5, t12, t13, t14, c1, c1', b0, hbb, nk, q1, q2, q3, q4, hm, hm', tm1, z1, z2, w1, pcl_len, pcl_ok, pcl_tk, pcl_x, pcl_y, pp_st, q_len, q_ok, q_tk, o1, u1, u2, t1, gA, gB, gT, gT', oF, h1', h2', h3', h4', m0, m2, Bool.not_true, Bool.not_false]
          refine ⟨c - 1, by omega, i + 1, M + 2, by omega, ?_, rfl, hno', fun q hq => ?_, by omega, rfl⟩
          · rw [hT1, eT]
          · have nb := nbq q hq
            simp only [↓R0, R1, simprocAttr, -Int.reduceAbs, nb]
            exact hh q hq
        · have h3' := eq_false h3
          simp only [↓R0, R1, simprocAttr, -Int.reduceAbs, t0, t3, t5, t12, t13, t14, c1, c1', b0, hbb, nk, q1, q2, q3, q4, hm, hm', tm1, z1, z2, w1, pcl_len, pcl_ok, pcl_tk, pcl_x, pcl_y, pp_st, q_len, q_ok, q_tk, o1, u1, u2, t1, gA, gB, gT, gT', oF, h1', h2', h3', h4', m0, m2, Bool.not_true, Bool.not_false]
          refine ⟨c - 1, by omega, i + 1, M + 2, by omega, ?_, rfl, hno', fun q hq => ?_, by omega, rfl⟩
          · rw [hT1, eT]
          · have nb := nbq q hq
            simp only [↓R0, R1, simprocAttr, -Int.reduceAbs, nb]
            exact hh q hq
    · have h2' := eq_false h2
      have eT : T1 = T0 := by rw [eT]; simp [h1', h2']
      simp only [↓R0, R1, simprocAttr, -Int.reduceAbs, t0, t3, t5, t12, t13, t14, c1, c1', b0, hbb, nk, q1, q2, q3, q4, hm, hm', tm1, z1, z2, w1, pcl_len, pcl_ok, pcl_tk, pcl_x, pcl_y, pp_st, q_len, q_ok, q_tk, o1, u1, u2, t1, gA, gB, gT, gT', oF, h1', h2', m0, m2, Bool.not_true, Bool.not_false]
      refine ⟨c - 1, by omega, i + 1, M + 2, by omega, ?_, rfl, hno', fun q hq => ?_, by omega, rfl⟩
      · rw [hT1, eT]
      · have nb := nbq q hq
        simp only [↓R0, R1, simprocAttr, -Int.reduceAbs, nb]
        exact hh q hq
end Go.Eng
end
section
set_option linter.unusedVariables false
set_option linter.unusedSimpArgs false
set_option linter.unusedSectionVars false
set_option maxRecDepth 20000
namespace Go.Eng
open Go Go.Proofs Go.IntWalk
def rvI (l : List PQ) (i : Nat) : List PQ := (List.range l.length).map fun q => if q < i ∨ l.length - 1 - i < q then pqAt l (l.length - 1 - q) else pqAt l q
theorem rvI_len (l : List PQ) (i : Nat) : (rvI l i).length = l.length := by unfold rvI; rw [List.length_map, List.length_range]
theorem rvI_at {l : List PQ} {i q : Nat} (h : q < l.length) : (rvI l i)[q]? = some (if q < i ∨ l.length - 1 - i < q then pqAt l (l.length - 1 - q) else pqAt l q) := by
  unfold rvI
  rw [List.getElem?_map, List.getElem?_range h]; rfl
theorem rvI_pq {l : List PQ} {i q : Nat} (h : q < l.length) : pqAt (rvI l i) q = if q < i ∨ l.length - 1 - i < q then pqAt l (l.length - 1 - q) else pqAt l q := by
  unfold pqAt
  rw [show (rvI l i)[q]? = _ from rvI_at h]; rfl
theorem rvI_0 (l : List PQ) : rvI l 0 = l := List.ext_getElem? fun q => by
  by_cases h : q < l.length
  · rw [rvI_at h, if_neg (by omega), pqAt_some h]
  · rw [List.getElem?_eq_none (by rw [rvI_len]; omega), List.getElem?_eq_none (by omega)]
theorem rvI_end {l : List PQ} {i : Nat} (h : l.length ≤ 2 * i + 1) : rvI l i = l.reverse := List.ext_getElem? fun q => by
  by_cases hq : q < l.length
  · rw [rvI_at hq, List.getElem?_reverse hq, pqAt_some (i := l.length - 1 - q) (by omega)]
    by_cases c : q < i ∨ l.length - 1 - i < q
    · rw [if_pos c]
    · rw [if_neg c]
      have : q = l.length - 1 - q := by omega
      rw [← this]
  · rw [List.getElem?_eq_none (by rw [rvI_len]; omega), List.getElem?_eq_none (by rw [List.length_reverse]; omega)]
theorem rvI_step {l : List PQ} {i : Nat} (h : 2 * i + 1 < l.length) : ((rvI l i).set i (pqAt l (l.length - 1 - i))).set (l.length - 1 - i) (pqAt l i) = rvI l (i + 1) := List.ext_getElem? fun q => by
  by_cases hq : q < l.length
  · rw [rvI_at hq, List.getElem?_set, List.getElem?_set]
    simp only [List.length_set, rvI_len]
    by_cases c1 : l.length - 1 - i = q
    · rw [if_pos c1, if_pos (by omega), if_pos (by omega), ← c1, show l.length - 1 - (l.length - 1 - i) = i by omega]
    · rw [if_neg c1]
      by_cases c2 : i = q
      · rw [if_pos c2, if_pos (by omega), if_pos (by omega), c2]
      · rw [if_neg c2, rvI_at hq]
        by_cases c3 : q < i ∨ l.length - 1 - i < q
        · rw [if_pos c3, if_pos (by omega)]
        · rw [if_neg c3, if_neg (by omega)]
  · rw [List.getElem?_eq_none (by simp [rvI_len]; omega), List.getElem?_eq_none (by rw [rvI_len]; omega)]
open Classical in
noncomputable def spRev2 : List Value → Heap → Option (Value × Nat × Blk)
  | [.slice (some ⟨k, 0, none⟩) n c], h => match decPts h (.slice (some ⟨k, 0, none⟩) n c), hget h k with
    | some l, some blk => if blk.cells = ptC l ∧ blk.sz = 6 ∧ l.length ≤ 1000 then some (.tuple ⟨[]⟩, k, { blk with cells := ptC l.reverse }) else none
    | _, _ => none
  | _, _ => none
theorem rev2_of {h : Heap} {k n c e : Nat} {x : Bool} {l : List PQ} (hx : decPts h (.slice (some ⟨k, 0, none⟩) n c) = some l) (hb : hget h k = some ⟨e, 6, x, ptC l⟩) (hl : l.length ≤ 1000) :
    spRev2 [.slice (some ⟨k, 0, none⟩) n c] h = some (.tuple ⟨[]⟩, k, ⟨e, 6, x, ptC l.reverse⟩) := by
  unfold spRev2
  simp only [hx, hb]
  exact if_pos ⟨trivial, trivial, hl⟩
def c23 : ICode :=
  (.seq (.reg [qq 4 (.mv (.t 0)), qq 5 (.lensl (.t 4)), qq 6 (.bin .sub (.t 5) (ci 1)), qq 2 (.mv (ci 0)), qq 3 (.mv (.t 6))]) (.block 0 (.loop (.seq (.seq (.reg [qq 7 (.mv (.t 2)), qq 8 (.mv (.t 3)), qq 9 (.bin .lss (.t 7) (.t 8))]) (.cond (.t 9) .skip (.exit 0))) (.seq (.block 1 (.dreg [qu 14 (.mv (.t 0)), qu 15 (.mv (.t 2)), qu 16 (.mv (.t 0)), qu 17 (.mv (.t 3)), qu 18 (.mv (.t 0)), qu 19 (.mv (.t 3)), qu 20 (.ixsl 6 (.t 18) (.t 19)), qu 21 (.load true 6 (.t 20)), qu 22 (.mv (.t 0)), qu 23 (.mv (.t 2)), qu 24 (.ixsl 6 (.t 22) (.t 23)), qu 25 (.load true 6 (.t 24)), qu 26 (.ixsl 6 (.t 14) (.t 15)), qm (.store 6 (.t 26) (.t 21)), qu 27 (.ixsl 6 (.t 16) (.t 17)), qm (.store 6 (.t 27) (.t 25))])) (.reg [qq 10 (.mv (.t 2)), qq 11 (.bin .add (.t 10) (ci 1)), qq 12 (.mv (.t 3)), qq 13 (.bin .sub (.t 12) (ci 1)), qq 2 (.mv (.t 11)), qq 3 (.mv (.t 13))]))))))
theorem tr23 : trFun Tryd.prog 23 = some ⟨28, [], c23⟩ := by kernel_rfl
set_option maxHeartbeats 8000000 in
theorem ok_rev2 : SpecOK Tryd.prog 23 (upS spRev2) := by
  refine up_run (env_nil _) mixed tr23 ?_ ?_
  · intro args h h' v hle e
    unfold spRev2 at e ⊢
    split at e
    · split at e
      · rename_i l blk h1 h2
        simp only [decPts_mono hle h1, hle _ _ h2]; exact e
      · cases e
    · cases e
  intro args v k' b h N hG hN
  unfold spRev2 at hG
  split at hG
  case h_2 => cases hG
  rename_i k n c
  split at hG
  case h_2 => cases hG
  rename_i l blk hx hb
  split at hG
  case isFalse => cases hG
  rename_i hs
  obtain ⟨hc, hz, l1000⟩ := hs
  have hn : n = l.length := by
    obtain ⟨a', c', x⟩ := decPts_sl hx
    injection x with _ x2 _
  subst hn
  cases hG
  obtain ⟨e, s, x, cs⟩ := blk
  simp only at hc hz
  subst hc hz
  refine ⟨hN _ _ hb, ptC_base _, rfl, by simp, ?_⟩
  have kN := hN _ _ hb
  have wl : IntKind.i64.wrap ((l.length : Int) - 1) = (l.length : Int) - 1 - ((0 : Nat) : Int) := by rw [i64_in _ (by omega)]; omega
  simp only [c23, G0, Nat.reduceAdd]
  simp only [↓R0, R1, simprocAttr, -Int.reduceAbs, wl]
  refine lp_parts (fun d tm hp nx => ∃ (i : Nat), d + i = l.length ∧ 2 * i ≤ l.length + 1 ∧ tmget tm 0 = .slice (some ⟨k', 0, none⟩) l.length c ∧ tmget tm 2 = .int .i64 (i : Nat) ∧ tmget tm 3 = .int .i64 ((l.length : Int) - 1 - i) ∧
      hget hp k' = some ⟨e, 6, x, ptC (rvI l i)⟩ ∧ (∀ q, q < N → q ≠ k' → hget hp q = hget h q) ∧ nx = N + 0) ?_ l.length
    ⟨0, by omega, by omega, ?_, ?_, ?_, ?_, fun q _ _ => rfl, rfl⟩
  rotate_left
  all_goals first | (simp only [↓R0, R1, simprocAttr, -Int.reduceAbs]; done) | (simp only [↓R0, R1, simprocAttr, -Int.reduceAbs]; rfl) | (rw [rvI_0]; exact hb) | skip
  rintro d tm hp nx ⟨i, hd, h2i, t0, t2, t3, bk, hh, hnx⟩
  rw [hnx]
  clear hnx nx
  by_cases c1 : 2 * i + 1 < l.length
  case neg =>
    have c1' : ((i : Int) < (l.length : Int) - 1 - (i : Int)) = False := eq_false (by omega)
    rw [rvI_end (by omega)] at bk
    simp only [↓R0, R1, simprocAttr, -Int.reduceAbs, t0, t2, t3, c1', FinU, isEnd, resL, res1]
    exact ⟨_, rfl, rfl, bk, hh⟩
  have c1' : ((i : Int) < (l.length : Int) - 1 - (i : Int)) = True := eq_true (by omega)
  obtain ⟨j, hj⟩ : ∃ j, j = l.length - 1 - i := ⟨_, rfl⟩
  have ej : (l.length : Int) - 1 - (i : Int) = (j : Int) := by omega
  rw [ej] at t3 c1'
  have il : (i < l.length) = True := eq_true (by omega)
  have jl : (j < l.length) = True := eq_true (by omega)
  have il' : ((i : Int) < (l.length : Int)) = True := eq_true (by omega)
  have jl' : ((j : Int) < (l.length : Int)) = True := eq_true (by omega)
  have w1 : IntKind.i64.wrap ((i : Int) + 1) = ((i + 1 : Nat) : Int) := by rw [i64_in _ (by omega)]; omega
  have w2 : IntKind.i64.wrap ((j : Int) - 1) = (l.length : Int) - 1 - ((i + 1 : Nat) : Int) := by rw [i64_in _ (by omega)]; omega
  have pl := ptC_len (rvI l i)
  rw [rvI_len] at pl
  have a1 := ptC_at (rvI l i) i (by rw [rvI_len]; omega)
  have a2 := ptC_at (rvI l i) j (by rw [rvI_len]; omega)
  rw [rvI_pq (by omega), if_neg (by omega)] at a1 a2
  have s1 := ptC_set (rvI l i) i (pqAt l j) (by rw [rvI_len]; omega)
  have s2 := ptC_set ((rvI l i).set i (pqAt l j)) j (pqAt l i) (by rw [List.length_set, rvI_len]; omega)
  have st := rvI_step (l := l) (i := i) c1
  rw [← hj] at st
  rw [st] at s2
  have b1 : (i * 6 + 6 ≤ l.length * 6) = True := eq_true (by omega)
  have b2 : (j * 6 + 6 ≤ l.length * 6) = True := eq_true (by omega)
  have pl2 : (ptC ((rvI l i).set i (pqAt l j))).length = l.length * 6 := by rw [ptC_len, List.length_set, rvI_len]
  generalize ptC (rvI l i) = P0 at *
  generalize ptC ((rvI l i).set i (pqAt l j)) = P1 at *
  simp only [↓R0, R1, simprocAttr, -Int.reduceAbs, t0, t2, t3, c1', il, jl, il', jl', bk, pl, pl2, a1, a2, s1, s2, b1, b2, pcl_len, pcl_ok, w1, w2]
  refine ⟨d - 1, by omega, i + 1, by omega, by omega, rfl, rfl, rfl, fun q h1 h2 => ?_⟩
  have nk : (k' = q) = False := eq_false (fun e => h2 e.symm)
  simp only [↓R0, R1, simprocAttr, -Int.reduceAbs, nk]
  exact hh q h1 h2
def zs6 (n : Nat) : List Value := (List.replicate n [.bool false, .string ⟨⟨[]⟩⟩, .string ⟨⟨[]⟩⟩, .bool false, .string ⟨⟨[]⟩⟩, .string ⟨⟨[]⟩⟩]).flatten
theorem zs6_len (n : Nat) : (zs6 n).length = n * 6 := by unfold zs6; simp
theorem zs6_add (n m : Nat) : zs6 (n + m) = zs6 n ++ zs6 m := by unfold zs6; rw [← List.flatten_append, List.replicate_append_replicate]
theorem zs6_base (n : Nat) : (zs6 n).all isBase = true := by
  induction n with
  | zero => rfl
  | succ n ih => rw [zs6_add, List.all_append, ih]; rfl
theorem zs6_ok (n : Nat) : (zs6 n).all okCell = true := by
  induction n with
  | zero => rfl
  | succ n ih => rw [zs6_add, List.all_append, ih]; rfl
theorem setR_full : ∀ (xs l : List Value), xs.length = l.length → setR l 0 xs = xs := by
  intro xs
  induction xs with
  | nil => intro l h; simp only [setR]; exact List.eq_nil_of_length_eq_zero (by simpa using h.symm)
  | cons x xs ih =>
    intro l h
    cases l with
    | nil => simp at h
    | cons y l =>
      have : setR (y :: l) 0 (x :: xs) = x :: setR l 0 xs := by
        have g : ∀ (xs l : List Value) (i : Nat) (z : Value), setR (z :: l) (i + 1) xs = z :: setR l i xs := by
          intro xs
          induction xs with
          | nil => intro l i z; rfl
          | cons a xs ih => intro l i z; simp only [setR, List.set_cons_succ]; exact ih _ _ _
        simp only [setR, List.set_cons_zero]
        exact g xs l 0 x
      rw [this, ih l (by simpa using h)]
def spGrow2 : List Value → Heap → Option NewL
  | [.slice none 0 0, .int .i64 n], _ => if 0 < n ∧ n ≤ 2000 then some ⟨1, fun σ => .slice (some ⟨σ 0, 0, none⟩) 0 n.toNat, fun _ => 26, fun _ => 6, fun _ _ => zs6 n.toNat⟩ else none
  | _, _ => none
def c39 : ICode :=
  (.seq (.reg [qq 4 (.mv (.c (.slice none 0 0)))]) (.seq (.seq (.reg [qq 5 (.mv (.t 1)), qq 6 (.bin .lss (.t 5) (ci 0))]) (.cond (.t 6) .fail .skip)) (.seq (.seq (.reg [qq 8 (.mv (.t 1)), qq 9 (.mv (.t 0)), qq 10 (.capz (.t 9)), qq 11 (.mv (.t 0)), qq 12 (.lensl (.t 11)), qq 13 (.bin .sub (.t 10) (.t 12)), qq 14 (.bin .sub (.t 8) (.t 13)), qq 1 (.mv (.t 14))]) (.seq (.reg [qq 15 (.mv (.t 1)), qq 16 (.bin .gtr (.t 15) (ci 0))]) (.cond (.t 16) (.reg [qq 17 (.mv (.t 0)), qq 18 (.mv (.t 0)), qq 19 (.capz (.t 18)), qq 20 (.slsl 6 (.t 17) none (some (.t 19))), qq 21 (.mv (.t 1)), qq 22 (.appz 26 6 80 [(.bool false), e0, e0, (.bool false), e0, e0] (.t 20) (.t 21)), qq 23 (.mv (.t 0)), qq 24 (.lensl (.t 23)), qq 25 (.slsl 6 (.t 22) none (some (.t 24))), qq 0 (.mv (.t 25))]) .skip))) (.seq (.reg [qq 26 (.mv (.t 0)), qq 4 (.mv (.t 26))]) .ret))))
theorem tr39 : trFun Tryd.prog 39 = some ⟨27, [.t 4], c39⟩ := by kernel_rfl
set_option maxHeartbeats 8000000 in
theorem ok_grow2 : SpecOK Tryd.prog 39 (nwL spGrow2) := by
  refine newL_run (env_nil _) mixed tr39 ?_ ?_
  · intro args h h' r hle e
    unfold spGrow2 at e ⊢
    split at e
    · exact e
    · cases e
  intro args h N r hG hN
  unfold spGrow2 at hG
  split at hG
  case h_2 => cases hG
  rename_i n
  split at hG
  case isFalse => cases hG
  rename_i hs
  obtain ⟨n0, n2⟩ := hs
  obtain ⟨n, rfl⟩ := Int.eq_ofNat_of_zero_le (show 0 ≤ n by omega)
  rw [Int.toNat_natCast] at hG
  cases hG
  refine ⟨⟨fun β σ σ' b1 _ => VR.sl (σ 0) 0 _ _ ⟨σ' 0, 0, []⟩ (b1 0 Nat.one_pos), fun β σ σ' _ _ i hi => VRs.of_base (zs6_base n)⟩, by simp, ?_⟩
  have nn : ((n : Int) < 0) = False := eq_false (by omega)
  have n0' : ((n : Int) > 0) = True := eq_true (by omega)
  have nz : ¬ n = 0 := by omega
  have nz' : (n = 0) = False := eq_false nz
  have w1 : IntKind.i64.wrap (n : Int) = (n : Int) := i64_in _ (by omega)
  have w2 : IntKind.i64.wrap ((n : Int) - 0) = (n : Int) := by rw [i64_in _ (by omega)]; omega
  have g0 : (0 ≤ (n : Int)) = True := eq_true (by omega)
  have g1 : (80 * (n : Int) ≤ 281474976710656) = True := eq_true (by omega)
  have g2 : ((n : Int) ≤ 9223372036854775807) = True := eq_true (by omega)
  have g3 : (n * 80 ≤ 140737488355328) = True := eq_true (by omega)
  have zl := zs6_len n
  have zo := zs6_ok n
  have ez : (List.replicate n [.bool false, .string ⟨⟨[]⟩⟩, .string ⟨⟨[]⟩⟩, .bool false, .string ⟨⟨[]⟩⟩, .string ⟨⟨[]⟩⟩]).flatten = zs6 n := rfl
  have mk : mkSl (N + 0) 0 6 n 0 0 = .slice (some ⟨N + 0, 0, none⟩) 0 n := by unfold mkSl; rw [if_neg (by omega)]; simp
  have tk : (zs6 n).take (n * 6) = zs6 n := List.take_of_length_le (by omega)
  generalize zs6 n = ZZ at *
  simp only [c39, G0, Nat.reduceAdd]
  simp only [↓R0, R1, simprocAttr, -Int.reduceAbs, nn, n0', w1, w2, nz, nz', g0, g1, g2, g3, ez, zl, zo, tk, mk, Int.toNat_natCast, FinL, isEnd, resL, res1]
  refine ⟨fun _ => N + 0, _, fun i hi => (by omega : N ≤ N + 0), fun i j (hi : i < 1) (hj : j < 1) _ => by omega, rfl, rfl, fun i hi => ⟨false, ?_⟩, fun q hq => ?_⟩
  · first | (simp only [↓R0, R1, simprocAttr, -Int.reduceAbs]; done) | (simp only [↓R0, R1, simprocAttr, -Int.reduceAbs]; rfl)
  · have nb : ∀ d, (N + d = q) = False := fun d => eq_false (by omega)
    simp only [↓R0, R1, simprocAttr, -Int.reduceAbs, nb]
def spCat2 : List Value → Heap → Option NewL
  | [.slice (some ⟨k, 0, none⟩) 2 _], h => match hget h k with
    | some ⟨_, _, _, [s1, s2]⟩ => match decPts h s1, decPts h s2 with
      | some l1, some l2 => if l1.length + l2.length ≤ 1000 ∧ 0 < l1.length + l2.length then some ⟨1, fun σ => .slice (some ⟨σ 0, 0, none⟩) (l1.length + l2.length) (l1.length + l2.length), fun _ => 26, fun _ => 6, fun _ _ => ptC (l1 ++ l2)⟩ else none
      | _, _ => none
    | _ => none
  | _, _ => none
def c25 : ICode :=
  (.seq (.reg [qq 2 (.mv (.c (.slice none 0 0)))]) (.seq (.reg [qq 3 (.mv (ci 0))]) (.seq (.seq (.reg [qq 9 (.mv (.t 0)), qq 10 (.lensl (.t 9)), qq 11 (.mv (ci 0))]) (.block 0 (.loop (.seq (.reg [qq 12 (.bin .lss (.t 11) (.t 10))]) (.seq (.cond (.t 12) .skip (.exit 0)) (.seq (.block 1 (.seq (.reg [qq 13 (.ixsl 1 (.t 9) (.t 11)), qq 14 (.load false 1 (.t 13)), qq 5 (.mv (.t 14))]) (.seq (.reg [qq 15 (.mv (.t 3)), qq 16 (.mv (.t 5)), qq 17 (.lensl (.t 16)), qq 18 (.bin .add (.t 15) (.t 17)), qq 3 (.mv (.t 18))]) (.seq (.reg [qq 19 (.mv (.t 3)), qq 20 (.bin .lss (.t 19) (ci 0))]) (.cond (.t 20) .fail .skip))))) (.reg [qq 22 (.bin .add (.t 11) (ci 1)), qq 11 (.mv (.t 22))]))))))) (.seq (.reg [qq 23 (.mv (.t 3)), qq 24 (.call 39 [(.c (.slice none 0 0)), (.t 23)]), qq 6 (.mv (.t 24))]) (.seq (.seq (.reg [qq 25 (.mv (.t 0)), qq 26 (.lensl (.t 25)), qq 27 (.mv (ci 0))]) (.block 2 (.loop (.seq (.reg [qq 28 (.bin .lss (.t 27) (.t 26))]) (.seq (.cond (.t 28) .skip (.exit 2)) (.seq (.block 3 (.seq (.reg [qq 29 (.ixsl 1 (.t 25) (.t 27)), qq 30 (.load false 1 (.t 29)), qq 8 (.mv (.t 30))]) (.reg [qq 31 (.mv (.t 6)), qq 32 (.mv (.t 8)), qq 33 (.app 26 6 80 (.t 31) (.t 32)), qq 6 (.mv (.t 33))]))) (.reg [qq 34 (.bin .add (.t 27) (ci 1)), qq 27 (.mv (.t 34))]))))))) (.seq (.reg [qq 35 (.mv (.t 6)), qq 2 (.mv (.t 35))]) .ret))))))
theorem tr25 : trFun Tryd.prog 25 = some ⟨36, [.t 2], c25⟩ := by kernel_rfl
set_option maxHeartbeats 8000000 in
theorem ok_cat2 : SpecOK Tryd.prog 25 (nwL spCat2) := by
  refine newL_run (env_cons ok_grow2 (env_nil _)) mixed tr25 ?_ ?_
  · intro args h h' r hle e
    unfold spCat2 at e ⊢
    split at e
    · split at e
      · rename_i hb
        simp only [hle _ _ hb]
        split at e
        · rename_i h1 h2
          simp only [decPts_mono hle h1, decPts_mono hle h2]; exact e
        · cases e
      · cases e
    · cases e
  intro args h N r hG hN
  unfold spCat2 at hG
  split at hG
  case h_2 => cases hG
  rename_i k c
  split at hG
  case h_2 => cases hG
  rename_i e s x s1 s2 hb
  split at hG
  case h_2 => cases hG
  rename_i l1 l2 hx1 hx2
  split at hG
  case isFalse => cases hG
  rename_i hs
  obtain ⟨hs, hp0⟩ := hs
  cases hG
  refine ⟨⟨fun β σ σ' b1 _ => VR.sl (σ 0) 0 _ _ ⟨σ' 0, 0, []⟩ (b1 0 Nat.one_pos), fun β σ σ' _ _ i hi => VRs.of_base (ptC_base _)⟩, by simp, ?_⟩
  obtain ⟨a1, c1, rfl⟩ := decPts_sl hx1
  obtain ⟨a2, c2, rfl⟩ := decPts_sl hx2
  have kN := hN _ _ hb
  have nk : ∀ d, (N + d = k) = False := fun d => eq_false (by omega)
  have nk0 : (N = k) = False := eq_false (by omega)
  have nk2 : (N + 0 + 0 = k) = False := eq_false (by omega)
  have e0 : ([Value.slice a1 l1.length c1, .slice a2 l2.length c2] : List Value)[0]? = some (.slice a1 l1.length c1) := rfl
  have e1 : ([Value.slice a1 l1.length c1, .slice a2 l2.length c2] : List Value)[1]? = some (.slice a2 l2.length c2) := rfl
  have w1 : IntKind.i64.wrap (0 + (l1.length : Int)) = (l1.length : Int) := by rw [i64_in _ (by omega)]; omega
  have w1' : IntKind.i64.wrap (l1.length : Int) = (l1.length : Int) := by rw [i64_in _ (by omega)]
  have w2 : IntKind.i64.wrap ((l1.length : Int) + (l2.length : Int)) = ((l1.length + l2.length : Nat) : Int) := by rw [i64_in _ (by omega)]; omega
  have p1 : ((l1.length : Int) < 0) = False := eq_false (by omega)
  have p2 : (((l1.length + l2.length : Nat) : Int) < 0) = False := eq_false (by omega)
  have gr : spGrow2 [.slice none 0 0, .int .i64 ((l1.length + l2.length : Nat) : Int)] h = some ⟨1, fun σ => .slice (some ⟨σ 0, 0, none⟩) 0 (l1.length + l2.length), fun _ => 26, fun _ => 6, fun _ _ => zs6 (l1.length + l2.length)⟩ := by
    unfold spGrow2
    simp only [Int.toNat_natCast]
    rw [if_pos ⟨by omega, by omega⟩]
  have nwG : ∀ (args : List Value) (hp : Heap) (k : Nat), nwL spGrow2 args hp k = (spGrow2 args hp).map fun r => (r.val (k + ·), newH r (k + ·) r.m, r.m) := fun _ _ _ => rfl
  have xN : ∀ b, ∀ q, q < N → hget ((N + 0, b) :: h) q = hget h q := fun b q hq => by
    simp only [hget, show (N + 0 = q) = False from eq_false (by omega), if_false]
  have src1 : ∀ b, srcOf ((N + 0, b) :: h) 6 l1.length a1 = some (ptC l1) := fun b => pts_src (ext_pts hN hx1 (xN b))
  have xN2 : ∀ b b', ∀ q, q < N → hget ((N + 0, b) :: (N + 0, b') :: h) q = hget h q := fun b b' q hq => by
    simp only [hget, show (N + 0 = q) = False from eq_false (by omega), if_false]
  have src2 : ∀ b b', srcOf ((N + 0, b) :: (N + 0, b') :: h) 6 l2.length a2 = some (ptC l2) := fun b b' => pts_src (ext_pts hN hx2 (xN2 b b'))
  have src2' : ∀ b, srcOf ((N + 0, b) :: h) 6 l2.length a2 = some (ptC l2) := fun b => pts_src (ext_pts hN hx2 (xN b))
  have n00 : N + 0 + 0 = N + 0 := rfl
  have zl := zs6_len (l1.length + l2.length)
  have z1 := ptC_len l1
  have z2 := ptC_len l2
  have o1 := ptC_ok l1
  have o2 := ptC_ok l2
  have st1 : setR (zs6 (l1.length + l2.length)) 0 (ptC l1) = ptC l1 ++ zs6 l2.length := by
    rw [zs6_add, setR_app_left _ _ _ _ (by rw [zs6_len, z1]; omega), setR_full _ _ (by rw [zs6_len, z1])]
  have st2 : setR (ptC l1 ++ zs6 l2.length) (l1.length * 6) (ptC l2) = ptC (l1 ++ l2) := by
    rw [setR_app_right _ _ _ _ (by omega), z1, Nat.sub_self, setR_full _ _ (by rw [zs6_len, z2]), ptC_app]
  have sl2 : (ptC l1 ++ zs6 l2.length).length = (l1.length + l2.length) * 6 := by rw [List.length_append, z1, zs6_len]; omega
  have q1 : (l1.length ≤ l1.length + l2.length) = True := eq_true (by omega)
  have q2 : (l1.length * 6 ≤ (l1.length + l2.length) * 6) = True := eq_true (by omega)
  have q3 : (l1.length * 80 ≤ 140737488355328) = True := eq_true (by omega)
  have q4 : ((l1.length + l2.length) * 80 ≤ 140737488355328) = True := eq_true (by omega)
  have z00 : ∀ l : List PQ, l.length = 0 → ptC l = [] := fun l h => by rw [List.eq_nil_of_length_eq_zero h]; rfl
  generalize hZ : zs6 (l1.length + l2.length) = ZA at *
  generalize hZ2 : ptC l1 ++ zs6 l2.length = ZB at *
  by_cases y1 : l1.length = 0
  · have y2 : ¬ l2.length = 0 := by omega
    have y1' := eq_true y1
    have y2' := eq_false y2
    have e12 : ptC (l1 ++ l2) = ptC l2 := by rw [List.eq_nil_of_length_eq_zero y1]; rfl
    have st3 : setR ZA 0 (ptC l2) = ptC l2 := setR_full _ _ (by rw [z2, ← hZ, zs6_len, y1]; omega)
    rw [e12]
    have wz : IntKind.i64.wrap (0 + (l2.length : Int)) = (l2.length : Int) := by rw [i64_in _ (by omega)]; omega
    have pz : ((l2.length : Int) < 0) = False := eq_false (by omega)
    simp only [y1, Nat.zero_add] at *
    simp only [c25, G0, Nat.reduceAdd]
    simp only [↓R0, R1, simprocAttr, -Int.reduceAbs]
    refine lp_step ?_
    simp only [↓R0, R1, simprocAttr, -Int.reduceAbs, hb, e0, w1, w1', p1]
    refine lp_step ?_
    simp only [↓R0, R1, simprocAttr, -Int.reduceAbs, hb, e1, w2, p2, wz, pz]
    refine lp_step ?_
    simp only [↓R0, R1, simprocAttr, -Int.reduceAbs, gr, nwG, newHL1, n00]
    refine lp_step ?_
    simp only [↓R0, R1, simprocAttr, -Int.reduceAbs, hb, nk, nk0, nk2, n00, e0, src1, y1']
    refine lp_step ?_
    simp only [↓R0, R1, simprocAttr, -Int.reduceAbs, hb, nk, nk0, nk2, n00, e1, src2', y2', st3, zl, z2, o2, q3, q4]
    refine lp_step ?_
    simp only [↓R0, R1, simprocAttr, -Int.reduceAbs, FinL, isEnd, resL, res1]
    refine ⟨fun _ => N + 0, _, fun i hi => Nat.le_refl N, fun i j (hi : i < 1) (hj : j < 1) _ => by omega, rfl, rfl, fun i hi => ⟨false, ?_⟩, fun q hq => ?_⟩
    · first | (simp only [↓R0, R1, simprocAttr, -Int.reduceAbs]; done) | (simp only [↓R0, R1, simprocAttr, -Int.reduceAbs]; rfl)
    · have nb : ∀ d, (N + d = q) = False := fun d => eq_false (by omega)
      have nb2 : (N + 0 + 0 = q) = False := eq_false (by omega)
      simp only [↓R0, R1, simprocAttr, -Int.reduceAbs, nb, nb2]
  have y1' := eq_false y1
  by_cases y2 : l2.length = 0
  · have y2' := eq_true y2
    have e12 : ptC (l1 ++ l2) = ptC l1 := by rw [List.eq_nil_of_length_eq_zero (l := l2) y2, List.append_nil]
    have st3 : setR ZA 0 (ptC l1) = ptC l1 := setR_full _ _ (by rw [z1, ← hZ, zs6_len, y2]; omega)
    rw [e12]
    have wz : IntKind.i64.wrap ((l1.length : Int) + 0) = (l1.length : Int) := by rw [i64_in _ (by omega)]; omega
    simp only [y2, Nat.add_zero l1.length] at *
    have ql : (l1.length ≤ l1.length) = True := eq_true (Nat.le_refl _)
    simp only [c25, G0, Nat.reduceAdd]
    simp only [↓R0, R1, simprocAttr, -Int.reduceAbs]
    refine lp_step ?_
    simp only [↓R0, R1, simprocAttr, -Int.reduceAbs, hb, e0, w1, w1', p1]
    refine lp_step ?_
    simp only [↓R0, R1, simprocAttr, -Int.reduceAbs, hb, e1, w2, w1', wz, p1, p2]
    refine lp_step ?_
    simp only [↓R0, R1, simprocAttr, -Int.reduceAbs, gr, nwG, newHL1, n00]
    refine lp_step ?_
    simp only [↓R0, R1, simprocAttr, -Int.reduceAbs, hb, nk, nk0, nk2, n00, e0, src1, y1', st3, zl, z1, o1, q1, q2, q3, q4, ql, Nat.zero_add, Nat.zero_mul]
    refine lp_step ?_
    simp only [↓R0, R1, simprocAttr, -Int.reduceAbs, hb, nk, nk0, nk2, n00, e1, src2, y2', ql]
    refine lp_step ?_
    simp only [↓R0, R1, simprocAttr, -Int.reduceAbs, FinL, isEnd, resL, res1]
    refine ⟨fun _ => N + 0, _, fun i hi => Nat.le_refl N, fun i j (hi : i < 1) (hj : j < 1) _ => by omega, rfl, rfl, fun i hi => ⟨false, ?_⟩, fun q hq => ?_⟩
    · first | (simp only [↓R0, R1, simprocAttr, -Int.reduceAbs]; done) | (simp only [↓R0, R1, simprocAttr, -Int.reduceAbs]; rfl)
    · have nb : ∀ d, (N + d = q) = False := fun d => eq_false (by omega)
      have nb2 : (N + 0 + 0 = q) = False := eq_false (by omega)
      simp only [↓R0, R1, simprocAttr, -Int.reduceAbs, nb, nb2]
  have y2' := eq_false y2
  simp only [c25, G0, Nat.reduceAdd]
  simp only [↓R0, R1, simprocAttr, -Int.reduceAbs]
  refine lp_step ?_
  simp only [↓R0, R1, simprocAttr, -Int.reduceAbs, hb, e0, w1, w1', p1]
  refine lp_step ?_
  simp only [↓R0, R1, simprocAttr, -Int.reduceAbs, hb, e1, w2, p2]
  refine lp_step ?_
  simp only [↓R0, R1, simprocAttr, -Int.reduceAbs, gr, nwG, newHL1, n00]
  refine lp_step ?_
  simp only [↓R0, R1, simprocAttr, -Int.reduceAbs, hb, nk, nk0, nk2, n00, e0, src1, y1', st1, zl, z1, o1, q1, q2, q3, q4, Nat.zero_add, Nat.zero_mul]
  refine lp_step ?_
  simp only [↓R0, R1, simprocAttr, -Int.reduceAbs, hb, nk, nk0, nk2, n00, e1, src2, y2', st2, sl2, z2, o2, q1, q2, q3, q4]
  refine lp_step ?_
  simp only [↓R0, R1, simprocAttr, -Int.reduceAbs, FinL, isEnd, resL, res1]
  refine ⟨fun _ => N + 0, _, fun i hi => Nat.le_refl N, fun i j (hi : i < 1) (hj : j < 1) _ => by omega, rfl, rfl, fun i hi => ⟨false, ?_⟩, fun q hq => ?_⟩
  · first | (simp only [↓R0, R1, simprocAttr, -Int.reduceAbs]; done) | (simp only [↓R0, R1, simprocAttr, -Int.reduceAbs]; rfl)
  · have nb : ∀ d, (N + d = q) = False := fun d => eq_false (by omega)
    have nb2 : (N + 0 + 0 = q) = False := eq_false (by omega)
    simp only [↓R0, R1, simprocAttr, -Int.reduceAbs, nb, nb2]
end Go.Eng
end
section
set_option linter.unusedVariables false
set_option linter.unusedSimpArgs false
set_option linter.unusedSectionVars false
set_option maxRecDepth 20000
namespace Go.Eng
open Go Go.Proofs Go.IntWalk
theorem pts_sub {h : Heap} {k e s a n c : Nat} {x : Bool} {l : List PQ} (hb : hget h k = some ⟨e, s, x, ptC l⟩) (hn : a + n ≤ l.length) (hc : n ≤ c) : decPts h (.slice (some ⟨k, a * 6, none⟩) n c) = some ((l.drop a).take n) := by
  have hl := ptC_len l
  unfold decPts listAt
  have hsz : a * 6 + n * 6 ≤ (ptC l).length := by omega
  have la : lay 6 h (.slice (some ⟨k, a * 6, none⟩) n c) = some (ptC ((l.drop a).take n)) := by
    have e1 : lay 6 h (.slice (some ⟨k, a * 6, none⟩) n c) = (match hget h k with
      | some blk => if n ≤ c ∧ a * 6 + n * 6 ≤ blk.cells.length then some ((blk.cells.drop (a * 6)).take (n * 6)) else none
      | none => none) := by
      unfold lay; rfl
    rw [e1, hb]
    simp only
    rw [if_pos ⟨hc, hsz⟩, ptC_drop, ptC_take]
  rw [la]
  have hlen : ((l.drop a).take n).length = n := by rw [List.length_take, List.length_drop]; omega
  show many 6 dec2 n _ = _
  refine many_some hlen fun i p hp => ?_
  have hi : i < ((l.drop a).take n).length := (List.getElem?_eq_some_iff.1 hp).1
  rw [pqAt_some hi] at hp
  cases hp
  rw [ptC_at _ i hi]; rfl
theorem qsign_of {x : Rat} {i : Nat} (h : RB x i) (hi : i ≤ 8589934591) : spQSign [.agg ⟨(RQ.of x).cells⟩] = some (.int .i64 (sg x)) := by
  have e : spQSign [.agg ⟨(RQ.of x).cells⟩] = some (.int .i64 (sv (RQ.of x).s (RQ.of x).n).sign) := if_pos ⟨by have := (ofB h hi).1; omega, by have := (ofB h hi).2; omega⟩
  rw [e]
  show some (Value.int .i64 (sv (decide (x.num < 0)) (bl x.num.natAbs)).sign) = _
  rw [sv_can]; rfl
theorem qnorm_of {p : RQ} {k : Nat} (h : p.ok k) (hk : k ≤ 8589934591) : spQNorm [.agg ⟨p.cells⟩] = some (.agg ⟨(RQ.of p.v).cells⟩) := if_pos ⟨by have := h.1; omega, by have := h.2; omega⟩
theorem half_neg {x : Rat} : sg (x / 2) < 0 ↔ x < 0 := by
  rw [sg_lt, Rat.div_lt_iff (by decide)]
  rw [Rat.zero_mul]
theorem map_pqo (l : List P2) : pvs (l.map pqo) = l := by
  unfold pvs
  rw [List.map_map]
  have : (pv2 ∘ pqo) = id := funext fun v => pqo_v v
  rw [this, List.map_id]
theorem pqo_ok {p : PQ} {k : Nat} (h : pok k p) : pok (k + 1) (pqo (pv2 p)) := ⟨RQ.of_ok h.1.rb, RQ.of_ok h.2.rb⟩
def ptsN (l : List PQ) : Prop := l.length ≤ 1000 ∧ ∀ p ∈ l, pok 1000 p
instance {l : List PQ} : Decidable (ptsN l) := by unfold ptsN; infer_instance
theorem ptsN.ok {l : List PQ} (h : ptsN l) : ptsOK l := ⟨h.1, fun p hp => (h.2 p hp).le (by omega)⟩
def nmOut (L : List P2) : Int × List P2 := if 12 < L.length then (6, []) else if profP L then (0, ncf L) else (17, [])
def nmNL (r : Int × List P2) : NewL :=
  if r.2 = [] then ⟨0, fun _ => .tuple ⟨[.slice none 0 0, .int .i64 r.1]⟩, fun _ => 0, fun _ => 0, fun _ _ => []⟩
  else ⟨1, fun σ => .tuple ⟨[.slice (some ⟨σ 0, 0, none⟩) r.2.length r.2.length, .int .i64 r.1]⟩, fun _ => 26, fun _ => 6, fun _ _ => ptC (r.2.map pqo)⟩
theorem nmNL_par (r : Int × List P2) (h : Heap) : (nmNL r).Par h := by
  unfold nmNL
  split
  · exact ⟨fun β σ σ' _ _ => .tup _ _ (.cons _ _ _ _ (.base _ rfl) (.cons _ _ _ _ (.base _ rfl) .nil)), fun β σ σ' _ _ i hi => absurd hi (Nat.not_lt_zero i)⟩
  · exact ⟨fun β σ σ' b1 _ => .tup _ _ (.cons _ _ _ _ (VR.sl (σ 0) 0 _ _ ⟨σ' 0, 0, []⟩ (b1 0 Nat.one_pos)) (.cons _ _ _ _ (.base _ rfl) .nil)), fun β σ σ' _ _ i hi => VRs.of_base (ptC_base _)⟩
def spNorm2 : List Value → Heap → Option NewL
  | [sl], h => match decPts h sl with
    | some l => if ptsN l then some (nmNL (nmOut (pvs l))) else none
    | none => none
  | _, _ => none
def bfT (L : List P2) (i : Nat) : List P2 := bflt ((cor L).take i)
theorem bfT_s {L : List P2} {i : Nat} (h : i < L.length) : bfT L (i + 1) = bfT L i ++ (if sg (cr (vt L (i + L.length - 1)) (vt L i) (vt L (i + 1))) = 0 then [] else [vt L i]) := by
  unfold bfT
  rw [take_snoc (cor_at h), flt_app]
  congr 1
  unfold bflt bnd
  simp only [List.filter_cons, List.filter_nil]
  by_cases c : cr (vt L (i + L.length - 1)) (vt L i) (vt L (i + 1)) = 0
  · rw [if_pos (sg_zero.2 c)]; simp [c]
  · rw [if_neg (fun e => c (sg_zero.1 e))]; simp [c]
theorem bfT_all (L : List P2) : bfT L L.length = bent L := by
  unfold bfT bent
  rw [← cor_len L, List.take_length]
theorem bfT_mem {L : List P2} {i : Nat} {v : P2} (h : v ∈ bfT L i) : v ∈ L := by
  unfold bfT bflt at h
  obtain ⟨c, hc, rfl⟩ := List.mem_map.1 h
  have : c ∈ cor L := List.mem_of_mem_take (List.mem_filter.1 hc).1
  have := List.mem_map_of_mem (f := fun c : P2 × P2 × P2 => c.2.1) this
  rw [cor_cur] at this
  exact this
theorem bfT_len (L : List P2) (i : Nat) : (bfT L i).length ≤ i := by
  unfold bfT bflt
  rw [List.length_map]
  exact Nat.le_trans (List.length_filter_le _ _) (by rw [List.length_take]; omega)
def GrP (hp : Heap) (N M : Nat) (O : List PQ) (s : Value) : Prop :=
  (O = [] ∧ s = .slice none 0 0) ∨ (O ≠ [] ∧ ∃ kk x, s = .slice (some ⟨kk, 0, none⟩) O.length O.length ∧ hget hp kk = some ⟨26, 6, x, ptC O⟩ ∧ N ≤ kk ∧ kk < M)
theorem mnI_lt {l : List P2} {k n : Nat} (hk : k ≤ n) (h0 : 0 < n) : mnI l k < n := by
  by_cases c : k = 0
  · rw [c]; exact h0
  · have := (mnI_spec l k (by omega)).1; omega
def c8 : ICode :=
  (.seq (.reg [qq 2 (.mv (.c (.slice none 0 0))), qq 3 (.mv (ci 0))]) (.seq (.seq (.reg [qq 11 (.mv (.t 0)), qq 12 (.lensl (.t 11)), qq 13 (.bin .gtr (.t 12) (ci 12))]) (.cond (.t 13) (.seq (.reg [qq 2 (.mv (.c (.slice none 0 0))), qq 3 (.mv (ci 6))]) .ret) .skip)) (.seq (.seq (.reg [qq 14 (.mv (.t 0)), qq 15 (.call 20 [(.t 14)]), qq 16 (.un .not (.t 15))]) (.cond (.t 16) (.seq (.reg [qq 2 (.mv (.c (.slice none 0 0))), qq 3 (.mv (ci 17))]) .ret) .skip)) (.seq (.reg [qq 4 (.mv (.c (.slice none 0 0)))]) (.seq (.reg [qq 17 (.mv (.t 0)), qq 18 (.lensl (.t 17)), qq 5 (.mv (.t 18))]) (.seq (.seq (.reg [qq 19 (.mv (.t 0)), qq 20 (.lensl (.t 19)), qq 21 (.mv (ci 0))]) (.block 0 (.loop (.seq (.reg [qq 22 (.bin .lss (.t 21) (.t 20))]) (.seq (.cond (.t 22) .skip (.exit 0)) (.seq (.block 1 (.seq (.reg [qq 23 (.mv (.t 21)), qq 24 (.ixsl 6 (.t 19) (.t 21)), qq 25 (.load true 6 (.t 24)), qq 7 (.alloc 26 6 [(.bool false), e0, e0, (.bool false), e0, e0]), qq 6 (.mv (.t 23)), qn (.store 6 (.t 7) (.t 25))]) (.seq (.dreg [qu 26 (.mv (.t 0)), qu 27 (.mv (.t 6)), qu 28 (.mv (.t 5)), qu 29 (.bin .add (.t 27) (.t 28)), qu 30 (.bin .sub (.t 29) (ci 1)), qu 31 (.mv (.t 5)), qu 32 (.bin .rem (.t 30) (.t 31)), qu 33 (.ixsl 6 (.t 26) (.t 32)), qu 34 (.load true 6 (.t 33)), qu 35 (.load true 6 (.t 7)), qu 36 (.mv (.t 0)), qu 37 (.mv (.t 6)), qu 38 (.bin .add (.t 37) (ci 1)), qu 39 (.mv (.t 5)), qu 40 (.bin .rem (.t 38) (.t 39)), qu 41 (.ixsl 6 (.t 36) (.t 40)), qu 42 (.load true 6 (.t 41)), qu 43 (.call 21 [(.t 34), (.t 35), (.t 42)]), qu 44 (.bin .neq (.t 43) (ci 0))]) (.cond (.t 44) (.dreg [qu 45 (.mv (.t 4)), qu 46 (.ixarr 2 3 (.t 7) (ci 0)), qu 47 (.load true 3 (.t 46)), qu 48 (.call 22 [(.t 47)]), qu 49 (.ixarr 2 3 (.t 7) (ci 1)), qv 50 [3] (.load true 3 (.t 49)), qu 51 (.call 22 [(.t 50)]), qu 52 (.build [(.bool false), e0, e0, (.bool false), e0, e0] [(0, 3, (.t 48)), (3, 3, (.t 51))]), qu 53 (.bslice 26 6 1 [(.bool false), e0, e0, (.bool false), e0, e0] [(0, 6, (.t 52))]), qu 54 (.app 26 6 80 (.t 45) (.t 53)), qu 4 (.mv (.t 54))]) .skip)))) (.reg [qq 55 (.bin .add (.t 21) (ci 1)), qq 21 (.mv (.t 55))]))))))) (.seq (.seq (.reg [qq 56 (.mv (.t 4)), qq 57 (.call 10 [(.t 56)]), qq 58 (.call 11 [(.t 57)]), qq 59 (.bin .lss (.t 58) (ci 0))]) (.cond (.t 59) (.reg [qq 60 (.mv (.t 4)), qq 61 (.call 23 [(.t 60)])]) .skip)) (.seq (.reg [qq 8 (.mv (ci 0))]) (.seq (.seq (.reg [qq 62 (.mv (.t 4)), qq 63 (.lensl (.t 62)), qq 64 (.mv (ci 0))]) (.block 2 (.loop (.seq (.reg [qq 65 (.bin .lss (.t 64) (.t 63))]) (.seq (.cond (.t 65) .skip (.exit 2)) (.seq (.block 3 (.seq (.reg [qq 66 (.mv (.t 64)), qq 67 (.ixsl 6 (.t 62) (.t 64)), qq 68 (.load true 6 (.t 67)), qq 10 (.alloc 26 6 [(.bool false), e0, e0, (.bool false), e0, e0]), qq 9 (.mv (.t 66)), qn (.store 6 (.t 10) (.t 68))]) (.seq (.dreg [qu 69 (.load true 6 (.t 10)), qu 70 (.mv (.t 4)), qu 71 (.mv (.t 8)), qu 72 (.ixsl 6 (.t 70) (.t 71)), qu 73 (.load true 6 (.t 72)), qu 74 (.call 24 [(.t 69), (.t 73)]), qu 75 (.bin .lss (.t 74) (ci 0))]) (.cond (.t 75) (.reg [qq 76 (.mv (.t 9)), qq 8 (.mv (.t 76))]) .skip)))) (.reg [qq 77 (.bin .add (.t 64) (ci 1)), qq 64 (.mv (.t 77))]))))))) (.seq (.dreg [qu 78 (.mv (.t 4)), qu 79 (.mv (.t 8)), qu 80 (.slsl 6 (.t 78) (some (.t 79)) none), qu 81 (.mv (.t 4)), qu 82 (.mv (.t 8)), qu 83 (.slsl 6 (.t 81) none (some (.t 82))), qu 84 (.bslice 22 1 2 [(.slice none 0 0), (.slice none 0 0)] [(0, 1, (.t 80)), (1, 1, (.t 83))]), qu 85 (.call 25 [(.t 84)]), qu 2 (.mv (.t 85)), qu 3 (.mv (ci 0))]) .ret))))))))))
theorem tr8 : trFun Tryd.prog 8 = some ⟨86, [.t 2, .t 3], c8⟩ := by kernel_rfl
set_option maxHeartbeats 32000000 in
theorem ok_norm2 : SpecOK Tryd.prog 8 (nwL spNorm2) := by
  refine newL_run (env_cons ok_prof (env_cons ok_turn (env_cons ok_qNorm (env_cons ok_area2 (env_cons ok_qSign (env_cons ok_rev2 (env_cons ok_cmpP (env_cons ok_cat2 (env_nil _))))))))) mixed tr8 ?_ ?_
  · intro args h h' r hle e
    unfold spNorm2 at e ⊢
    split at e
    · split at e
      · rename_i l hb
        simp only [decPts_mono hle hb]; exact e
      · cases e
    · cases e
  intro args h N r hG hN
  unfold spNorm2 at hG
  split at hG
  case h_2 => cases hG
  rename_i sl
  split at hG
  case h_2 => cases hG
  rename_i l hx
  split at hG
  case isFalse => cases hG
  rename_i hs
  cases hG
  obtain ⟨a, cc, rfl⟩ := decPts_sl hx
  refine ⟨nmNL_par _ _, by simp, ?_⟩
  have hL : (pvs l).length = l.length := pvs_len l
  have nbN : ∀ q, q < N → ∀ j, (N + j = q) = False := fun q hq j => eq_false (by omega)
  have pr := prof_of hx hs.ok
  by_cases c12 : 12 < l.length
  · have c12' : ((l.length : Int) > 12) = True := eq_true (by omega)
    have ev : nmOut (pvs l) = (6, []) := if_pos (by omega)
    rw [ev]
    simp only [c8, G0, Nat.reduceAdd]
    simp only [↓R0, R1, simprocAttr, -Int.reduceAbs, c12', FinL, isEnd, resL, res1]
    exact ⟨fun i => i, _, fun i hi => absurd hi (Nat.not_lt_zero i), fun i j hi => absurd hi (Nat.not_lt_zero i), rfl, rfl, fun i hi => absurd hi (Nat.not_lt_zero i), fun k _ => trivial⟩
  have c12' : ((l.length : Int) > 12) = False := eq_false (by omega)
  by_cases pf : profP (pvs l)
  case neg =>
    have ev : nmOut (pvs l) = (17, []) := by unfold nmOut; rw [if_neg (by omega), if_neg pf]
    rw [ev]
    rw [decide_eq_false pf] at pr
    simp only [c8, G0, Nat.reduceAdd]
    simp only [↓R0, R1, simprocAttr, -Int.reduceAbs, rdS, c12', pr, Bool.not_false, FinL, isEnd, resL, res1]
    exact ⟨fun i => i, _, fun i hi => absurd hi (Nat.not_lt_zero i), fun i j hi => absurd hi (Nat.not_lt_zero i), rfl, rfl, fun i hi => absurd hi (Nat.not_lt_zero i), fun k _ => trivial⟩
  rw [decide_eq_true pf] at pr
  have ev : nmOut (pvs l) = (0, ncf (pvs l)) := by unfold nmOut; rw [if_neg (by omega), if_pos pf]
  rw [ev]
  clear ev
  have SP := prof_simp pf
  have n3 : 3 ≤ l.length := by have := pf.1; omega
  obtain ⟨SB, _⟩ := Simp.chain _ rfl SP
  have l0 : 0 < l.length := by omega
  simp only [c8, G0, Nat.reduceAdd]
  simp only [↓R0, R1, simprocAttr, -Int.reduceAbs, rdS, c12', pr, Bool.not_true]
  refine lp_parts (fun c tm hp nx => ∃ (i M : Nat), c + i = l.length ∧ tmget tm 0 = .slice a l.length cc ∧ tmget tm 5 = .int .i64 l.length ∧ tmget tm 19 = .slice a l.length cc ∧ tmget tm 20 = .int .i64 l.length ∧ tmget tm 21 = .int .i64 (i : Nat) ∧
      GrP hp N M ((bfT (pvs l) i).map pqo) (tmget tm 4) ∧ ExtL N h hp ∧ N ≤ M ∧ nx = M + 0) ?_ l.length
    ⟨0, N, by omega, ?_, ?_, ?_, ?_, ?_, .inl ⟨rfl, ?_⟩, fun q _ => rfl, Nat.le_refl _, rfl⟩
  rotate_left
  all_goals first | (simp only [↓R0, R1, simprocAttr, -Int.reduceAbs]; done) | (simp only [↓R0, R1, simprocAttr, -Int.reduceAbs]; rfl) | skip
  rintro c tm hp nx ⟨i, M, hc, t0, t5, t19, t20, t21, hO, hh, hM, hnx⟩
  rw [hnx]
  clear hnx nx
  have nbq : ∀ q, q < N → ∀ d, (M + d = q) = False := fun q hq d => eq_false (by omega)
  by_cases c1 : i < l.length
  case pos =>
    have c1' : ((i : Int) < (l.length : Int)) = True := eq_true (by omega)
    have w1 : IntKind.i64.wrap ((i : Int) + 1) = ((i + 1 : Nat) : Int) := by rw [i64_in _ (by omega)]; omega
    have w2 : IntKind.i64.wrap ((i : Int) + (l.length : Int)) = ((i + l.length : Nat) : Int) := by rw [i64_in _ (by omega)]; omega
    have w3 : IntKind.i64.wrap (((i + l.length : Nat) : Int) - 1) = ((i + l.length - 1 : Nat) : Int) := by rw [i64_in _ (by omega)]; omega
    have hm : (i + 1) % l.length < l.length := Nat.mod_lt _ l0
    have hm2 : (i + l.length - 1) % l.length < l.length := Nat.mod_lt _ l0
    have tm1 : Int.tmod ((i + 1 : Nat) : Int) (l.length : Int) = (((i + 1) % l.length : Nat) : Int) := rfl
    have tm2 : Int.tmod ((i + l.length - 1 : Nat) : Int) (l.length : Int) = (((i + l.length - 1) % l.length : Nat) : Int) := rfl
    have z1 : ((l.length : Int) = 0) = False := eq_false (by omega)
    have z2 : (l.length = 0) = False := eq_false (by omega)
    have hm' : ((((i + 1) % l.length : Nat) : Int) < (l.length : Int)) = True := eq_true (by omega)
    have hm2' : ((((i + l.length - 1) % l.length : Nat) : Int) < (l.length : Int)) = True := eq_true (by omega)
    obtain ⟨k, off, blk, rfl, hb, q1, q2⟩ := pts_at hx c1
    obtain ⟨k', off', blk', e', hb', q3, q4⟩ := pts_at hx hm
    cases e'
    rw [hb] at hb'
    cases hb'
    obtain ⟨k', off', blk', e', hb', q5, q6⟩ := pts_at hx hm2
    cases e'
    rw [hb] at hb'
    cases hb'
    have hk := hN _ _ hb
    have hbb : hget hp k = some blk := by rw [hh k hk]; exact hb
    have nk := nbq k hk
    have sA := hs.2 _ (pqAt_mem c1)
    have sB := hs.2 _ (pqAt_mem hm)
    have sP := hs.2 _ (pqAt_mem hm2)
    have vA := pvs_vt (i := i) l0
    have vB := pvs_vt (i := i + 1) l0
    have vP := pvs_vt (i := i + l.length - 1) l0
    rw [Nat.mod_eq_of_lt c1] at vA
    have t1 := turn_of (sP.le (by omega)) (sA.le (by omega)) (sB.le (by omega))
    rw [← vA, ← vB, ← vP] at t1
    have nx1 := qnorm_of sA.1 (by omega)
    have nx2 := qnorm_of sA.2 (by omega)
    have eB := bfT_s (L := pvs l) (i := i) (by omega)
    rw [hL] at eB
    have ePQ : (RQ.of (pqAt l i).1.v, RQ.of (pqAt l i).2.v) = pqo (vt (pvs l) i) := by rw [vA]; rfl
    have pm := p_mk (RQ.of (pqAt l i).1.v) (RQ.of (pqAt l i).2.v)
    rw [ePQ] at pm
    have bl12 := bfT_len (pvs l) i
    have ex := fun q hq => (show ∀ d, (M + d = q) = False from nbq q hq)
    generalize RQ.of (pqAt l i).1.v = QA at *
    generalize RQ.of (pqAt l i).2.v = QB at *
    generalize pqAt l i = A at *
    generalize pqAt l ((i + 1) % l.length) = B at *
    generalize pqAt l ((i + l.length - 1) % l.length) = P at *
    generalize (i + 1) % l.length = m at *
    generalize (i + l.length - 1) % l.length = m2 at *
    by_cases sz : sg (cr (vt (pvs l) (i + l.length - 1)) (vt (pvs l) i) (vt (pvs l) (i + 1))) = 0
    · have sz' := eq_true sz
      rw [if_pos sz, List.append_nil] at eB
      have dn : ∀ a b : Int, decide (a ≠ b) = !decide (a = b) := fun a b => by by_cases h : a = b <;> simp [h]
      simp only [↓R0, R1, simprocAttr, -Int.reduceAbs, t0, t5, t19, t20, t21, c1, c1', hbb, nk, q1, q2, q3, q4, q5, q6, hm, hm', hm2, hm2', tm1, tm2, z1, z2, w1, w2, w3, pcl_len, pcl_ok, pcl_tk, pp_st, t1, dn, sz', Bool.not_true]
      refine ⟨c - 1, by omega, i + 1, M + 1, by omega, rfl, ?_, fun q hq => ?_, by omega, rfl⟩
      · rw [eB]
        rcases hO with ⟨o1, o2⟩ | ⟨o1, kk, x, o2, o3, o4, o5⟩
        · exact .inl ⟨o1, o2⟩
        · refine .inr ⟨o1, kk, x, o2, ?_, o4, by omega⟩
          have : ∀ d, (M + d = kk) = False := fun d => eq_false (by omega)
          simp only [↓R0, R1, simprocAttr, -Int.reduceAbs, this]
          exact o3
      · have nb := nbq q hq
        simp only [↓R0, R1, simprocAttr, -Int.reduceAbs, nb]
        exact hh q hq
    · have sz' := eq_false sz
      rw [if_neg sz] at eB
      have dn : ∀ a b : Int, decide (a ≠ b) = !decide (a = b) := fun a b => by by_cases h : a = b <;> simp [h]
      rcases hO with ⟨o1, t4⟩ | ⟨o1, kk, x, t4, o3, o4, o5⟩
      · simp only [↓R0, R1, simprocAttr, -Int.reduceAbs, t0, t4, t5, t19, t20, t21, c1, c1', hbb, nk, q1, q2, q3, q4, q5, q6, hm, hm', hm2, hm2', tm1, tm2, z1, z2, w1, w2, w3, pcl_len, pcl_ok, pcl_tk, pcl_x, pcl_y, pp_st, q_len, q_ok, q_tk, setR_length, t1, nx1, nx2, pm, dn, sz', Bool.not_false]
        have e1 : (bfT (pvs l) (i + 1)).map pqo = [pqo (vt (pvs l) i)] := by rw [eB, List.map_append, o1]; rfl
        refine ⟨c - 1, by omega, i + 1, M + 3, by omega, rfl, .inr ⟨by rw [e1]; simp, M + 2, false, ?_, ?_, by omega, by omega⟩, fun q hq => ?_, by omega, rfl⟩
        · rw [e1]; rfl
        · rw [e1, ptC_one]
          first | (simp only [↓R0, R1, simprocAttr, -Int.reduceAbs]; done) | (simp only [↓R0, R1, simprocAttr, -Int.reduceAbs]; rfl)
        · have nb := nbq q hq
          simp only [↓R0, R1, simprocAttr, -Int.reduceAbs, nb]
          exact hh q hq
      · have hkq : ∀ d, (M + d = kk) = False := fun d => eq_false (by omega)
        have hkq' : ∀ d, (kk = M + d) = False := fun d => eq_false (by omega)
        have hkk : (kk = k) = False := eq_false (by omega)
        have pl := ptC_len ((bfT (pvs l) i).map pqo)
        have ll : ((bfT (pvs l) i).map pqo).length ≤ 12 := by rw [List.length_map]; omega
        have eS : ptC ((bfT (pvs l) (i + 1)).map pqo) = ptC ((bfT (pvs l) i).map pqo) ++ pcl (pqo (vt (pvs l) i)) := by rw [eB, List.map_append]; exact ptC_snoc _ _
        have eL : ((bfT (pvs l) (i + 1)).map pqo).length = ((bfT (pvs l) i).map pqo).length + 1 := by rw [eB, List.map_append, List.length_append]; rfl
        have eN : (bfT (pvs l) (i + 1)).map pqo ≠ [] := by rw [eB, List.map_append]; simp
        obtain ⟨O1, hO1⟩ : ∃ O, O = (bfT (pvs l) (i + 1)).map pqo := ⟨_, rfl⟩
        rw [← hO1] at eS eL eN
        generalize (bfT (pvs l) i).map pqo = O0 at *
        have npp : (O0.length + 1 ≤ O0.length) = False := eq_false (by omega)
        have ovr : ((O0.length + 1) * 80 ≤ 140737488355328) = True := eq_true (by omega)
        simp only [↓R0, R1, simprocAttr, -Int.reduceAbs, t0, t4, t5, t19, t20, t21, c1, c1', hbb, nk, q1, q2, q3, q4, q5, q6, hm, hm', hm2, hm2', tm1, tm2, z1, z2, w1, w2, w3, pcl_len, pcl_ok, pcl_tk, pcl_x, pcl_y, pp_st, q_len, q_ok, q_tk, setR_length, t1, nx1, nx2, pm, dn, sz', o3, pl, hkq, hkq', hkk, npp, ovr, Bool.not_false]
        refine ⟨c - 1, by omega, i + 1, M + 3, by omega, rfl, .inr ⟨by rw [← hO1]; exact eN, M + 2, false, ?_, ?_, by omega, by omega⟩, fun q hq => ?_, by omega, rfl⟩
        · rw [← hO1, eL]
        · rw [← hO1, eS]
          first | (simp only [↓R0, R1, simprocAttr, -Int.reduceAbs]; done) | (simp only [↓R0, R1, simprocAttr, -Int.reduceAbs]; rfl)
        · have nb := nbq q hq
          have nk2 : (kk = q) = False := eq_false (by omega)
          simp only [↓R0, R1, simprocAttr, -Int.reduceAbs, nb, nk2]
          exact hh q hq
  have e : i = l.length := by omega
  subst e
  have c1' : ((l.length : Int) < (l.length : Int)) = False := eq_false (by omega)
  have eall : bfT (pvs l) l.length = bent (pvs l) := by rw [← hL, bfT_all]
  rw [eall] at hO
  have bm : ∀ v ∈ bent (pvs l), ∃ p ∈ l, v = pv2 p := fun v hv => by
    rw [← eall] at hv
    have := bfT_mem hv
    unfold pvs at this
    obtain ⟨p, hp, rfl⟩ := List.mem_map.1 this
    exact ⟨p, hp, rfl⟩
  have blen : (bent (pvs l)).length ≤ 12 := by rw [← eall]; have := bfT_len (pvs l) l.length; omega
  have b3 := SB.simp.n3
  have nd := SB.simp.nd
  clear eall
  have encf : ncf (pvs l) = rmn (ori (bent (pvs l))) := rfl
  rw [encf]
  clear encf
  generalize bent (pvs l) = B at *
  have okO : ptsOK (B.map pqo) := ⟨by rw [List.length_map]; omega, fun p hp => by
    obtain ⟨v, hv, rfl⟩ := List.mem_map.1 hp
    obtain ⟨p', hp', rfl⟩ := bm v hv
    exact (pqo_ok (hs.2 p' hp')).le (by omega)⟩
  rcases hO with ⟨o1, _⟩ | ⟨_, kk, x, t4, o3, o4, o5⟩
  · have := congrArg List.length o1
    rw [List.length_map] at this
    have this : B.length = 0 := this
    omega
  have hpv := map_pqo B
  have lO : (B.map pqo).length = B.length := List.length_map _
  have dx := pts_list o3 rfl
  have ar := area2_of dx okO
  rw [hpv] at ar
  have rA : RB (ar2 B) 4000007000 := by
    have := arT_RB okO.2 (by omega) (B.map pqo).length (Nat.le_refl _)
    rw [hpv, lO, arT_all] at this
    refine this.le ?_
    have : B.length * (4 * 1000000 + 6) ≤ 1000 * (4 * 1000000 + 6) := Nat.mul_le_mul_right _ (by omega)
    omega
  have two : (2 : Rat) ≠ 0 := by decide
  have rH : RB (ar2 B / 2) 4000007002 := rA.div (RBs (z := 2) (by omega)) (by omega) (by omega)
  have sgA := qsign_of rH (by omega)
  have hfA := half_neg (x := ar2 B)
  rw [lO] at t4 dx ar
  by_cases neg : ar2 B < 0
  · have neg' : (sg (ar2 B / 2) < 0) = True := eq_true (hfA.2 neg)
    have eo : ori B = B.reverse := if_pos neg
    rw [eo]
    have rv := rev2_of (c := B.length) dx o3 (by rw [lO]; omega)
    have erev : (B.map pqo).reverse = B.reverse.map pqo := by rw [List.map_reverse]
    rw [erev] at rv
    have lB : B.reverse.length = B.length := List.length_reverse
    have uR : ∀ (args : List Value) (hp : Heap) (n : Nat), upS spRev2 args hp n = (spRev2 args hp).map fun r => (r.1, [(r.2.1, some r.2.2)], 0) := fun _ _ _ => rfl
    have nd' : B.reverse.Nodup := (List.reverse_perm B).nodup_iff.2 nd
    have okO' : ptsOK (B.reverse.map pqo) := ⟨by rw [List.length_map, lB]; omega, fun p hp => okO.2 p (by rw [← erev] at hp; exact List.mem_reverse.1 hp)⟩
    generalize B.reverse = B' at *
    simp only [↓R0, R1, simprocAttr, -Int.reduceAbs, rdS, t0, t4, t5, t19, t20, t21, c1', o3, ar, sgA, neg', rv, uR]
    refine lp_parts (fun c tm hp2 nx => ∃ (i M2 : Nat) (x2 : Bool), c + i = B.length ∧ tmget tm 4 = .slice (some ⟨kk, 0, none⟩) B.length B.length ∧ tmget tm 8 = .int .i64 (mnI B' i : Nat) ∧ tmget tm 62 = .slice (some ⟨kk, 0, none⟩) B.length B.length ∧ tmget tm 63 = .int .i64 B.length ∧ tmget tm 64 = .int .i64 (i : Nat) ∧
        hget hp2 kk = some ⟨26, 6, x2, ptC (B'.map pqo)⟩ ∧ ExtL N h hp2 ∧ M ≤ M2 ∧ nx = M2 + 0) ?_ B.length
      ⟨0, M, x, by omega, ?_, ?_, ?_, ?_, ?_, ?_, ?_, Nat.le_refl _, rfl⟩
    rotate_left
    all_goals first | (simp only [↓R0, R1, simprocAttr, -Int.reduceAbs]; done) | (simp only [↓R0, R1, simprocAttr, -Int.reduceAbs]; rfl) | (simp only [↓R0, R1, simprocAttr, -Int.reduceAbs, t4]; done) | (simp only [↓R0, R1, simprocAttr, -Int.reduceAbs, o3]; done) | exact hh | skip
    · intro q hq
      have nk2 : (kk = q) = False := eq_false (by omega)
      simp only [↓R0, R1, simprocAttr, -Int.reduceAbs, nk2]
      exact hh q hq
    clear t0 t5 t19 t20 t21 t4
    rintro c tm hp2 nx ⟨i, M2, x2, hc2, t4, t8, t62, t63, t64, bk, hh2, hM2, hnx⟩
    rw [hnx]
    clear hnx nx
    have nbq2 : ∀ q, q < N → ∀ d, (M2 + d = q) = False := fun q hq d => eq_false (by omega)
    have hkq : ∀ d, (M2 + d = kk) = False := fun d => eq_false (by omega)
    have hkq' : ∀ d, (kk = M2 + d) = False := fun d => eq_false (by omega)
    have pl := ptC_len (B'.map pqo)
    rw [List.length_map, lB] at pl
    have fl := mnI_lt (l := B') (k := i) (n := B.length) (by omega) (by omega)
    by_cases d1 : i < B.length
    · have d1' : ((i : Int) < (B.length : Int)) = True := eq_true (by omega)
      have wi : IntKind.i64.wrap ((i : Int) + 1) = ((i + 1 : Nat) : Int) := by rw [i64_in _ (by omega)]; omega
      have fl' : ((mnI B' i : Int) < (B.length : Int)) = True := eq_true (by omega)
      have a1 := ptC_at (B'.map pqo) i (by rw [List.length_map]; omega)
      have a2 := ptC_at (B'.map pqo) (mnI B' i) (by rw [List.length_map]; omega)
      have b1 : (i * 6 + 6 ≤ B.length * 6) = True := eq_true (by omega)
      have b2 : (mnI B' i * 6 + 6 ≤ B.length * 6) = True := eq_true (by omega)
      have o1 := okO'.2 _ (pqAt_mem (l := B'.map pqo) (i := i) (by rw [List.length_map]; omega))
      have o2 := okO'.2 _ (pqAt_mem (l := B'.map pqo) (i := mnI B' i) (by rw [List.length_map]; omega))
      have cp := cmpP_of o1 o2
      have v1 := pvs_at (l := B'.map pqo) (i := i) (by rw [List.length_map]; omega)
      have v2 := pvs_at (l := B'.map pqo) (i := mnI B' i) (by rw [List.length_map]; omega)
      rw [map_pqo] at v1 v2
      rw [← v1, ← v2] at cp
      have em : mnI B' (i + 1) = if cmpP (ptv B' i) (ptv B' (mnI B' i)) < 0 then i else mnI B' i := rfl
      generalize pqAt (B'.map pqo) i = A at *
      generalize pqAt (B'.map pqo) (mnI B' i) = D at *
      generalize hF : mnI B' i = F at *
      by_cases g : cmpP (ptv B' i) (ptv B' F) < 0
      · have g' := eq_true g
        rw [if_pos g] at em
        simp only [↓R0, R1, simprocAttr, -Int.reduceAbs, t4, t8, t62, t63, t64, d1, d1', bk, pl, a1, a2, b1, b2, fl, fl', pcl_len, pcl_ok, pcl_tk, pp_st, hkq, hkq', cp, g', wi]
        refine ⟨c - 1, by omega, i + 1, M2 + 1, x2, by omega, ?_, rfl, ?_, fun q hq => ?_, by omega, rfl⟩
        · rw [em]
        · first | (simp only [↓R0, R1, simprocAttr, -Int.reduceAbs, hkq]; done) | (simp only [↓R0, R1, simprocAttr, -Int.reduceAbs, hkq]; exact bk)
        · have nb := nbq2 q hq
          simp only [↓R0, R1, simprocAttr, -Int.reduceAbs, nb]
          exact hh2 q hq
      · have g' := eq_false g
        rw [if_neg g] at em
        simp only [↓R0, R1, simprocAttr, -Int.reduceAbs, t4, t8, t62, t63, t64, d1, d1', bk, pl, a1, a2, b1, b2, fl, fl', pcl_len, pcl_ok, pcl_tk, pp_st, hkq, hkq', cp, g', wi]
        refine ⟨c - 1, by omega, i + 1, M2 + 1, x2, by omega, ?_, rfl, ?_, fun q hq => ?_, by omega, rfl⟩
        · rw [em]
        · first | (simp only [↓R0, R1, simprocAttr, -Int.reduceAbs, hkq]; done) | (simp only [↓R0, R1, simprocAttr, -Int.reduceAbs, hkq]; exact bk)
        · have nb := nbq2 q hq
          simp only [↓R0, R1, simprocAttr, -Int.reduceAbs, nb]
          exact hh2 q hq
    have ei : i = B.length := by omega
    subst ei
    have d1' : ((B.length : Int) < (B.length : Int)) = False := eq_false (by omega)
    have er : rmn B' = B'.drop (mnI B' B.length) ++ B'.take (mnI B' B.length) := by unfold rmn; rw [lB]
    have fle : ((mnI B' B.length : Int) ≤ (B.length : Int)) = True := eq_true (by omega)
    have fle' : (mnI B' B.length ≤ B.length) = True := eq_true (by omega)
    have lR : (rmn B').length = B.length := by rw [er, List.length_append, List.length_drop, List.length_take]; omega
    have nR : rmn B' ≠ [] := fun e => by rw [e] at lR; simp at lR; omega
    have eRm : (rmn B').map pqo = (B'.map pqo).drop (mnI B' B.length) ++ (B'.map pqo).take (mnI B' B.length) := by rw [er, List.map_append, List.map_drop, List.map_take]
    generalize hF : mnI B' B.length = F at *
    have mk1 : mkSl kk 0 6 B.length F B.length = .slice (some ⟨kk, F * 6, none⟩) (B.length - F) (B.length - F) := by unfold mkSl; rw [if_neg (by omega), Nat.zero_add]
    have mk2 : mkSl kk 0 6 B.length 0 F = .slice (some ⟨kk, 0, none⟩) F B.length := by unfold mkSl; rw [if_neg (by omega)]; simp
    have d1 : ∀ {hp' : Heap}, hget hp' kk = some ⟨26, 6, x2, ptC (B'.map pqo)⟩ → decPts hp' (.slice (some ⟨kk, F * 6, none⟩) (B.length - F) (B.length - F)) = some ((B'.map pqo).drop F) := fun hb => by
      rw [pts_sub hb (by rw [List.length_map]; omega) (Nat.le_refl _), List.take_of_length_le (by rw [List.length_drop, List.length_map]; omega)]
    have d2 : ∀ {hp' : Heap}, hget hp' kk = some ⟨26, 6, x2, ptC (B'.map pqo)⟩ → decPts hp' (.slice (some ⟨kk, 0, none⟩) F B.length) = some ((B'.map pqo).take F) := fun hb => by
      have := pts_sub (a := 0) (n := F) (c := B.length) hb (by rw [List.length_map]; omega) (by omega)
      rw [Nat.zero_mul, List.drop_zero] at this
      exact this
    have ct : ∀ {hp' : Heap}, hget hp' (M2 + 0) = some ⟨22, 1, true, [.slice (some ⟨kk, F * 6, none⟩) (B.length - F) (B.length - F), .slice (some ⟨kk, 0, none⟩) F B.length]⟩ → hget hp' kk = some ⟨26, 6, x2, ptC (B'.map pqo)⟩ →
        spCat2 [.slice (some ⟨M2 + 0, 0, none⟩) 2 2] hp' = some ⟨1, fun σ => .slice (some ⟨σ 0, 0, none⟩) (rmn B').length (rmn B').length, fun _ => 26, fun _ => 6, fun _ _ => ptC ((rmn B').map pqo)⟩ := fun h1 h2 => by
      unfold spCat2
      simp only [h1, d1 h2, d2 h2]
      rw [if_pos ⟨by rw [List.length_drop, List.length_take, List.length_map]; omega, by rw [List.length_drop, List.length_take, List.length_map]; omega⟩, eRm]
      have : ((B'.map pqo).drop F).length + ((B'.map pqo).take F).length = (rmn B').length := by rw [lR, List.length_drop, List.length_take, List.length_map]; omega
      rw [this]
    have nwC : ∀ (args : List Value) (hp : Heap) (k : Nat), nwL spCat2 args hp k = (spCat2 args hp).map fun r => (r.val (k + ·), newH r (k + ·) r.m, r.m) := fun _ _ _ => rfl
    have m10 : M2 + 1 + 0 = M2 + 1 := rfl
    unfold nmNL
    rw [if_neg nR]
    generalize ptC ((rmn B').map pqo) = PR at *
    generalize (rmn B').length = LR at *
    simp only [↓R0, R1, simprocAttr, -Int.reduceAbs, t4, t8, t62, t63, t64, d1', fle, fle', mk1, mk2, ct, nwC, newHL1, m10, bk, hkq, hkq', FinL, isEnd, resL, res1]
    refine ⟨fun _ => M2 + 1, _, fun i hi => (by omega : N ≤ M2 + 1), fun i j (hi : i < 1) (hj : j < 1) _ => by omega, rfl, rfl, fun i hi => ⟨false, ?_⟩, fun q hq => ?_⟩
    · first | (simp only [↓R0, R1, simprocAttr, -Int.reduceAbs]; done) | (simp only [↓R0, R1, simprocAttr, -Int.reduceAbs]; rfl)
    · have nb := nbq2 q hq
      simp only [↓R0, R1, simprocAttr, -Int.reduceAbs, nb]
      exact hh2 q hq
  · have neg' : (sg (ar2 B / 2) < 0) = False := eq_false (fun h => neg (hfA.1 h))
    have eo : ori B = B := if_neg neg
    rw [eo]
    have lB : B.length = B.length := rfl
    have okO' := okO
    obtain ⟨B', hB'⟩ : ∃ B', B' = B := ⟨_, rfl⟩
    rw [← hB'] at okO' ⊢
    have lB : B'.length = B.length := by rw [hB']
    simp only [↓R0, R1, simprocAttr, -Int.reduceAbs, rdS, t0, t4, t5, t19, t20, t21, c1', o3, ar, sgA, neg']
    rw [← hB'] at o3
    refine lp_parts (fun c tm hp2 nx => ∃ (i M2 : Nat) (x2 : Bool), c + i = B.length ∧ tmget tm 4 = .slice (some ⟨kk, 0, none⟩) B.length B.length ∧ tmget tm 8 = .int .i64 (mnI B' i : Nat) ∧ tmget tm 62 = .slice (some ⟨kk, 0, none⟩) B.length B.length ∧ tmget tm 63 = .int .i64 B.length ∧ tmget tm 64 = .int .i64 (i : Nat) ∧
        hget hp2 kk = some ⟨26, 6, x2, ptC (B'.map pqo)⟩ ∧ ExtL N h hp2 ∧ M ≤ M2 ∧ nx = M2 + 0) ?_ B.length
      ⟨0, M, x, by omega, ?_, ?_, ?_, ?_, ?_, ?_, ?_, Nat.le_refl _, rfl⟩
    rotate_left
    all_goals first | (simp only [↓R0, R1, simprocAttr, -Int.reduceAbs]; done) | (simp only [↓R0, R1, simprocAttr, -Int.reduceAbs]; rfl) | (simp only [↓R0, R1, simprocAttr, -Int.reduceAbs, t4]; done) | (simp only [↓R0, R1, simprocAttr, -Int.reduceAbs, o3]; done) | exact hh | skip
    clear t0 t5 t19 t20 t21 t4
    rintro c tm hp2 nx ⟨i, M2, x2, hc2, t4, t8, t62, t63, t64, bk, hh2, hM2, hnx⟩
    rw [hnx]
    clear hnx nx
    have nbq2 : ∀ q, q < N → ∀ d, (M2 + d = q) = False := fun q hq d => eq_false (by omega)
    have hkq : ∀ d, (M2 + d = kk) = False := fun d => eq_false (by omega)
    have hkq' : ∀ d, (kk = M2 + d) = False := fun d => eq_false (by omega)
    have pl := ptC_len (B'.map pqo)
    rw [List.length_map, lB] at pl
    have fl := mnI_lt (l := B') (k := i) (n := B.length) (by omega) (by omega)
    by_cases d1 : i < B.length
    · have d1' : ((i : Int) < (B.length : Int)) = True := eq_true (by omega)
      have wi : IntKind.i64.wrap ((i : Int) + 1) = ((i + 1 : Nat) : Int) := by rw [i64_in _ (by omega)]; omega
      have fl' : ((mnI B' i : Int) < (B.length : Int)) = True := eq_true (by omega)
      have a1 := ptC_at (B'.map pqo) i (by rw [List.length_map]; omega)
      have a2 := ptC_at (B'.map pqo) (mnI B' i) (by rw [List.length_map]; omega)
      have b1 : (i * 6 + 6 ≤ B.length * 6) = True := eq_true (by omega)
      have b2 : (mnI B' i * 6 + 6 ≤ B.length * 6) = True := eq_true (by omega)
      have o1 := okO'.2 _ (pqAt_mem (l := B'.map pqo) (i := i) (by rw [List.length_map]; omega))
      have o2 := okO'.2 _ (pqAt_mem (l := B'.map pqo) (i := mnI B' i) (by rw [List.length_map]; omega))
      have cp := cmpP_of o1 o2
      have v1 := pvs_at (l := B'.map pqo) (i := i) (by rw [List.length_map]; omega)
      have v2 := pvs_at (l := B'.map pqo) (i := mnI B' i) (by rw [List.length_map]; omega)
      rw [map_pqo] at v1 v2
      rw [← v1, ← v2] at cp
      have em : mnI B' (i + 1) = if cmpP (ptv B' i) (ptv B' (mnI B' i)) < 0 then i else mnI B' i := rfl
      generalize pqAt (B'.map pqo) i = A at *
      generalize pqAt (B'.map pqo) (mnI B' i) = D at *
      generalize hF : mnI B' i = F at *
      by_cases g : cmpP (ptv B' i) (ptv B' F) < 0
      · have g' := eq_true g
        rw [if_pos g] at em
        simp only [↓R0, R1, simprocAttr, -Int.reduceAbs, t4, t8, t62, t63, t64, d1, d1', bk, pl, a1, a2, b1, b2, fl, fl', pcl_len, pcl_ok, pcl_tk, pp_st, hkq, hkq', cp, g', wi]
        refine ⟨c - 1, by omega, i + 1, M2 + 1, x2, by omega, ?_, rfl, ?_, fun q hq => ?_, by omega, rfl⟩
        · rw [em]
        · first | (simp only [↓R0, R1, simprocAttr, -Int.reduceAbs, hkq]; done) | (simp only [↓R0, R1, simprocAttr, -Int.reduceAbs, hkq]; exact bk)
        · have nb := nbq2 q hq
          simp only [↓R0, R1, simprocAttr, -Int.reduceAbs, nb]
          exact hh2 q hq
      · have g' := eq_false g
        rw [if_neg g] at em
        simp only [↓R0, R1, simprocAttr, -Int.reduceAbs, t4, t8, t62, t63, t64, d1, d1', bk, pl, a1, a2, b1, b2, fl, fl', pcl_len, pcl_ok, pcl_tk, pp_st, hkq, hkq', cp, g', wi]
        refine ⟨c - 1, by omega, i + 1, M2 + 1, x2, by omega, ?_, rfl, ?_, fun q hq => ?_, by omega, rfl⟩
        · rw [em]
        · first | (simp only [↓R0, R1, simprocAttr, -Int.reduceAbs, hkq]; done) | (simp only [↓R0, R1, simprocAttr, -Int.reduceAbs, hkq]; exact bk)
        · have nb := nbq2 q hq
          simp only [↓R0, R1, simprocAttr, -Int.reduceAbs, nb]
          exact hh2 q hq
    have ei : i = B.length := by omega
    subst ei
    have d1' : ((B.length : Int) < (B.length : Int)) = False := eq_false (by omega)
    have er : rmn B' = B'.drop (mnI B' B.length) ++ B'.take (mnI B' B.length) := by unfold rmn; rw [lB]
    have fle : ((mnI B' B.length : Int) ≤ (B.length : Int)) = True := eq_true (by omega)
    have fle' : (mnI B' B.length ≤ B.length) = True := eq_true (by omega)
    have lR : (rmn B').length = B.length := by rw [er, List.length_append, List.length_drop, List.length_take]; omega
    have nR : rmn B' ≠ [] := fun e => by rw [e] at lR; simp at lR; omega
    have eRm : (rmn B').map pqo = (B'.map pqo).drop (mnI B' B.length) ++ (B'.map pqo).take (mnI B' B.length) := by rw [er, List.map_append, List.map_drop, List.map_take]
    generalize hF : mnI B' B.length = F at *
    have mk1 : mkSl kk 0 6 B.length F B.length = .slice (some ⟨kk, F * 6, none⟩) (B.length - F) (B.length - F) := by unfold mkSl; rw [if_neg (by omega), Nat.zero_add]
    have mk2 : mkSl kk 0 6 B.length 0 F = .slice (some ⟨kk, 0, none⟩) F B.length := by unfold mkSl; rw [if_neg (by omega)]; simp
    have d1 : ∀ {hp' : Heap}, hget hp' kk = some ⟨26, 6, x2, ptC (B'.map pqo)⟩ → decPts hp' (.slice (some ⟨kk, F * 6, none⟩) (B.length - F) (B.length - F)) = some ((B'.map pqo).drop F) := fun hb => by
      rw [pts_sub hb (by rw [List.length_map]; omega) (Nat.le_refl _), List.take_of_length_le (by rw [List.length_drop, List.length_map]; omega)]
    have d2 : ∀ {hp' : Heap}, hget hp' kk = some ⟨26, 6, x2, ptC (B'.map pqo)⟩ → decPts hp' (.slice (some ⟨kk, 0, none⟩) F B.length) = some ((B'.map pqo).take F) := fun hb => by
      have := pts_sub (a := 0) (n := F) (c := B.length) hb (by rw [List.length_map]; omega) (by omega)
      rw [Nat.zero_mul, List.drop_zero] at this
      exact this
    have ct : ∀ {hp' : Heap}, hget hp' (M2 + 0) = some ⟨22, 1, true, [.slice (some ⟨kk, F * 6, none⟩) (B.length - F) (B.length - F), .slice (some ⟨kk, 0, none⟩) F B.length]⟩ → hget hp' kk = some ⟨26, 6, x2, ptC (B'.map pqo)⟩ →
        spCat2 [.slice (some ⟨M2 + 0, 0, none⟩) 2 2] hp' = some ⟨1, fun σ => .slice (some ⟨σ 0, 0, none⟩) (rmn B').length (rmn B').length, fun _ => 26, fun _ => 6, fun _ _ => ptC ((rmn B').map pqo)⟩ := fun h1 h2 => by
      unfold spCat2
      simp only [h1, d1 h2, d2 h2]
      rw [if_pos ⟨by rw [List.length_drop, List.length_take, List.length_map]; omega, by rw [List.length_drop, List.length_take, List.length_map]; omega⟩, eRm]
      have : ((B'.map pqo).drop F).length + ((B'.map pqo).take F).length = (rmn B').length := by rw [lR, List.length_drop, List.length_take, List.length_map]; omega
      rw [this]
    have nwC : ∀ (args : List Value) (hp : Heap) (k : Nat), nwL spCat2 args hp k = (spCat2 args hp).map fun r => (r.val (k + ·), newH r (k + ·) r.m, r.m) := fun _ _ _ => rfl
    have m10 : M2 + 1 + 0 = M2 + 1 := rfl
    unfold nmNL
    rw [if_neg nR]
    generalize ptC ((rmn B').map pqo) = PR at *
    generalize (rmn B').length = LR at *
    simp only [↓R0, R1, simprocAttr, -Int.reduceAbs, t4, t8, t62, t63, t64, d1', fle, fle', mk1, mk2, ct, nwC, newHL1, m10, bk, hkq, hkq', FinL, isEnd, resL, res1]
    refine ⟨fun _ => M2 + 1, _, fun i hi => (by omega : N ≤ M2 + 1), fun i j (hi : i < 1) (hj : j < 1) _ => by omega, rfl, rfl, fun i hi => ⟨false, ?_⟩, fun q hq => ?_⟩
    · first | (simp only [↓R0, R1, simprocAttr, -Int.reduceAbs]; done) | (simp only [↓R0, R1, simprocAttr, -Int.reduceAbs]; rfl)
    · have nb := nbq2 q hq
      simp only [↓R0, R1, simprocAttr, -Int.reduceAbs, nb]
      exact hh2 q hq
end Go.Eng
end
section
set_option linter.unusedVariables false
set_option linter.unusedSimpArgs false
set_option linter.unusedSectionVars false
set_option maxRecDepth 20000
namespace Go.Eng
open Go Go.Proofs Go.IntWalk
theorem norm_call {h : Heap} {b : Nat} {l : List PQ} {sl : Value} (hx : decPts h sl = some l) (hs : ptsN l) :
    ∃ a D mm, nwL spNorm2 [sl] h b = some (.tuple ⟨[.slice a (nmOut (pvs l)).2.length (nmOut (pvs l)).2.length, .int .i64 (nmOut (pvs l)).1]⟩, D, mm) ∧ (∀ q, q < b → hget (D ++ h) q = hget h q) ∧
      (∀ hp, ExtL (b + mm) (D ++ h) hp → decPts hp (.slice a (nmOut (pvs l)).2.length (nmOut (pvs l)).2.length) = some ((nmOut (pvs l)).2.map pqo)) := by
  have e0 : spNorm2 [sl] h = some (nmNL (nmOut (pvs l))) := by
    unfold spNorm2
    simp only [hx]
    exact if_pos hs
  have e : nwL spNorm2 [sl] h b = some ((nmNL (nmOut (pvs l))).val (b + ·), newH (nmNL (nmOut (pvs l))) (b + ·) (nmNL (nmOut (pvs l))).m, (nmNL (nmOut (pvs l))).m) := by
    unfold nwL
    rw [e0]; rfl
  rw [e]
  generalize nmOut (pvs l) = r at *
  unfold nmNL
  by_cases z : r.2 = []
  · rw [if_pos z]
    refine ⟨none, [], 0, ?_, fun _ _ => rfl, fun hp _ => ?_⟩
    · rw [z]; rfl
    · rw [z]; rfl
  · rw [if_neg z]
    refine ⟨some ⟨b + 0, 0, none⟩, _, 1, rfl, fun q hq => ?_, fun hp he => ?_⟩
    · have : (b + 0 = q) = False := eq_false (by omega)
      simp only [newH, List.cons_append, List.nil_append, hget, this, if_false]
    · have g := he (b + 0) (by omega)
      rw [show hget (newH ⟨1, fun σ => Value.tuple ⟨[.slice (some ⟨σ 0, 0, none⟩) r.2.length r.2.length, .int .i64 r.1]⟩, fun _ => 26, fun _ => 6, fun _ _ => ptC (r.2.map pqo)⟩ (b + ·) 1 ++ h) (b + 0) = some ⟨26, 6, false, ptC (r.2.map pqo)⟩ from if_pos rfl] at g
      exact pts_list g (List.length_map _)
def smallP (l : List PQ) : Prop := l.length ≤ 16 ∧ ∀ p ∈ l, pok 6 p
instance {l : List PQ} : Decidable (smallP l) := by unfold smallP; infer_instance
theorem smallP.n {l : List PQ} (h : smallP l) : ptsN l := ⟨by have := h.1; omega, fun p hp => (h.2 p hp).le (by omega)⟩
def spGreat26 : List Value → Heap → Option Value
  | [sl], h => match decPts h sl with
    | some l => if l.length ≤ 9223372036854775807 then some (.int .i64 (if smallP l then 0 else 1)) else none
    | none => none
  | _, _ => none
theorem great26_of {h : Heap} {sl : Value} {l : List PQ} (hx : decPts h sl = some l) (hs : l.length ≤ 9223372036854775807) : spGreat26 [sl] h = some (.int .i64 (if smallP l then 0 else 1)) := by
  unfold spGreat26
  simp only [hx]
  exact if_pos hs
def c6 : ICode :=
  (.seq (.reg [qq 2 (.mv (ci 0))]) (.seq (.seq (.reg [qq 5 (.mv (.t 0)), qq 6 (.lensl (.t 5)), qq 7 (.bin .gtr (.t 6) (ci 16))]) (.cond (.t 7) (.seq (.reg [qq 2 (.mv (ci 1))]) .ret) .skip)) (.seq (.seq (.reg [qq 8 (.mv (.t 0)), qq 9 (.lensl (.t 8)), qq 10 (.mv (ci 0))]) (.block 0 (.loop (.seq (.reg [qq 11 (.bin .lss (.t 10) (.t 9))]) (.seq (.cond (.t 11) .skip (.exit 0)) (.seq (.block 1 (.seq (.reg [qq 12 (.mv (.t 10)), qq 3 (.mv (.t 12))]) (.seq (.reg [qq 4 (.mv (ci 0))]) (.block 2 (.loop (.seq (.seq (.reg [qq 13 (.mv (.t 4)), qq 14 (.bin .lss (.t 13) (ci 2))]) (.cond (.t 14) .skip (.exit 2))) (.seq (.block 3 (.seq (.reg [qq 17 (.mv (.t 0)), qq 18 (.mv (.t 3)), qq 19 (.mv (.t 4)), qq 20 (.ixsl 6 (.t 17) (.t 18)), qq 21 (.ixarr 2 3 (.t 20) (.t 19)), qq 22 (.faddr 1 (.t 21)), qq 23 (.load false 1 (.t 22)), qq 24 (.lens (.t 23)), qq 25 (.bin .gtr (.t 24) (ci 6)), qq 26 (.mv (.t 25)), ⟨(some 27), (some (26, false)), (.mv (.t 0))⟩, ⟨(some 28), (some (26, false)), (.mv (.t 3))⟩, ⟨(some 29), (some (26, false)), (.mv (.t 4))⟩, ⟨(some 30), (some (26, false)), (.ixsl 6 (.t 27) (.t 28))⟩, ⟨(some 31), (some (26, false)), (.ixarr 2 3 (.t 30) (.t 29))⟩, ⟨(some 32), (some (26, false)), (.faddr 2 (.t 31))⟩, ⟨(some 33), (some (26, false)), (.load false 1 (.t 32))⟩, ⟨(some 34), (some (26, false)), (.lens (.t 33))⟩, ⟨(some 35), (some (26, false)), (.bin .gtr (.t 34) (ci 6))⟩, qq 36 (.pick (.t 26) (.c (.bool true)) (.t 35))]) (.cond (.t 36) (.seq (.reg [qq 2 (.mv (ci 1))]) .ret) .skip))) (.reg [qq 15 (.mv (.t 4)), qq 16 (.bin .add (.t 15) (ci 1)), qq 4 (.mv (.t 16))])))))))) (.reg [qq 37 (.bin .add (.t 10) (ci 1)), qq 10 (.mv (.t 37))]))))))) (.seq (.reg [qq 2 (.mv (ci 0))]) .ret))))
theorem tr6 : trFun Tryd.prog 6 = some ⟨38, [.t 2], c6⟩ := by kernel_rfl
set_option maxHeartbeats 8000000 in
theorem ok_great26 : SpecOK Tryd.prog 6 (rdS spGreat26) := by
  refine rd_run (env_nil _) mixed tr6 ?_ ?_
  · intro args h h' v hle e
    unfold spGreat26 at e ⊢
    split at e
    · split at e
      · rename_i l hb
        simp only [decPts_mono hle hb]; exact e
      · cases e
    · cases e
  intro args v h N hG hN
  unfold spGreat26 at hG
  split at hG
  case h_2 => cases hG
  rename_i sl
  split at hG
  case h_2 => cases hG
  rename_i l hx
  split at hG
  case isFalse => cases hG
  rename_i hs
  cases hG
  obtain ⟨a, cc, rfl⟩ := decPts_sl hx
  refine ⟨rfl, by simp, ?_⟩
  by_cases c16 : 16 < l.length
  · have c16' : ((l.length : Int) > 16) = True := eq_true (by omega)
    rw [if_neg (fun h => by have := h.1; omega)]
    simp only [c6, G0, Nat.reduceAdd]
    simp only [↓R0, R1, simprocAttr, -Int.reduceAbs, c16', Fin, isEnd, resL, res1]
    exact ⟨_, rfl, rfl, fun k hk => by simp only [ne_nb hk, if_false]⟩
  have c16' : ((l.length : Int) > 16) = False := eq_false (by omega)
  simp only [c6, G0, Nat.reduceAdd]
  simp only [↓R0, R1, simprocAttr, -Int.reduceAbs, c16']
  refine lp_parts (fun c tm hp nx => ∃ (i : Nat), c + i = l.length ∧ tmget tm 0 = .slice a l.length cc ∧ tmget tm 9 = .int .i64 l.length ∧ tmget tm 10 = .int .i64 (i : Nat) ∧ (∀ j, j < i → pok 6 (pqAt l j)) ∧ hp = h ∧ nx = N + 0) ?_ l.length
    ⟨0, by omega, ?_, ?_, ?_, fun j hj => absurd hj (Nat.not_lt_zero j), rfl, rfl⟩
  rotate_left
  all_goals first | (simp only [↓R0, R1, simprocAttr, -Int.reduceAbs]; done) | (simp only [↓R0, R1, simprocAttr, -Int.reduceAbs]; rfl) | skip
  rintro c tm hp nx ⟨i, hc, t0, t9, t10, hall, rfl, hnx⟩
  rw [hnx]
  clear hnx nx
  by_cases c1 : i < l.length
  case neg =>
    have e : i = l.length := by omega
    subst e
    have c1' : ((l.length : Int) < (l.length : Int)) = False := eq_false (by omega)
    have sp : smallP l := ⟨by omega, fun p hp => by
      obtain ⟨j, hj⟩ := List.getElem?_of_mem hp
      have hlt := (List.getElem?_eq_some_iff.1 hj).1
      rw [pqAt_some hlt] at hj
      rw [← Option.some.inj hj]
      exact hall j hlt⟩
    rw [if_pos sp]
    simp only [↓R0, R1, simprocAttr, -Int.reduceAbs, t0, t9, t10, c1', Fin, isEnd, resL, res1]
    exact ⟨_, rfl, rfl, fun _ _ => trivial⟩
  have c1' : ((i : Int) < (l.length : Int)) = True := eq_true (by omega)
  have w1 : IntKind.i64.wrap ((i : Int) + 1) = ((i + 1 : Nat) : Int) := by rw [i64_in _ (by omega)]; omega
  obtain ⟨k, off, blk, rfl, hb, q1, q2⟩ := pts_at hx c1
  obtain ⟨A, hA⟩ : ∃ A, A = pqAt l i := ⟨_, rfl⟩
  rw [← hA] at q2
  have pc : ∀ j, j < 6 → blk.cells[off + i * 6 + j]? = (pcl A)[j]? := fun j hj => by
    rw [← q2, List.getElem?_take, if_pos hj, List.getElem?_drop]
  have p1 : blk.cells[off + i * 6 + 1]? = some (.string ⟨⟨A.1.n⟩⟩) := pc 1 (by omega)
  have p2 : blk.cells[off + i * 6 + 2]? = some (.string ⟨⟨A.1.d⟩⟩) := pc 2 (by omega)
  have p4 : blk.cells[off + i * 6 + 3 + 1]? = some (.string ⟨⟨A.2.n⟩⟩) := pc 4 (by omega)
  have p5 : blk.cells[off + i * 6 + 3 + 2]? = some (.string ⟨⟨A.2.d⟩⟩) := pc 5 (by omega)
  have p4' : blk.cells[off + i * 6 + 4]? = some (.string ⟨⟨A.2.n⟩⟩) := pc 4 (by omega)
  have p5' : blk.cells[off + i * 6 + 5]? = some (.string ⟨⟨A.2.d⟩⟩) := pc 5 (by omega)
  have p0 : blk.cells[off + i * 6 + 0 + 1]? = some (.string ⟨⟨A.1.n⟩⟩) := pc 1 (by omega)
  have p0' : blk.cells[off + i * 6 + 0 + 2]? = some (.string ⟨⟨A.1.d⟩⟩) := pc 2 (by omega)
  have sz : ∀ x : List UInt8, ((⟨⟨x⟩⟩ : ByteArray).size : Int) = (x.length : Int) := fun _ => rfl
  have bad : ¬ pok 6 A → (if smallP l then (0 : Int) else 1) = 1 := fun h => if_neg fun H => h (by rw [hA]; exact H.2 _ (pqAt_mem c1))
  by_cases s1 : 6 < A.1.n.length
  · have s1' : ((A.1.n.length : Int) > 6) = True := eq_true (by omega)
    rw [bad (fun h => by have := h.1.1; omega)]
    simp only [↓R0, R1, simprocAttr, -Int.reduceAbs, t0, t9, t10, c1, c1']
    refine lp_step ?_
    simp only [↓R0, R1, simprocAttr, -Int.reduceAbs, t0, t9, t10, hb, p0, p1, sz, s1', c1, c1', Fin, isEnd, resL, res1]
    exact ⟨_, rfl, rfl, fun _ _ => trivial⟩
  have s1' : ((A.1.n.length : Int) > 6) = False := eq_false (by omega)
  by_cases s2 : 6 < A.1.d.length
  · have s2' : ((A.1.d.length : Int) > 6) = True := eq_true (by omega)
    rw [bad (fun h => by have := h.1.2; omega)]
    simp only [↓R0, R1, simprocAttr, -Int.reduceAbs, t0, t9, t10, c1, c1']
    refine lp_step ?_
    simp only [↓R0, R1, simprocAttr, -Int.reduceAbs, t0, t9, t10, hb, p0, p0', p1, p2, sz, s1', s2', c1, c1', Fin, isEnd, resL, res1]
    exact ⟨_, rfl, rfl, fun _ _ => trivial⟩
  have s2' : ((A.1.d.length : Int) > 6) = False := eq_false (by omega)
  by_cases s3 : 6 < A.2.n.length
  · have s3' : ((A.2.n.length : Int) > 6) = True := eq_true (by omega)
    rw [bad (fun h => by have := h.2.1; omega)]
    simp only [↓R0, R1, simprocAttr, -Int.reduceAbs, t0, t9, t10, c1, c1']
    refine lp_step ?_
    simp only [↓R0, R1, simprocAttr, -Int.reduceAbs, t0, t9, t10, hb, p0, p0', p1, p2, sz, s1', s2', c1, c1']
    refine lp_step ?_
    simp only [↓R0, R1, simprocAttr, -Int.reduceAbs, t0, t9, t10, hb, p4, p4', sz, s3', c1, c1', Fin, isEnd, resL, res1]
    exact ⟨_, rfl, rfl, fun _ _ => trivial⟩
  have s3' : ((A.2.n.length : Int) > 6) = False := eq_false (by omega)
  by_cases s4 : 6 < A.2.d.length
  · have s4' : ((A.2.d.length : Int) > 6) = True := eq_true (by omega)
    rw [bad (fun h => by have := h.2.2; omega)]
    simp only [↓R0, R1, simprocAttr, -Int.reduceAbs, t0, t9, t10, c1, c1']
    refine lp_step ?_
    simp only [↓R0, R1, simprocAttr, -Int.reduceAbs, t0, t9, t10, hb, p0, p0', p1, p2, sz, s1', s2', c1, c1']
    refine lp_step ?_
    simp only [↓R0, R1, simprocAttr, -Int.reduceAbs, t0, t9, t10, hb, p4, p4', p5, p5', sz, s3', s4', c1, c1', Fin, isEnd, resL, res1]
    exact ⟨_, rfl, rfl, fun _ _ => trivial⟩
  have s4' : ((A.2.d.length : Int) > 6) = False := eq_false (by omega)
  simp only [↓R0, R1, simprocAttr, -Int.reduceAbs, t0, t9, t10, c1, c1']
  refine lp_step ?_
  simp only [↓R0, R1, simprocAttr, -Int.reduceAbs, t0, t9, t10, hb, p0, p0', p1, p2, sz, s1', s2', c1, c1']
  refine lp_step ?_
  simp only [↓R0, R1, simprocAttr, -Int.reduceAbs, t0, t9, t10, hb, p4, p4', p5, p5', sz, s3', s4', c1, c1']
  refine lp_step ?_
  simp only [↓R0, R1, simprocAttr, -Int.reduceAbs, t0, t9, t10, w1]
  refine ⟨c - 1, by omega, i + 1, by omega, rfl, fun j hj => ?_⟩
  by_cases e : j = i
  · rw [e, ← hA]; exact ⟨⟨by omega, by omega⟩, by omega, by omega⟩
  · exact hall j (by omega)
theorem ceq6 (p q : PQ) : ceq [.b, .s, .s, .b, .s, .s] (pcl p) (pcl q) = some (decide (p = q)) := by
  obtain ⟨⟨s1, n1, d1⟩, ⟨s2, n2, d2⟩⟩ := p
  obtain ⟨⟨t1, m1, e1⟩, ⟨t2, m2, e2⟩⟩ := q
  simp only [pcl, RQ.cells, List.cons_append, List.nil_append, ceq, Option.map_some, Bool.and_true]
  have f : ∀ x y : List UInt8, decide ((⟨⟨x⟩⟩ : ByteArray) = ⟨⟨y⟩⟩) = decide (x = y) := fun x y => decide_eq_decide.2 ⟨fun e => by injection e with e; injection e, fun e => by rw [e]⟩
  simp only [f]
  rw [show decide (((⟨s1, n1, d1⟩ : RQ), (⟨s2, n2, d2⟩ : RQ)) = (⟨t1, m1, e1⟩, ⟨t2, m2, e2⟩)) = decide (s1 = t1 ∧ n1 = m1 ∧ d1 = e1 ∧ s2 = t2 ∧ n2 = m2 ∧ d2 = e2) from decide_eq_decide.2 ⟨fun e => by cases e; exact ⟨rfl, rfl, rfl, rfl, rfl, rfl⟩, fun ⟨a, b, c, d, e, f⟩ => by rw [a, b, c, d, e, f]⟩]
  simp only [Bool.decide_and]
def spSame26 : List Value → Heap → Option Value
  | [sl, tl], h => match decPts h sl, decPts h tl with
    | some l, some m => if l.length ≤ 1000 then some (.bool (decide (l = m))) else none
    | _, _ => none
  | _, _ => none
theorem same26_of {h : Heap} {sl tl : Value} {l m : List PQ} (hx : decPts h sl = some l) (hy : decPts h tl = some m) (hs : l.length ≤ 1000) : spSame26 [sl, tl] h = some (.bool (decide (l = m))) := by
  unfold spSame26
  simp only [hx, hy]
  exact if_pos hs
def c9 : ICode :=
  (.seq (.reg [qq 4 (.mv (.c (.bool false)))]) (.seq (.seq (.reg [qq 6 (.mv (.t 0)), qq 7 (.lensl (.t 6)), qq 8 (.mv (.t 1)), qq 9 (.lensl (.t 8)), qq 10 (.bin .neq (.t 7) (.t 9))]) (.cond (.t 10) (.seq (.reg [qq 4 (.mv (.c (.bool false)))]) .ret) .skip)) (.seq (.seq (.reg [qq 11 (.mv (.t 0)), qq 12 (.lensl (.t 11)), qq 13 (.mv (ci 0))]) (.block 0 (.loop (.seq (.reg [qq 14 (.bin .lss (.t 13) (.t 12))]) (.seq (.cond (.t 14) .skip (.exit 0)) (.seq (.block 1 (.seq (.reg [qq 15 (.mv (.t 13)), qq 5 (.mv (.t 15))]) (.seq (.dreg [qu 16 (.mv (.t 0)), qu 17 (.mv (.t 5)), qu 18 (.ixsl 6 (.t 16) (.t 17)), qu 19 (.load true 6 (.t 18)), qu 20 (.mv (.t 1)), qu 21 (.mv (.t 5)), qu 22 (.ixsl 6 (.t 20) (.t 21)), qu 23 (.load true 6 (.t 22)), qu 24 (.eqa true [.b, .s, .s, .b, .s, .s] (.t 19) (.t 23))]) (.cond (.t 24) (.seq (.reg [qq 4 (.mv (.c (.bool false)))]) .ret) .skip)))) (.reg [qq 25 (.bin .add (.t 13) (ci 1)), qq 13 (.mv (.t 25))]))))))) (.seq (.reg [qq 4 (.mv (.c (.bool true)))]) .ret))))
theorem tr9 : trFun Tryd.prog 9 = some ⟨26, [.t 4], c9⟩ := by kernel_rfl
set_option maxHeartbeats 8000000 in
theorem ok_same26 : SpecOK Tryd.prog 9 (rdS spSame26) := by
  refine rd_run (env_nil _) mixed tr9 ?_ ?_
  · intro args h h' v hle e
    unfold spSame26 at e ⊢
    split at e
    · split at e
      · rename_i l m hb hc
        simp only [decPts_mono hle hb, decPts_mono hle hc]; exact e
      · cases e
    · cases e
  intro args v h N hG hN
  unfold spSame26 at hG
  split at hG
  case h_2 => cases hG
  rename_i sl tl
  split at hG
  case h_2 => cases hG
  rename_i l m hx hy
  split at hG
  case isFalse => cases hG
  rename_i hs
  cases hG
  obtain ⟨a, cc, rfl⟩ := decPts_sl hx
  obtain ⟨b, dd, rfl⟩ := decPts_sl hy
  refine ⟨rfl, by simp, ?_⟩
  have dn : ∀ a b : Int, decide (a ≠ b) = !decide (a = b) := fun a b => by by_cases h : a = b <;> simp [h]
  by_cases el : l.length = m.length
  case neg =>
    have el' : ((l.length : Int) = (m.length : Int)) = False := eq_false (by omega)
    have el'' : (l.length = m.length) = False := eq_false el
    rw [decide_eq_false (fun e => el (by rw [e]))]
    simp only [c9, G0, Nat.reduceAdd]
    simp only [↓R0, R1, simprocAttr, -Int.reduceAbs, dn, el', el'', Bool.not_false, Fin, isEnd, resL, res1]
    exact ⟨_, rfl, rfl, fun k hk => by simp only [ne_nb hk, if_false]⟩
  have el' : ((l.length : Int) = (m.length : Int)) = True := eq_true (by omega)
  have el'' : (l.length = m.length) = True := eq_true el
  simp only [c9, G0, Nat.reduceAdd]
  simp only [↓R0, R1, simprocAttr, -Int.reduceAbs, dn, el', el'', Bool.not_true]
  refine lp_parts (fun c tm hp nx => ∃ (i : Nat), c + i = l.length ∧ tmget tm 0 = .slice a l.length cc ∧ tmget tm 1 = .slice b m.length dd ∧ tmget tm 12 = .int .i64 l.length ∧ tmget tm 13 = .int .i64 (i : Nat) ∧ (∀ j, j < i → pqAt l j = pqAt m j) ∧ hp = h ∧ nx = N + 0) ?_ l.length
    ⟨0, by omega, ?_, ?_, ?_, ?_, fun j hj => absurd hj (Nat.not_lt_zero j), rfl, rfl⟩
  rotate_left
  all_goals first | (simp only [↓R0, R1, simprocAttr, -Int.reduceAbs]; done) | (simp only [↓R0, R1, simprocAttr, -Int.reduceAbs]; rfl) | skip
  rintro c tm hp nx ⟨i, hc, t0, t1, t12, t13, hall, rfl, hnx⟩
  rw [hnx]
  clear hnx nx
  by_cases c1 : i < l.length
  case neg =>
    have e : i = l.length := by omega
    subst e
    have c1' : ((l.length : Int) < (l.length : Int)) = False := eq_false (by omega)
    have ev : l = m := List.ext_getElem? fun j => by
      by_cases hj : j < l.length
      · rw [pqAt_some hj, pqAt_some (l := m) (by omega), hall j hj]
      · rw [List.getElem?_eq_none (by omega), List.getElem?_eq_none (by omega)]
    rw [decide_eq_true ev]
    simp only [↓R0, R1, simprocAttr, -Int.reduceAbs, t0, t1, t12, t13, c1', Fin, isEnd, resL, res1]
    exact ⟨_, rfl, rfl, fun _ _ => trivial⟩
  have c1' : ((i : Int) < (l.length : Int)) = True := eq_true (by omega)
  have c2' : ((i : Int) < (m.length : Int)) = True := eq_true (by omega)
  have c2 : i < m.length := by omega
  have w1 : IntKind.i64.wrap ((i : Int) + 1) = ((i + 1 : Nat) : Int) := by rw [i64_in _ (by omega)]; omega
  obtain ⟨k, off, blk, rfl, hb, q1, q2⟩ := pts_at hx c1
  obtain ⟨k', off', blk', rfl, hb', q3, q4⟩ := pts_at hy c2
  have ce := ceq6 (pqAt l i) (pqAt m i)
  by_cases z : pqAt l i = pqAt m i
  · rw [decide_eq_true z] at ce
    generalize hA : pcl (pqAt l i) = CA at *
    generalize hB : pcl (pqAt m i) = CB at *
    simp only [↓R0, R1, simprocAttr, -Int.reduceAbs, t0, t1, t12, t13, c1, c1', c2, c2', hb, hb', q1, q2, q3, q4, ce, w1, Bool.not_true, Bool.not_false]
    refine ⟨c - 1, by omega, i + 1, by omega, rfl, fun j hj => ?_⟩
    by_cases e : j = i
    · rw [e]; exact z
    · exact hall j (by omega)
  · rw [decide_eq_false z] at ce
    rw [decide_eq_false (fun e => z (by rw [e]))]
    generalize hA : pcl (pqAt l i) = CA at *
    generalize hB : pcl (pqAt m i) = CB at *
    simp only [↓R0, R1, simprocAttr, -Int.reduceAbs, t0, t1, t12, t13, c1, c1', c2, c2', hb, hb', q1, q2, q3, q4, ce, w1, Bool.not_true, Bool.not_false, Fin, isEnd, resL, res1]
    exact ⟨_, rfl, rfl, fun _ _ => trivial⟩
def dP (x y : Int) : PQ := pqo ((x : Rat), (y : Rat))
def spDot26 : List Value → Option Value
  | [.int .i64 x, .int .i64 y] => if (-1000 ≤ x ∧ x ≤ 1000) ∧ -1000 ≤ y ∧ y ≤ 1000 then some (.agg ⟨pcl (dP x y)⟩) else none
  | _ => none
theorem dot26_of {x y : Int} (hx : -1000 ≤ x ∧ x ≤ 1000) (hy : -1000 ≤ y ∧ y ≤ 1000) : spDot26 [.int .i64 x, .int .i64 y] = some (.agg ⟨pcl (dP x y)⟩) := if_pos ⟨hx, hy⟩
def c19 : ICode :=
  (.seq (.reg [qq 4 (.alloc 26 6 [(.bool false), e0, e0, (.bool false), e0, e0])]) (.seq (.reg [qq 5 (.mv (.t 0)), qq 6 (.call 15 [(.t 5)]), qq 7 (.mv (.t 1)), qq 8 (.call 15 [(.t 7)]), qq 9 (.build [(.bool false), e0, e0, (.bool false), e0, e0] [(0, 3, (.t 6)), (3, 3, (.t 8))]), qn (.store 6 (.t 4) (.t 9))]) .ret))
theorem tr19 : trFun Tryd.prog 19 = some ⟨10, [.cell 4 true 6], c19⟩ := by kernel_rfl
theorem ok_dot26 : SpecOK Tryd.prog 19 (flat spDot26) := by
  refine flat_run (env_cons ok_qFrom (env_nil _)) mixed tr19 ?_
  intro args v h N hG
  unfold spDot26 at hG
  split at hG
  case h_2 => cases hG
  rename_i x y
  split at hG
  case isFalse => cases hG
  rename_i hs
  cases hG
  refine ⟨rfl, by simp, ?_⟩
  have f1 := qfrom hs.1
  have f2 := qfrom hs.2
  have pm := p_mk (RQ.of (x : Rat)) (RQ.of (y : Rat))
  have e : ((RQ.of (x : Rat), RQ.of (y : Rat)) : PQ) = dP x y := rfl
  rw [e] at pm
  generalize RQ.of (x : Rat) = QX at *
  generalize RQ.of (y : Rat) = QY at *
  simp only [c19, G0, Nat.reduceAdd]
  simp only [↓R0, R1, simprocAttr, -Int.reduceAbs, f1, f2, pm, q_len, q_ok, q_tk, setR_length, pcl_len, pcl_ok, pcl_tk, pp_st, Fin, isEnd, resL, res1]
  exact ⟨_, rfl, rfl, fun k hk => by simp only [ne_nb hk, if_false]⟩
def exL : List PQ := [dP 2 0, dP 0 0, dP 0 2, dP 2 2, dP 2 1]
theorem dP_v (x y : Int) : pv2 (dP x y) = ((x : Rat), (y : Rat)) := pqo_v _
theorem exL_v : pvs exL = [(2, 0), (0, 0), (0, 2), (2, 2), (2, 1)] := by
  unfold exL pvs
  simp only [List.map_cons, List.map_nil, dP_v]
  rfl
theorem ex1 : nmOut [(2, 0), (0, 0), (0, 2), (2, 2), (2, 1)] = (0, [(0, 0), (2, 0), (2, 2), (0, 2)]) := by decide +kernel
theorem ex2 : ar2 [(2, 0), (0, 0), (0, 2), (2, 2), (2, 1)] / 2 = -4 := by decide +kernel
theorem ex3 : clsP [(2, 0), (0, 0), (0, 2), (2, 2), (2, 1)] (1, 1) = 1 := by decide +kernel
theorem ex4 : clsP [(2, 0), (0, 0), (0, 2), (2, 2), (2, 1)] (3, 1) = -1 := by decide +kernel
theorem dP_ok {x y : Int} (hx : -1000 ≤ x ∧ x ≤ 1000) (hy : -1000 ≤ y ∧ y ≤ 1000) : pok 1000 (dP x y) := ⟨(RQ.of_ok (RBs hx)).le (by omega), (RQ.of_ok (RBs hy)).le (by omega)⟩
theorem exL_ok : ptsN exL := by
  refine ⟨by decide, fun p hp => ?_⟩
  have : p = dP 2 0 ∨ p = dP 0 0 ∨ p = dP 0 2 ∨ p = dP 2 2 ∨ p = dP 2 1 := by simpa [exL] using hp
  rcases this with rfl | rfl | rfl | rfl | rfl <;> exact dP_ok (by omega) (by omega)
theorem put1 (l : List PQ) (q : PQ) (n : Nat) : setR (ptC l ++ zs6 (n + 1)) (l.length * 6) (pcl q) = ptC (l ++ [q]) ++ zs6 n := by
  have e : zs6 (n + 1) = zs6 1 ++ zs6 n := by rw [← zs6_add, Nat.add_comm]
  rw [setR_app_right _ _ _ _ (by rw [ptC_len]; exact Nat.le_refl _), ptC_len, Nat.sub_self, e, setR_app_left _ _ _ _ (by rw [pcl_len, zs6_len]; omega), setR_full _ _ (by rw [pcl_len, zs6_len]), ptC_snoc, List.append_assoc]
theorem five (a b c d e : PQ) : setR (setR (setR (setR (setR [.bool false, .string ⟨⟨[]⟩⟩, .string ⟨⟨[]⟩⟩, .bool false, .string ⟨⟨[]⟩⟩, .string ⟨⟨[]⟩⟩, .bool false, .string ⟨⟨[]⟩⟩, .string ⟨⟨[]⟩⟩, .bool false, .string ⟨⟨[]⟩⟩, .string ⟨⟨[]⟩⟩, .bool false, .string ⟨⟨[]⟩⟩, .string ⟨⟨[]⟩⟩, .bool false, .string ⟨⟨[]⟩⟩, .string ⟨⟨[]⟩⟩, .bool false, .string ⟨⟨[]⟩⟩, .string ⟨⟨[]⟩⟩, .bool false, .string ⟨⟨[]⟩⟩, .string ⟨⟨[]⟩⟩, .bool false, .string ⟨⟨[]⟩⟩, .string ⟨⟨[]⟩⟩, .bool false, .string ⟨⟨[]⟩⟩, .string ⟨⟨[]⟩⟩] 0 (pcl a)) 6 (pcl b)) 12 (pcl c)) 18 (pcl d)) 24 (pcl e) = ptC [a, b, c, d, e] := by
  have e0 : ([.bool false, .string ⟨⟨[]⟩⟩, .string ⟨⟨[]⟩⟩, .bool false, .string ⟨⟨[]⟩⟩, .string ⟨⟨[]⟩⟩, .bool false, .string ⟨⟨[]⟩⟩, .string ⟨⟨[]⟩⟩, .bool false, .string ⟨⟨[]⟩⟩, .string ⟨⟨[]⟩⟩, .bool false, .string ⟨⟨[]⟩⟩, .string ⟨⟨[]⟩⟩, .bool false, .string ⟨⟨[]⟩⟩, .string ⟨⟨[]⟩⟩, .bool false, .string ⟨⟨[]⟩⟩, .string ⟨⟨[]⟩⟩, .bool false, .string ⟨⟨[]⟩⟩, .string ⟨⟨[]⟩⟩, .bool false, .string ⟨⟨[]⟩⟩, .string ⟨⟨[]⟩⟩, .bool false, .string ⟨⟨[]⟩⟩, .string ⟨⟨[]⟩⟩] : List Value) = ptC [] ++ zs6 5 := rfl
  have e1 : setR (ptC [] ++ zs6 5) 0 (pcl a) = ptC [a] ++ zs6 4 := put1 [] a 4
  have e2 : setR (ptC [a] ++ zs6 4) 6 (pcl b) = ptC [a, b] ++ zs6 3 := put1 [a] b 3
  have e3 : setR (ptC [a, b] ++ zs6 3) 12 (pcl c) = ptC [a, b, c] ++ zs6 2 := put1 [a, b] c 2
  have e4 : setR (ptC [a, b, c] ++ zs6 2) 18 (pcl d) = ptC [a, b, c, d] ++ zs6 1 := put1 [a, b, c] d 1
  have e5 : setR (ptC [a, b, c, d] ++ zs6 1) 24 (pcl e) = ptC [a, b, c, d, e] ++ zs6 0 := put1 [a, b, c, d] e 0
  have e6 : zs6 0 = [] := rfl
  rw [e0, e1, e2, e3, e4, e5, e6, List.append_nil]
theorem four (a b c d : PQ) : setR (setR (setR (setR [.bool false, .string ⟨⟨[]⟩⟩, .string ⟨⟨[]⟩⟩, .bool false, .string ⟨⟨[]⟩⟩, .string ⟨⟨[]⟩⟩, .bool false, .string ⟨⟨[]⟩⟩, .string ⟨⟨[]⟩⟩, .bool false, .string ⟨⟨[]⟩⟩, .string ⟨⟨[]⟩⟩, .bool false, .string ⟨⟨[]⟩⟩, .string ⟨⟨[]⟩⟩, .bool false, .string ⟨⟨[]⟩⟩, .string ⟨⟨[]⟩⟩, .bool false, .string ⟨⟨[]⟩⟩, .string ⟨⟨[]⟩⟩, .bool false, .string ⟨⟨[]⟩⟩, .string ⟨⟨[]⟩⟩] 0 (pcl a)) 6 (pcl b)) 12 (pcl c)) 18 (pcl d) = ptC [a, b, c, d] := by
  have e0 : ([.bool false, .string ⟨⟨[]⟩⟩, .string ⟨⟨[]⟩⟩, .bool false, .string ⟨⟨[]⟩⟩, .string ⟨⟨[]⟩⟩, .bool false, .string ⟨⟨[]⟩⟩, .string ⟨⟨[]⟩⟩, .bool false, .string ⟨⟨[]⟩⟩, .string ⟨⟨[]⟩⟩, .bool false, .string ⟨⟨[]⟩⟩, .string ⟨⟨[]⟩⟩, .bool false, .string ⟨⟨[]⟩⟩, .string ⟨⟨[]⟩⟩, .bool false, .string ⟨⟨[]⟩⟩, .string ⟨⟨[]⟩⟩, .bool false, .string ⟨⟨[]⟩⟩, .string ⟨⟨[]⟩⟩] : List Value) = ptC [] ++ zs6 4 := rfl
  have e1 : setR (ptC [] ++ zs6 4) 0 (pcl a) = ptC [a] ++ zs6 3 := put1 [] a 3
  have e2 : setR (ptC [a] ++ zs6 3) 6 (pcl b) = ptC [a, b] ++ zs6 2 := put1 [a] b 2
  have e3 : setR (ptC [a, b] ++ zs6 2) 12 (pcl c) = ptC [a, b, c] ++ zs6 1 := put1 [a, b] c 1
  have e4 : setR (ptC [a, b, c] ++ zs6 1) 18 (pcl d) = ptC [a, b, c, d] ++ zs6 0 := put1 [a, b, c] d 0
  have e6 : zs6 0 = [] := rfl
  rw [e0, e1, e2, e3, e4, e6, List.append_nil]
theorem exN : ([(0, 0), (2, 0), (2, 2), (0, 2)] : List P2).map pqo = [dP 0 0, dP 2 0, dP 2 2, dP 0 2] := congrArg (List.map pqo) (show ([(0, 0), (2, 0), (2, 2), (0, 2)] : List P2) = [(((0 : Int) : Rat), ((0 : Int) : Rat)), (((2 : Int) : Rat), ((0 : Int) : Rat)), (((2 : Int) : Rat), ((2 : Int) : Rat)), (((0 : Int) : Rat), ((2 : Int) : Rat))] from rfl)
theorem v11 : pv2 (dP 1 1) = (1, 1) := (dP_v 1 1).trans rfl
theorem v31 : pv2 (dP 3 1) = (3, 1) := (dP_v 3 1).trans rfl
theorem ex_ar {h : Heap} {sl : Value} (hx : decPts h sl = some exL) : spArea2 [sl] h = some (.agg ⟨(RQ.of (-4)).cells⟩) := by rw [area2_of hx exL_ok.ok, exL_v, ex2]
theorem ex_in {h : Heap} {sl : Value} (hx : decPts h sl = some exL) : spCls2 [sl, .agg ⟨pcl (dP 1 1)⟩] h = some (.int .i64 1) := by
  rw [cls2_of hx exL_ok.ok ((dP_ok (by omega) (by omega)).le (by omega)), exL_v, v11, ex3]
theorem ex_out {h : Heap} {sl : Value} (hx : decPts h sl = some exL) : spCls2 [sl, .agg ⟨pcl (dP 3 1)⟩] h = some (.int .i64 (-1)) := by
  rw [cls2_of hx exL_ok.ok ((dP_ok (by omega) (by omega)).le (by omega)), exL_v, v31, ex4]
theorem ex_norm {h : Heap} {b : Nat} {sl : Value} (hx : decPts h sl = some exL) :
    ∃ a D mm, nwL spNorm2 [sl] h b = some (.tuple ⟨[.slice a 4 4, .int .i64 0]⟩, D, mm) ∧ (∀ q, q < b → hget (D ++ h) q = hget h q) ∧
      (∀ hp, ExtL (b + mm) (D ++ h) hp → decPts hp (.slice a 4 4) = some [dP 0 0, dP 2 0, dP 2 2, dP 0 2]) := by
  obtain ⟨a, D, mm, h1, h2, h3⟩ := norm_call (b := b) hx exL_ok
  rw [exL_v, ex1] at h1 h3
  refine ⟨a, D, mm, h1, h2, fun hp he => ?_⟩
  rw [← exN]
  exact h3 hp he
theorem ceqQ (q : RQ) : ceq [.b, .s, .s] q.cells q.cells = some true := by
  simp only [RQ.cells, ceq, Option.map_some, decide_true, Bool.and_true]
end Go.Eng
end
section
set_option linter.unusedVariables false
set_option linter.unusedSimpArgs false
set_option linter.unusedSectionVars false
set_option maxRecDepth 20000
namespace Go.Eng
open Go Go.Proofs Go.IntWalk
def spAwake26 : List Value → Heap → Option Value
  | [], _ => some (.bool true)
  | _, _ => none
theorem fiveEx : setR (setR (setR (setR (setR [.bool false, .string ⟨⟨[]⟩⟩, .string ⟨⟨[]⟩⟩, .bool false, .string ⟨⟨[]⟩⟩, .string ⟨⟨[]⟩⟩, .bool false, .string ⟨⟨[]⟩⟩, .string ⟨⟨[]⟩⟩, .bool false, .string ⟨⟨[]⟩⟩, .string ⟨⟨[]⟩⟩, .bool false, .string ⟨⟨[]⟩⟩, .string ⟨⟨[]⟩⟩, .bool false, .string ⟨⟨[]⟩⟩, .string ⟨⟨[]⟩⟩, .bool false, .string ⟨⟨[]⟩⟩, .string ⟨⟨[]⟩⟩, .bool false, .string ⟨⟨[]⟩⟩, .string ⟨⟨[]⟩⟩, .bool false, .string ⟨⟨[]⟩⟩, .string ⟨⟨[]⟩⟩, .bool false, .string ⟨⟨[]⟩⟩, .string ⟨⟨[]⟩⟩] 0 (pcl (dP 2 0))) 6 (pcl (dP 0 0))) 12 (pcl (dP 0 2))) 18 (pcl (dP 2 2))) 24 (pcl (dP 2 1)) = ptC exL := by
  unfold exL
  exact five _ _ _ _ _
def c7 : ICode :=
  (.seq (.reg [qq 0 (.mv (.c (.bool false)))]) (.seq (.reg [qq 4 (.call 19 [(ci 2), (ci 0)]), qq 5 (.call 19 [(ci 0), (ci 0)]), qq 6 (.call 19 [(ci 0), (ci 2)]), qq 7 (.call 19 [(ci 2), (ci 2)]), qq 8 (.call 19 [(ci 2), (ci 1)]), qq 9 (.bslice 26 6 5 [(.bool false), e0, e0, (.bool false), e0, e0, (.bool false), e0, e0, (.bool false), e0, e0, (.bool false), e0, e0, (.bool false), e0, e0, (.bool false), e0, e0, (.bool false), e0, e0, (.bool false), e0, e0, (.bool false), e0, e0] [(0, 6, (.t 4)), (6, 6, (.t 5)), (12, 6, (.t 6)), (18, 6, (.t 7)), (24, 6, (.t 8))]), qq 1 (.mv (.t 9))]) (.seq (.reg [qq 11 (.mv (.t 1)), qq 12 (.call 8 [(.t 11)]), qq 10 (.mv (.t 12)), qq 13 (.ext (.t 10) 0), qq 14 (.ext (.t 10) 1), qq 2 (.mv (.t 13)), qq 3 (.mv (.t 14))]) (.seq (.reg [qq 15 (.mv (.t 3)), qq 16 (.bin .eql (.t 15) (ci 0)), qq 17 (.mv (.t 16)), ⟨(some 18), (some (17, true)), (.mv (.t 2))⟩, ⟨(some 19), (some (17, true)), (.call 19 [(ci 0), (ci 0)])⟩, ⟨(some 20), (some (17, true)), (.call 19 [(ci 2), (ci 0)])⟩, ⟨(some 21), (some (17, true)), (.call 19 [(ci 2), (ci 2)])⟩, ⟨(some 22), (some (17, true)), (.call 19 [(ci 0), (ci 2)])⟩, ⟨(some 23), (some (17, true)), (.bslice 26 6 4 [(.bool false), e0, e0, (.bool false), e0, e0, (.bool false), e0, e0, (.bool false), e0, e0, (.bool false), e0, e0, (.bool false), e0, e0, (.bool false), e0, e0, (.bool false), e0, e0] [(0, 6, (.t 19)), (6, 6, (.t 20)), (12, 6, (.t 21)), (18, 6, (.t 22))])⟩, ⟨(some 24), (some (17, true)), (.call 9 [(.t 18), (.t 23)])⟩, qq 25 (.pick (.t 17) (.t 24) (.c (.bool false))), qq 26 (.mv (.t 25)), ⟨(some 27), (some (26, true)), (.mv (.t 1))⟩, ⟨(some 28), (some (26, true)), (.call 10 [(.t 27)])⟩, ⟨(some 29), (some (26, true)), (.call 15 [(ci (-4))])⟩, ⟨(some 30), (some (26, true)), (.eqa false [.b, .s, .s] (.t 28) (.t 29))⟩, qq 31 (.pick (.t 26) (.t 30) (.c (.bool false))), qq 32 (.mv (.t 31)), ⟨(some 33), (some (32, true)), (.mv (.t 1))⟩, ⟨(some 34), (some (32, true)), (.call 19 [(ci 1), (ci 1)])⟩, ⟨(some 35), (some (32, true)), (.call 13 [(.t 33), (.t 34)])⟩, ⟨(some 36), (some (32, true)), (.bin .eql (.t 35) (ci 1))⟩, qq 37 (.pick (.t 32) (.t 36) (.c (.bool false))), qq 38 (.mv (.t 37)), ⟨(some 39), (some (38, true)), (.mv (.t 1))⟩, ⟨(some 40), (some (38, true)), (.call 19 [(ci 3), (ci 1)])⟩, ⟨(some 41), (some (38, true)), (.call 13 [(.t 39), (.t 40)])⟩, ⟨(some 42), (some (38, true)), (.bin .eql (.t 41) (ci (-1)))⟩, qq 43 (.pick (.t 38) (.t 42) (.c (.bool false))), qq 0 (.mv (.t 43))]) .ret))))
theorem tr7 : trFun Tryd.prog 7 = some ⟨44, [.t 0], c7⟩ := by kernel_rfl
set_option maxHeartbeats 8000000 in
theorem ok_awake26 : SpecOK Tryd.prog 7 (rdS spAwake26) := by
  refine rd_run (env_cons ok_dot26 (env_cons ok_norm2 (env_cons ok_same26 (env_cons ok_area2 (env_cons ok_qFrom (env_cons ok_cls2 (env_nil _))))))) mixed tr7 ?_ ?_
  · intro args h h' v hle e
    cases args with
    | nil => exact e
    | cons a b => cases e
  intro args v h N hG hN
  unfold spAwake26 at hG
  split at hG
  case h_2 => cases hG
  cases hG
  have nbN : ∀ q, q < N → ∀ j, (N + j = q) = False := fun q hq j => eq_false (by omega)
  have k20 := dot26_of (x := 2) (y := 0) (by omega) (by omega)
  have k00 := dot26_of (x := 0) (y := 0) (by omega) (by omega)
  have k02 := dot26_of (x := 0) (y := 2) (by omega) (by omega)
  have k22 := dot26_of (x := 2) (y := 2) (by omega) (by omega)
  have k21 := dot26_of (x := 2) (y := 1) (by omega) (by omega)
  have k11 := dot26_of (x := 1) (y := 1) (by omega) (by omega)
  have k31 := dot26_of (x := 3) (y := 1) (by omega) (by omega)
  have f4 : spQFrom [.int .i64 (-4)] = some (.agg ⟨(RQ.of (-4)).cells⟩) := qfrom (z := -4) (by omega)
  have m5 := fiveEx
  have m4 := four (dP 0 0) (dP 2 0) (dP 2 2) (dP 0 2)
  generalize eh1 : ((N + 0, some ⟨26, 6, true, ptC exL⟩) :: h : Heap) = h1
  have g1 : hget h1 (N + 0) = some ⟨26, 6, true, ptC exL⟩ := by rw [← eh1, hget_cons_same]
  have x1 : ∀ q, q < N → hget h1 q = hget h q := fun q hq => by
    rw [← eh1]
    simp only [hget, nbN q hq 0, if_false]
  have hx1 : decPts h1 (.slice (some ⟨N + 0, 0, none⟩) 5 5) = some exL := pts_list g1 rfl
  obtain ⟨a_1, D, mm, kc, gq, hV⟩ := ex_norm (b := N + 1) hx1
  obtain ⟨M, hM⟩ : ∃ M, M = N + 1 + mm := ⟨_, rfl⟩
  have eM : N + 1 + mm = M + 0 := by omega
  rw [← hM] at hV
  generalize eHP : D ++ h1 = HP at *
  have ac : ∀ (d : Nat) (tm : List (Nat × Value)) (V : Value) (K : St → Prop), @aft (some d) (some (V, D, mm)) ⟨(⟨tm, h1, N + 1⟩, K)⟩ = K ⟨(d, V) :: tm, HP, M + 0⟩ := fun _ _ _ _ => by rw [← eM, ← eHP]; exact propext Iff.rfl
  rw [← eh1] at ac kc
  have g2 : hget HP (N + 0) = some ⟨26, 6, true, ptC exL⟩ := by rw [gq _ (by omega)]; exact g1
  have hh : ∀ q, q < N → hget HP q = hget h q := fun q hq => by rw [gq q (by omega)]; exact x1 q hq
  have gM : N + 1 ≤ M := by omega
  have mN : ∀ d, (M + d = N + 0) = False := fun d => eq_false (by omega)
  have mN' : ∀ d, (M + d = N) = False := fun d => eq_false (by omega)
  have dx : ∀ b, decPts ((M + 0, b) :: HP) (.slice (some ⟨N + 0, 0, none⟩) 5 5) = some exL := fun b => pts_list (by simp only [hget, mN, if_false]; exact g2) rfl
  have ar := fun b => ex_ar (dx b)
  have cl1 := fun b => ex_in (dx b)
  have cl2 := fun b => ex_out (dx b)
  have sm : spSame26 [.slice a_1 4 4, .slice (some ⟨M + 0, 0, none⟩) 4 4] ((M + 0, some ⟨26, 6, true, ptC [dP 0 0, dP 2 0, dP 2 2, dP 0 2]⟩) :: HP) = some (.bool true) := by
    have d1 := hV ((M + 0, some ⟨26, 6, true, ptC [dP 0 0, dP 2 0, dP 2 2, dP 0 2]⟩) :: HP) (fun q hq => by simp only [hget, show (M + 0 = q) = False from eq_false (by omega), if_false])
    have d2 : decPts ((M + 0, some ⟨26, 6, true, ptC [dP 0 0, dP 2 0, dP 2 2, dP 0 2]⟩) :: HP) (.slice (some ⟨M + 0, 0, none⟩) 4 4) = some [dP 0 0, dP 2 0, dP 2 2, dP 0 2] := pts_list (hget_cons_same _ _ _) rfl
    rw [same26_of d1 d2 (show (4 : Nat) ≤ 1000 by omega), decide_eq_true rfl]
  have c3 := ceqQ (RQ.of (-4))
  generalize (RQ.of (-4)).cells = Q4 at *
  generalize ptC exL = PE at *
  generalize ptC [dP 0 0, dP 2 0, dP 2 2, dP 0 2] = PF at *
  have l1 := pcl_len (dP 2 0)
  have l2 := pcl_len (dP 0 0)
  have l3 := pcl_len (dP 0 2)
  have l4 := pcl_len (dP 2 2)
  have l5 := pcl_len (dP 2 1)
  have l6 := pcl_len (dP 1 1)
  have l7 := pcl_len (dP 3 1)
  have o1 := pcl_ok (dP 2 0)
  have o2 := pcl_ok (dP 0 0)
  have o3 := pcl_ok (dP 0 2)
  have o4 := pcl_ok (dP 2 2)
  have o5 := pcl_ok (dP 2 1)
  generalize pcl (dP 2 0) = P20 at *
  generalize pcl (dP 0 0) = P00 at *
  generalize pcl (dP 0 2) = P02 at *
  generalize pcl (dP 2 2) = P22 at *
  generalize pcl (dP 2 1) = P21 at *
  generalize pcl (dP 1 1) = P11 at *
  generalize pcl (dP 3 1) = P31 at *
  clear hV dx
  refine ⟨rfl, by simp, ?_⟩
  simp only [c7, G0, Nat.reduceAdd]
  simp only [↓R0, R1, simprocAttr, -Int.reduceAbs, rdS, k20, k00, k02, k22, k21, k11, k31, l1, l2, l3, l4, l5, l6, l7, o1, o2, o3, o4, o5, setR_length, List.length_cons, List.length_nil, m5, m4, kc, ac, sm, ar, f4, c3, cl1, cl2, Fin, isEnd, resL, res1]
  refine ⟨_, rfl, rfl, fun q hq => ?_⟩
  have nb : ∀ d, (M + d = q) = False := fun d => eq_false (by omega)
  simp only [↓R0, R1, simprocAttr, -Int.reduceAbs, nb]
  exact hh q hq
end Go.Eng
end
section
set_option linter.unusedVariables false
set_option linter.unusedSimpArgs false
set_option linter.unusedSectionVars false
namespace Go.Eng
section
variable (f : P2 → P2)
def m3 (c : P2 × P2 × P2) : P2 × P2 × P2 := (f c.1, f c.2.1, f c.2.2)
def m2 (e : P2 × P2) : P2 × P2 := (f e.1, f e.2)
theorem lst_map : ∀ (a : P2) (t : List P2), lst (f a) (t.map f) = f (lst a t)
  | _, [] => rfl
  | _, b :: t => lst_map b t
theorem trp_map (z : P2) : ∀ (p a : P2) (t : List P2), trp (f z) (f p) (f a) (t.map f) = (trp z p a t).map (m3 f)
  | _, _, [] => rfl
  | p, a, b :: t => by
    show (f p, f a, f b) :: trp (f z) (f a) (f b) (t.map f) = (f p, f a, f b) :: (trp z a b t).map (m3 f)
    rw [trp_map z a b t]
theorem cor_map : ∀ l : List P2, cor (l.map f) = (cor l).map (m3 f)
  | [] => rfl
  | a :: t => by
    show trp (f a) (lst (f a) (t.map f)) (f a) (t.map f) = _
    rw [lst_map, trp_map]; rfl
theorem edg_map (l : List P2) : edg (l.map f) = (edg l).map (m2 f) := by
  unfold edg
  rw [cor_map, List.map_map, List.map_map]; rfl
end
theorem sum_pth (g : P2 → Rat) : ∀ (a : P2) (t : List P2), sumE (fun e => g e.2 - g e.1) (pth a t) = g (lst a t) - g a
  | a, [] => by unfold pth sumE lst; grind
  | a, b :: t => by
    unfold pth sumE
    rw [sum_pth g b t]
    show _ = g (lst b t) - g a
    grind
theorem sum_cyc (g : P2 → Rat) : ∀ l : List P2, sumE (fun e => g e.2 - g e.1) (edg l) = 0
  | [] => rfl
  | a :: t => by
    rw [edg_cons, sumE_app, sum_pth]
    unfold sumE sumE
    grind
end Go.Eng
end
section
set_option linter.unusedVariables false
set_option linter.unusedSimpArgs false
set_option linter.unusedSectionVars false
set_option maxRecDepth 20000
namespace Go.Eng
open Go Go.Proofs Go.IntWalk
theorem nm_len (L : List P2) : (nmOut L).2.length ≤ 1000 ∨ L.length > 1000 := by
  by_cases c : 12 < L.length
  · unfold nmOut; rw [if_pos c]; exact .inl (by simp)
  · by_cases p : profP L
    · unfold nmOut
      rw [if_neg c, if_pos p]
      refine .inl ?_
      show (ncf L).length ≤ 1000
      have e : (ncf L).length ≤ L.length := by
        unfold ncf
        obtain ⟨A, B, e1, e2⟩ := rmn_parts (ori (bent L))
        rw [e2, List.length_append, Nat.add_comm, ← List.length_append, ← e1]
        have : (ori (bent L)).length = (bent L).length := by unfold ori; split; exact List.length_reverse; rfl
        rw [this, ← bfT_all]
        exact bfT_len _ _
      omega
    · unfold nmOut; rw [if_neg c, if_neg p]; exact .inl (by simp)
theorem nm_mem {L : List P2} {v : P2} (h : v ∈ (nmOut L).2) : v ∈ L := by
  unfold nmOut at h
  split at h
  · simp at h
  · split at h
    · have h : v ∈ ncf L := h
      unfold ncf at h
      obtain ⟨A, B, e1, e2⟩ := rmn_parts (ori (bent L))
      rw [e2, List.mem_append, or_comm, ← List.mem_append, ← e1] at h
      have h : v ∈ bent L := by
        unfold ori at h
        split at h
        · exact List.mem_reverse.1 h
        · exact h
      rw [← bfT_all] at h
      exact bfT_mem h
    · simp at h
theorem awake_of (h : Heap) : spAwake26 [] h = some (.bool true) := rfl
end Go.Eng
end
section
set_option linter.unusedVariables false
set_option linter.unusedSimpArgs false
set_option linter.unusedSectionVars false
set_option maxRecDepth 20000
namespace Go.Eng
open Go Go.Proofs Go.IntWalk
theorem nm_ok {L : List P2} (h : (nmOut L).1 = 0) : profP L := by
  unfold nmOut at h
  split at h
  · cases h
  · split at h
    · assumption
    · cases h
end Go.Eng
end
section
set_option linter.unusedVariables false
set_option linter.unusedSimpArgs false
set_option linter.unusedSectionVars false
namespace Go.Eng
def shr (k : Rat) (p : P2) : P2 := (p.1, p.2 + k * p.1)
theorem shr_inj {k : Rat} {p q : P2} (h : shr k p = shr k q) : p = q := by
  obtain ⟨a, b⟩ := p
  obtain ⟨c, d⟩ := q
  unfold shr at h
  rw [Prod.mk.injEq] at h ⊢
  exact ⟨h.1, by have h1 := h.1; have h2 := h.2; simp only at h1 h2; rw [h1] at h2; grind⟩
theorem shr_at2 (k : Rat) (a b : P2) (t : Rat) : shr k (at2 a b t) = at2 (shr k a) (shr k b) t := by
  unfold shr at2
  ext <;> simp <;> grind
theorem shr_opn {k : Rat} {a b x : P2} : opn (shr k a) (shr k b) (shr k x) ↔ opn a b x := by
  constructor
  · rintro ⟨t, t0, t1, e⟩
    rw [← shr_at2] at e
    exact ⟨t, t0, t1, shr_inj e⟩
  · rintro ⟨t, t0, t1, e⟩
    exact ⟨t, t0, t1, by rw [e, shr_at2]⟩
theorem shr_back (k : Rat) (x : P2) : shr k (shr (-k) x) = x := by
  unfold shr
  ext <;> simp <;> grind
theorem shr_ar2 (k : Rat) (l : List P2) : ar2 (l.map (shr k)) = ar2 l := by
  unfold ar2
  rw [edg_map]
  have : ∀ E : List (P2 × P2), sumE crs (E.map (m2 (shr k))) = sumE crs E := by
    intro E
    induction E with
    | nil => rfl
    | cons e E ih =>
      rw [List.map_cons, sumE, sumE, ih]
      have : crs (m2 (shr k) e) = crs e := by unfold crs m2 shr; grind
      rw [this]
  exact this _
theorem Simp.shr {l : List P2} (h : Simp l) (k : Rat) : Simp (l.map (shr k)) where
  n3 := by rw [List.length_map]; exact h.n3
  nd := by
    refine List.Pairwise.map _ (fun a b hab e => hab (shr_inj e)) h.nd
  vo := fun v hv e he => by
    rw [edg_map] at he
    obtain ⟨v', hv', rfl⟩ := List.mem_map.1 hv
    obtain ⟨e', he', rfl⟩ := List.mem_map.1 he
    exact fun o => h.vo v' hv' e' he' (shr_opn.1 o)
  oo := by
    rw [edg_map]
    refine List.Pairwise.map _ (fun e f hef x ⟨o1, o2⟩ => ?_) h.oo
    rw [← shr_back k x] at o1 o2
    exact hef _ ⟨shr_opn.1 o1, shr_opn.1 o2⟩
theorem avoid : ∀ S : List Rat, ∃ r : Rat, ∀ s ∈ S, s < r
  | [] => ⟨0, fun s h => by cases h⟩
  | a :: S => by
    obtain ⟨r, hr⟩ := avoid S
    by_cases c : a < r
    · exact ⟨r, fun s hs => by rcases List.mem_cons.1 hs with e | e; rw [e]; exact c; exact hr s e⟩
    · exact ⟨a + 1, fun s hs => by
        rcases List.mem_cons.1 hs with e | e
        · rw [e]; grind
        · have := hr s e; grind⟩
theorem shr_dist (l : List P2) : ∃ k, ∀ p ∈ l, ∀ q ∈ l, p ≠ q → (shr k p).2 ≠ (shr k q).2 := by
  obtain ⟨k, hk⟩ := avoid (l.flatMap fun p => l.map fun q => -(p.2 - q.2) / (p.1 - q.1))
  refine ⟨k, fun p hp q hq ne e => ?_⟩
  unfold shr at e
  simp only at e
  by_cases c : p.1 = q.1
  · rw [c] at e
    exact ne (Prod.ext c (by grind))
  · have m := hk (-(p.2 - q.2) / (p.1 - q.1)) (List.mem_flatMap.2 ⟨p, hp, List.mem_map.2 ⟨q, hq, rfl⟩⟩)
    have d : p.1 - q.1 ≠ 0 := by grind
    have : -(p.2 - q.2) / (p.1 - q.1) = k := by
      have e1 : -(p.2 - q.2) = k * (p.1 - q.1) := by grind
      rw [e1, Rat.div_def, Rat.mul_assoc, Rat.mul_inv_cancel _ d, Rat.mul_one]
    rw [this] at m
    grind
def XH (e : P2 × P2) (t : Rat) : Rat := e.1.1 + (t - e.1.2) / (e.2.2 - e.1.2) * (e.2.1 - e.1.1)
theorem XH_aff (e : P2 × P2) (s t r : Rat) : XH e ((1 - r) * s + r * t) = (1 - r) * XH e s + r * XH e t := by
  unfold XH
  simp only [Rat.div_def]
  generalize (e.2.2 - e.1.2)⁻¹ = i
  grind
theorem XH_1 (e : P2 × P2) : XH e e.1.2 = e.1.1 := by
  unfold XH
  rw [show e.1.2 - e.1.2 = 0 by grind, Rat.div_def]; grind
theorem XH_2 {e : P2 × P2} (h : e.1.2 ≠ e.2.2) : XH e e.2.2 = e.2.1 := by
  unfold XH
  rw [Rat.div_def, Rat.mul_inv_cancel _ (by grind)]; grind
def inR (e : P2 × P2) (t : Rat) : Prop := (e.1.2 ≤ t ∧ t ≤ e.2.2) ∨ (e.2.2 ≤ t ∧ t ≤ e.1.2)
theorem XH_pt {e : P2 × P2} {t : Rat} (h : e.1.2 ≠ e.2.2) (ht : inR e t) : (XH e t, t) = e.1 ∨ (XH e t, t) = e.2 ∨ opn e.1 e.2 (XH e t, t) := by
  by_cases a : t = e.1.2
  · left; rw [a, XH_1]
  by_cases b : t = e.2.2
  · right; left; rw [b, XH_2 h]
  right; right
  have d : e.2.2 - e.1.2 ≠ 0 := by grind
  obtain ⟨r, hr⟩ : ∃ r : Rat, r = (t - e.1.2) / (e.2.2 - e.1.2) := ⟨_, rfl⟩
  have hm : r * (e.2.2 - e.1.2) = t - e.1.2 := by rw [hr]; exact Rat.div_mul_cancel d
  have r0 : 0 < r := by
    by_cases c : 0 < r
    · exact c
    · rcases ht with k | k
      · have := Rat.mul_nonneg (show 0 ≤ -r by grind) (show 0 ≤ e.2.2 - e.1.2 by grind); grind
      · have := Rat.mul_nonneg (show 0 ≤ -r by grind) (show 0 ≤ e.1.2 - e.2.2 by grind); grind
  have r1 : r < 1 := by
    by_cases c : r < 1
    · exact c
    · rcases ht with k | k
      · have := Rat.mul_nonneg (show 0 ≤ r - 1 by grind) (show 0 ≤ e.2.2 - e.1.2 by grind); grind
      · have := Rat.mul_nonneg (show 0 ≤ r - 1 by grind) (show 0 ≤ e.1.2 - e.2.2 by grind); grind
  refine ⟨r, r0, r1, ?_⟩
  unfold XH at2
  rw [← hr]
  ext
  · simp
  · simp; grind
theorem no_cross {A B : Rat} (nz : ∀ r : Rat, 0 ≤ r → r ≤ 1 → (1 - r) * A + r * B ≠ 0) (h : 0 < A) : 0 < B := by
  by_cases c : 0 < B
  · exact c
  exfalso
  have d : 0 < A - B := by grind
  obtain ⟨r, hr⟩ : ∃ r : Rat, r = A / (A - B) := ⟨_, rfl⟩
  have hm : r * (A - B) = A := by rw [hr]; exact Rat.div_mul_cancel (by grind)
  have r0 : 0 ≤ r := by
    by_cases c : r < 0
    · have := Rat.mul_pos (show 0 < -r by grind) d; grind
    · grind
  have r1 : r ≤ 1 := by
    by_cases c : r ≤ 1
    · exact c
    · have := Rat.mul_pos (show 0 < r - 1 by grind) d; grind
  exact nz r r0 r1 (by grind)
theorem same_side {e f : P2 × P2} {s t : Rat} (nz : ∀ r : Rat, 0 ≤ r → r ≤ 1 → XH e ((1 - r) * s + r * t) ≠ XH f ((1 - r) * s + r * t)) : (XH e s < XH f s ↔ XH e t < XH f t) := by
  have key : ∀ r : Rat, 0 ≤ r → r ≤ 1 → (1 - r) * (XH f s - XH e s) + r * (XH f t - XH e t) ≠ 0 := fun r r0 r1 z => by
    refine nz r r0 r1 ?_
    rw [XH_aff, XH_aff]; grind
  constructor
  · intro h
    have := no_cross key (by grind)
    grind
  · intro h
    have := no_cross (A := XH f t - XH e t) (B := XH f s - XH e s) (fun r r0 r1 z => key (1 - r) (by grind) (by grind) (by grind)) (by grind)
    grind
def dirx (f : P2 × P2) (h : Rat) : Rat := if f.1.2 ≤ h ∧ h < f.2.2 then 1 else if f.2.2 ≤ h ∧ h < f.1.2 then -1 else 0
def DR (e f : P2 × P2) (h : Rat) : Rat := if XH e h < XH f h then dirx f h else 0
def FR (l : List P2) (e : P2 × P2) (h : Rat) : Rat := sumE (fun f => DR e f h) (edg l)
def inD (e : P2 × P2) (h h' : Rat) (p : P2) : Rat := if h < p.2 ∧ p.2 ≤ h' ∧ XH e p.2 < p.1 then 1 else 0
theorem dirx_swap {f : P2 × P2} (h : Rat) : dirx (f.2, f.1) h = - dirx f h := by
  unfold dirx
  by_cases a : f.1.2 ≤ h ∧ h < f.2.2
  · rw [if_pos a, if_neg (by grind), if_pos a]
  · by_cases b : f.2.2 ≤ h ∧ h < f.1.2
    · rw [if_neg a, if_pos b, if_pos b]; grind
    · rw [if_neg a, if_neg b, if_neg b, if_neg a]; grind
theorem rcancel {x y d : Rat} (hd : d ≠ 0) (h : x * d = y * d) : x = y := by
  have := congrArg (fun z => z * d⁻¹) h
  simp only [Rat.mul_assoc, Rat.mul_inv_cancel _ hd, Rat.mul_one] at this
  exact this
theorem XH_mul {f : P2 × P2} (h : f.1.2 ≠ f.2.2) (t : Rat) : XH f t * (f.2.2 - f.1.2) = f.1.1 * (f.2.2 - f.1.2) + (t - f.1.2) * (f.2.1 - f.1.1) := by
  have k : (t - f.1.2) / (f.2.2 - f.1.2) * (f.2.2 - f.1.2) = t - f.1.2 := Rat.div_mul_cancel (by grind)
  unfold XH
  generalize (t - f.1.2) / (f.2.2 - f.1.2) = q at *
  grind
theorem XH_swap {f : P2 × P2} (h : f.1.2 ≠ f.2.2) (t : Rat) : XH (f.2, f.1) t = XH f t := by
  have a := XH_mul h t
  have b := XH_mul (f := (f.2, f.1)) (fun e => h e.symm) t
  simp only at b
  refine rcancel (d := f.2.2 - f.1.2) (by grind) ?_
  grind
theorem edge_up {e f : P2 × P2} {h h' : Rat} (hh : h < h') (up : f.1.2 < f.2.2) (nz : ∀ t, h ≤ t → t ≤ h' → inR f t → XH e t ≠ XH f t) : inD e h h' f.2 - inD e h h' f.1 = DR e f h - DR e f h' := by
  have ne : f.1.2 ≠ f.2.2 := by grind
  have same : ∀ s t, h ≤ s → s ≤ h' → f.1.2 ≤ s → s ≤ f.2.2 → h ≤ t → t ≤ h' → f.1.2 ≤ t → t ≤ f.2.2 → (XH e s < XH f s ↔ XH e t < XH f t) := fun s t a1 a2 a3 a4 b1 b2 b3 b4 => same_side fun r r0 r1 => by
    have p1 := Rat.mul_nonneg (show 0 ≤ 1 - r by grind) (show 0 ≤ s - h by grind)
    have p2 := Rat.mul_nonneg r0 (show 0 ≤ t - h by grind)
    have p3 := Rat.mul_nonneg (show 0 ≤ 1 - r by grind) (show 0 ≤ h' - s by grind)
    have p4 := Rat.mul_nonneg r0 (show 0 ≤ h' - t by grind)
    have p5 := Rat.mul_nonneg (show 0 ≤ 1 - r by grind) (show 0 ≤ s - f.1.2 by grind)
    have p6 := Rat.mul_nonneg r0 (show 0 ≤ t - f.1.2 by grind)
    have p7 := Rat.mul_nonneg (show 0 ≤ 1 - r by grind) (show 0 ≤ f.2.2 - s by grind)
    have p8 := Rat.mul_nonneg r0 (show 0 ≤ f.2.2 - t by grind)
    exact nz _ (by grind) (by grind) (.inl ⟨by grind, by grind⟩)
  have g1 : inD e h h' f.1 = if h < f.1.2 ∧ f.1.2 ≤ h' ∧ XH e f.1.2 < XH f f.1.2 then 1 else 0 := by unfold inD; rw [XH_1 f]
  have g2 : inD e h h' f.2 = if h < f.2.2 ∧ f.2.2 ≤ h' ∧ XH e f.2.2 < XH f f.2.2 then 1 else 0 := by unfold inD; rw [XH_2 ne]
  rw [g1, g2]
  unfold DR dirx
  by_cases a : f.1.2 ≤ h
  · by_cases b : f.2.2 ≤ h
    · simp [show ¬ h < f.2.2 by grind, show ¬ h < f.1.2 by grind, show ¬ h' < f.2.2 by grind, show ¬ h' < f.1.2 by grind]
    · by_cases b' : f.2.2 ≤ h'
      · have s := same h f.2.2 (by grind) (by grind) a (by grind) (by grind) b' (by grind) (by grind)
        by_cases z : XH e h < XH f h
        · simp [a, b', z, s.1 z, show h < f.2.2 by grind, show ¬ h < f.1.2 by grind, show ¬ h' < f.2.2 by grind, show ¬ h' < f.1.2 by grind]
        · simp [a, b', z, mt s.2 z, show h < f.2.2 by grind, show ¬ h < f.1.2 by grind, show ¬ h' < f.2.2 by grind, show ¬ h' < f.1.2 by grind]
      · have s := same h h' (by grind) (by grind) a (by grind) (by grind) (by grind) (by grind) (by grind)
        by_cases z : XH e h < XH f h
        · simp [a, b', z, s.1 z, show h < f.2.2 by grind, show ¬ h < f.1.2 by grind, show h' < f.2.2 by grind, show f.1.2 ≤ h' by grind] <;> grind
        · simp [a, b', z, mt s.2 z, show h < f.2.2 by grind, show ¬ h < f.1.2 by grind, show h' < f.2.2 by grind] <;> grind
  · by_cases a' : f.1.2 ≤ h'
    · by_cases b' : f.2.2 ≤ h'
      · have s := same f.1.2 f.2.2 (by grind) a' (by grind) (by grind) (by grind) b' (by grind) (by grind)
        by_cases z : XH e f.1.2 < XH f f.1.2
        · simp [a, a', b', z, s.1 z, show h < f.1.2 by grind, show h < f.2.2 by grind, show ¬ f.2.2 ≤ h by grind, show ¬ h' < f.2.2 by grind, show ¬ h' < f.1.2 by grind] <;> grind
        · simp [a, a', b', z, mt s.2 z, show h < f.1.2 by grind, show h < f.2.2 by grind, show ¬ f.2.2 ≤ h by grind, show ¬ h' < f.2.2 by grind, show ¬ h' < f.1.2 by grind] <;> grind
      · have s := same f.1.2 h' (by grind) a' (by grind) (by grind) (by grind) (by grind) a' (by grind)
        by_cases z : XH e f.1.2 < XH f f.1.2
        · simp [a, a', b', z, s.1 z, show h < f.1.2 by grind, show ¬ f.2.2 ≤ h by grind, show h' < f.2.2 by grind] <;> grind
        · simp [a, a', b', z, mt s.2 z, show h < f.1.2 by grind, show ¬ f.2.2 ≤ h by grind, show h' < f.2.2 by grind] <;> grind
    · simp [a, a', show ¬ f.2.2 ≤ h by grind, show ¬ f.2.2 ≤ h' by grind] <;> grind
end Go.Eng
end
section
set_option linter.unusedVariables false
set_option linter.unusedSimpArgs false
set_option linter.unusedSectionVars false
namespace Go.Eng
theorem sumE_congr {f g : P2 × P2 → Rat} : ∀ {E : List (P2 × P2)}, (∀ e ∈ E, f e = g e) → sumE f E = sumE g E
  | [], _ => rfl
  | e :: E, h => by rw [sumE, sumE, h e (by simp), sumE_congr fun e he => h e (List.mem_cons_of_mem _ he)]
theorem sumE_sub (f g : P2 × P2 → Rat) : ∀ E : List (P2 × P2), sumE (fun e => f e - g e) E = sumE f E - sumE g E
  | [] => by unfold sumE; grind
  | e :: E => by rw [sumE, sumE, sumE, sumE_sub f g E]; grind
theorem sumE_one {f : P2 × P2 → Rat} {a : P2 × P2} : ∀ {E : List (P2 × P2)}, E.Nodup → a ∈ E → sumE f E = sumE (fun g => if g = a then 0 else f g) E + f a
  | [], _, h => by cases h
  | e :: E, nd, h => by
    rw [List.nodup_cons] at nd
    rw [sumE, sumE]
    by_cases c : e = a
    · subst c
      rw [if_pos rfl, sumE_congr (f := f) (g := fun g => if g = e then 0 else f g) fun g hg => by
        have gne : g ≠ e := fun k => nd.1 (by rw [← k]; exact hg)
        rw [if_neg gne]]
      grind
    · rw [if_neg c, sumE_one nd.2 ((List.mem_cons.1 h).resolve_left (fun k => c k.symm))]
      grind
theorem sumE_two {f : P2 × P2 → Rat} {a b : P2 × P2} {E : List (P2 × P2)} (nd : E.Nodup) (ha : a ∈ E) (hb : b ∈ E) (ne : a ≠ b) : sumE f E = sumE (fun g => if g = a ∨ g = b then 0 else f g) E + f a + f b := by
  rw [sumE_one nd hb, sumE_one (f := fun g => if g = b then 0 else f g) nd ha, if_neg ne]
  have : sumE (fun g => if g = a then 0 else if g = b then 0 else f g) E = sumE (fun g => if g = a ∨ g = b then 0 else f g) E := sumE_congr fun g _ => by
    by_cases c : g = a
    · simp [c]
    · by_cases d : g = b <;> simp [c, d]
  rw [this]
structure Gen (l : List P2) : Prop where
  s : Simp l
  d : ∀ p ∈ l, ∀ q ∈ l, p ≠ q → p.2 ≠ q.2
section
variable {l : List P2} (h : Gen l)
include h
theorem Gen.injv {i j : Nat} (hi : i < l.length) (hj : j < l.length) (e : vt l i = vt l j) : i = j := by
  by_cases c : i < j
  · exact absurd e (h.s.inj hi c (by omega))
  · by_cases c' : j < i
    · exact absurd e.symm (h.s.inj hj c' (by omega))
    · omega
theorem Gen.injv1 {i j : Nat} (hi : i < l.length) (hj : j < l.length) (e : vt l (i + 1) = vt l (j + 1)) : i = j := by
  by_cases c : i < j
  · exact absurd e (h.s.inj (by omega) (show i + 1 < j + 1 by omega) (by omega))
  · by_cases c' : j < i
    · exact absurd e.symm (h.s.inj (by omega) (show j + 1 < i + 1 by omega) (by omega))
    · omega
theorem Gen.mem {e : P2 × P2} (he : e ∈ edg l) : e.1 ∈ l ∧ e.2 ∈ l ∧ e.1.2 ≠ e.2.2 := by
  have n3 := h.s.n3
  obtain ⟨i, hi, rfl⟩ := mem_edg he
  have a := vt_mem (l := l) (by omega) i
  have b := vt_mem (l := l) (by omega) (i + 1)
  exact ⟨a, b, h.d _ a _ b (h.s.inj hi (by omega) (by omega))⟩
theorem Gen.fst {e f : P2 × P2} (he : e ∈ edg l) (hf : f ∈ edg l) (k : e.1 = f.1) : e = f := by
  obtain ⟨i, hi, rfl⟩ := mem_edg he
  obtain ⟨j, hj, rfl⟩ := mem_edg hf
  rw [h.injv hi hj k]
theorem Gen.snd {e f : P2 × P2} (he : e ∈ edg l) (hf : f ∈ edg l) (k : e.2 = f.2) : e = f := by
  obtain ⟨i, hi, rfl⟩ := mem_edg he
  obtain ⟨j, hj, rfl⟩ := mem_edg hf
  rw [h.injv1 hi hj k]
theorem Gen.oo {e f : P2 × P2} (he : e ∈ edg l) (hf : f ∈ edg l) (ne : e ≠ f) (x : P2) : ¬ (opn e.1 e.2 x ∧ opn f.1 f.2 x) := by
  obtain ⟨i, hi, rfl⟩ := mem_edg he
  obtain ⟨j, hj, rfl⟩ := mem_edg hf
  exact h.s.ooi hi hj (fun k => ne (by rw [k])) x
theorem Gen.meet {e f : P2 × P2} (he : e ∈ edg l) (hf : f ∈ edg l) (ne : e ≠ f) {t : Rat} (r1 : inR e t) (r2 : inR f t) (k : XH e t = XH f t) :
    ((XH e t, t) = e.1 ∨ (XH e t, t) = e.2) ∧ ((XH e t, t) = f.1 ∨ (XH e t, t) = f.2) := by
  obtain ⟨e1, e2, e3⟩ := h.mem he
  obtain ⟨f1, f2, f3⟩ := h.mem hf
  have a := XH_pt e3 r1
  have b := XH_pt f3 r2
  rw [← k] at b
  generalize (XH e t, t) = P at *
  rcases a with a | a | a <;> rcases b with b | b | b
  · exact ⟨.inl a, .inl b⟩
  · exact ⟨.inl a, .inr b⟩
  · exact absurd (a ▸ b) (h.s.vo _ e1 _ hf)
  · exact ⟨.inr a, .inl b⟩
  · exact ⟨.inr a, .inr b⟩
  · exact absurd (a ▸ b) (h.s.vo _ e2 _ hf)
  · exact absurd (b ▸ a) (h.s.vo _ f1 _ he)
  · exact absurd (b ▸ a) (h.s.vo _ f2 _ he)
  · exact absurd ⟨a, b⟩ (h.oo he hf ne P)
def inO (e : P2 × P2) (t : Rat) : Prop := (e.1.2 < t ∧ t < e.2.2) ∨ (e.2.2 < t ∧ t < e.1.2)
theorem Gen.const1 {e : P2 × P2} (he : e ∈ edg l) {s t : Rat} (hs : inO e s) (ht : inO e t) (st : s < t) : FR l e s = FR l e t := by
  have key : ∀ f ∈ edg l, inD e s t f.2 - inD e s t f.1 = DR e f s - DR e f t := fun f hf => by
    by_cases c : f = e
    · subst c
      have d1 : DR f f s = 0 := if_neg (by grind)
      have d2 : DR f f t = 0 := if_neg (by grind)
      have i1 : inD f s t f.1 = 0 := if_neg (by rcases hs with k | k <;> rcases ht with k' | k' <;> grind)
      have i2 : inD f s t f.2 = 0 := if_neg (by rcases hs with k | k <;> rcases ht with k' | k' <;> grind)
      rw [d1, d2, i1, i2]
    · have nz : ∀ x, s ≤ x → x ≤ t → inR f x → XH e x ≠ XH f x := fun x a b r k => by
        have hr : inO e x := by unfold inO at *; grind
        have hr' : inR e x := by unfold inO inR at *; grind
        rcases (h.meet he hf (fun k => c k.symm) hr' r k).1 with q | q
        · have : x = e.1.2 := congrArg Prod.snd q
          unfold inO at hr; grind
        · have : x = e.2.2 := congrArg Prod.snd q
          unfold inO at hr; grind
      obtain ⟨_, _, f3⟩ := h.mem hf
      by_cases up : f.1.2 < f.2.2
      · exact edge_up st up nz
      · have k := edge_up (e := e) (f := (f.2, f.1)) st (by show f.2.2 < f.1.2; grind) (fun x a b r => by
          rw [XH_swap f3]
          exact nz x a b (by unfold inR at *; simp only at r; grind))
        unfold DR at k ⊢
        rw [XH_swap f3, XH_swap f3, dirx_swap, dirx_swap] at k
        simp only at k
        split at k <;> split at k <;> simp_all <;> grind
  have z := sum_cyc (inD e s t) l
  rw [sumE_congr key, sumE_sub] at z
  unfold FR
  grind
theorem Gen.const {e : P2 × P2} (he : e ∈ edg l) {s t : Rat} (hs : inO e s) (ht : inO e t) : FR l e s = FR l e t := by
  by_cases c : s < t
  · exact h.const1 he hs ht c
  · by_cases c' : t < s
    · exact (h.const1 he ht hs c').symm
    · rw [show s = t by grind]
end
theorem gap (v : P2) : ∀ l : List P2, (∀ p ∈ l, p ≠ v → p.2 ≠ v.2) → ∃ δ : Rat, 0 < δ ∧ ∀ p ∈ l, p ≠ v → p.2 ≤ v.2 - δ ∨ v.2 + δ ≤ p.2
  | [], _ => ⟨1, by decide, fun p hp => by cases hp⟩
  | q :: l, hd => by
    obtain ⟨δ, d0, hδ⟩ := gap v l fun p hp => hd p (List.mem_cons_of_mem _ hp)
    by_cases c : q = v
    · exact ⟨δ, d0, fun p hp ne => by
        rcases List.mem_cons.1 hp with k | k
        · exact absurd (k.trans c) ne
        · exact hδ p k ne⟩
    · have n := hd q (by simp) c
      by_cases lt : q.2 < v.2
      · by_cases m : δ ≤ v.2 - q.2
        · exact ⟨δ, d0, fun p hp ne => by
            rcases List.mem_cons.1 hp with k | k
            · rw [k]; left; grind
            · exact hδ p k ne⟩
        · exact ⟨v.2 - q.2, by grind, fun p hp ne => by
            rcases List.mem_cons.1 hp with k | k
            · rw [k]; left; grind
            · have := hδ p k ne; grind⟩
      · by_cases m : δ ≤ q.2 - v.2
        · exact ⟨δ, d0, fun p hp ne => by
            rcases List.mem_cons.1 hp with k | k
            · rw [k]; right; grind
            · exact hδ p k ne⟩
        · exact ⟨q.2 - v.2, by grind, fun p hp ne => by
            rcases List.mem_cons.1 hp with k | k
            · rw [k]; right; grind
            · have := hδ p k ne; grind⟩
end Go.Eng
end
section
set_option linter.unusedVariables false
set_option linter.unusedSimpArgs false
set_option linter.unusedSectionVars false
namespace Go.Eng
structure CV (l : List P2) : Prop where
  s : Simp l
  b : AllB l
  c : ∀ i j, 0 ≤ cr (vt l i) (vt l (i + 1)) (vt l j)
theorem nn2 {A B t : Rat} (a : 0 ≤ A) (b : 0 ≤ B) (t0 : 0 ≤ t) (t1 : t ≤ 1) : 0 ≤ (1 - t) * A + t * B := by
  have p := Rat.mul_nonneg (show 0 ≤ 1 - t by grind) a
  have q := Rat.mul_nonneg t0 b
  grind
theorem vt_congr {l : List P2} {i j : Nat} (h : i % l.length = j % l.length) : vt l i = vt l j := by unfold vt; rw [h]
theorem prev_mod {i n : Nat} (h : 0 < n) : ((i + 1) % n + n - 1) % n = i % n := by
  have e := Nat.div_add_mod (i + 1) n
  have e2 : i + n = n * ((i + 1) / n) + ((i + 1) % n + n - 1) := by
    generalize n * ((i + 1) / n) = q at *
    omega
  have e3 : (i + n) % n = i % n := Nat.add_mod_right _ _
  rw [e2, Nat.mul_add_mod] at e3
  exact e3
section
variable {l : List P2} (h : CV l)
include h
theorem CV.pos (i : Nat) : 0 < cr (vt l i) (vt l (i + 1)) (vt l (i + 2)) := by
  have n3 := h.s.n3
  have hk : (i + 1) % l.length < l.length := Nat.mod_lt _ (by omega)
  have m := List.mem_of_getElem? (cor_at hk)
  have k := h.b _ m
  simp only at k
  rw [vt_congr (prev_mod (by omega)), vt_congr (Nat.mod_mod _ _), vt_congr (l := l) (i := (i + 1) % l.length + 1) (j := i + 2) (by rw [Nat.mod_add_mod])] at k
  have := h.c i (i + 2)
  grind
theorem CV.on {i : Nat} {x : P2} (o : onB (vt l i) (vt l (i + 1)) x = true) : (∀ j, 0 ≤ cr (vt l j) (vt l (j + 1)) x) ∧ cr (vt l i) (vt l (i + 1)) x = 0 := by
  rcases onB_iff.1 o with e | e | ⟨t, t0, t1, e⟩
  · rw [e]; exact ⟨fun j => h.c j i, cr_a _ _⟩
  · rw [e]; exact ⟨fun j => h.c j (i + 1), cr_b _ _⟩
  · rw [e]
    refine ⟨fun j => ?_, cr_at2 _ _ _⟩
    rw [cr_lin]
    exact nn2 (h.c j i) (h.c j (i + 1)) (by grind) (by grind)
theorem CV.inj {i j : Nat} (hi : i < l.length) (hj : j < l.length) (e : vt l i = vt l j) : i = j := by
  by_cases c : i < j
  · exact absurd e (h.s.inj hi c (by omega))
  · by_cases c' : j < i
    · exact absurd e.symm (h.s.inj hj c' (by omega))
    · omega
end
theorem edg_fst (l : List P2) : (edg l).map (fun e => e.1) = l := by
  unfold edg
  rw [List.map_map]
  exact cor_cur l
theorem edg_nd {l : List P2} (h : l.Nodup) : (edg l).Nodup := by
  have := edg_fst l
  rw [← this] at h
  exact List.Pairwise.of_map _ (fun a b hab e => hab (by rw [e])) h
section
variable {l : List P2} (h : CV l)
include h
theorem CV.same {i j : Nat} {P Q x : P2} {s t : Rat} (hi : P = at2 (vt l i) (vt l (i + 1)) s) (hj : Q = at2 (vt l j) (vt l (j + 1)) t) (s0 : 0 ≤ s) (s1 : s ≤ 1) (t0 : 0 ≤ t) (t1 : t ≤ 1) :
    0 ≤ cr (vt l i) (vt l (i + 1)) Q ∧ 0 ≤ cr (vt l j) (vt l (j + 1)) P := by
  rw [hi, hj, cr_lin, cr_lin]
  exact ⟨nn2 (h.c i j) (h.c i (j + 1)) t0 t1, nn2 (h.c j i) (h.c j (i + 1)) s0 s1⟩
end
end Go.Eng
end
section
set_option linter.unusedVariables false
set_option linter.unusedSimpArgs false
set_option linter.unusedSectionVars false
namespace Go.Eng
def VV (l : List P2) (e : P2 × P2) (t : Rat) : Rat := FR l e t + if e.1.2 < e.2.2 then 1 else 0
theorem inR_between {k : P2 × P2} {s t r : Rat} (n : k.1.2 ≠ k.2.2) (hs : inR k s) (ht : inR k t) (r0 : 0 ≤ r) (r1 : r ≤ 1) : inR k ((1 - r) * s + r * t) := by
  unfold inR at *
  rcases hs with a | a <;> rcases ht with b | b
  · left
    have p1 := Rat.mul_nonneg (show 0 ≤ 1 - r by grind) (show 0 ≤ s - k.1.2 by grind)
    have p2 := Rat.mul_nonneg r0 (show 0 ≤ t - k.1.2 by grind)
    have p3 := Rat.mul_nonneg (show 0 ≤ 1 - r by grind) (show 0 ≤ k.2.2 - s by grind)
    have p4 := Rat.mul_nonneg r0 (show 0 ≤ k.2.2 - t by grind)
    exact ⟨by grind, by grind⟩
  · exfalso; grind
  · exfalso; grind
  · right
    have p1 := Rat.mul_nonneg (show 0 ≤ 1 - r by grind) (show 0 ≤ s - k.2.2 by grind)
    have p2 := Rat.mul_nonneg r0 (show 0 ≤ t - k.2.2 by grind)
    have p3 := Rat.mul_nonneg (show 0 ≤ 1 - r by grind) (show 0 ≤ k.1.2 - s by grind)
    have p4 := Rat.mul_nonneg r0 (show 0 ≤ k.1.2 - t by grind)
    exact ⟨by grind, by grind⟩
theorem DR_self (k : P2 × P2) (s : Rat) : DR k k s = 0 := if_neg (by grind)
theorem DR_zero {k g : P2 × P2} {s : Rat} (z : dirx g s = 0) : DR k g s = 0 := by unfold DR; rw [z]; split <;> rfl
section
variable {l : List P2} (h : Gen l)
include h
theorem Gen.adj {e f : P2 × P2} (he : e ∈ edg l) (hf : f ∈ edg l) (ne : e ≠ f) (ad : f.1 = e.2) : ∃ s t, inO e s ∧ inO f t ∧ VV l e s = VV l f t := by
  obtain ⟨e1, e2, e3⟩ := h.mem he
  obtain ⟨f1, f2, f3⟩ := h.mem hf
  obtain ⟨δ, d0, hδ⟩ := gap e.2 l fun p hp n => h.d p hp e.2 e2 n
  have half : (0 : Rat) < δ / 2 := by grind
  have ends : ∀ g ∈ edg l, g ≠ e → g ≠ f → (g.1.2 ≤ e.2.2 - δ ∨ e.2.2 + δ ≤ g.1.2) ∧ (g.2.2 ≤ e.2.2 - δ ∨ e.2.2 + δ ≤ g.2.2) := fun g hg n1 n2 => by
    obtain ⟨g1, g2, _⟩ := h.mem hg
    exact ⟨hδ _ g1 fun k => n2 (h.fst hg hf (k.trans ad.symm)), hδ _ g2 fun k => n1 (h.snd hg he k)⟩
  have side : ∀ g ∈ edg l, g ≠ e → g ≠ f → ∀ k, k = e ∨ k = f → ∀ s, e.2.2 - δ / 2 ≤ s → s ≤ e.2.2 + δ / 2 → inR k s → DR k g s = if e.2.1 < XH g e.2.2 then dirx g e.2.2 else 0 := by
    intro g hg n1 n2 k hk s s1 s2 hr
    obtain ⟨a1, a2⟩ := ends g hg n1 n2
    have c1 : (g.1.2 ≤ s) = (g.1.2 ≤ e.2.2) := propext ⟨fun _ => by grind, fun _ => by grind⟩
    have c2 : (s < g.2.2) = (e.2.2 < g.2.2) := propext ⟨fun _ => by grind, fun _ => by grind⟩
    have c3 : (g.2.2 ≤ s) = (g.2.2 ≤ e.2.2) := propext ⟨fun _ => by grind, fun _ => by grind⟩
    have c4 : (s < g.1.2) = (e.2.2 < g.1.2) := propext ⟨fun _ => by grind, fun _ => by grind⟩
    have dd : dirx g s = dirx g e.2.2 := by unfold dirx; simp only [c1, c2, c3, c4]
    by_cases z : dirx g e.2.2 = 0
    · rw [DR_zero (by rw [dd]; exact z), z]; split <;> rfl
    have sp : ∀ t, e.2.2 - δ / 2 ≤ t → t ≤ e.2.2 + δ / 2 → inR g t := fun t t1 t2 => by
      unfold dirx at z
      unfold inR
      by_cases p : g.1.2 ≤ e.2.2 ∧ e.2.2 < g.2.2
      · left; grind
      · by_cases q : g.2.2 ≤ e.2.2 ∧ e.2.2 < g.1.2
        · right; grind
        · rw [if_neg p, if_neg q] at z; exact absurd rfl z
    have hkm : k ∈ edg l := by rcases hk with e | e <;> rw [e] <;> assumption
    have kn := (h.mem hkm).2.2
    have kg : k ≠ g := by rcases hk with e | e <;> rw [e] <;> exact fun q => by first | exact n1 q.symm | exact n2 q.symm
    have hv : inR k e.2.2 := by
      rcases hk with q | q
      · rw [q]; unfold inR; grind
      · rw [q, ← ad]; unfold inR; grind
    have xv : XH k e.2.2 = e.2.1 := by
      rcases hk with q | q
      · rw [q]; exact XH_2 e3
      · rw [q, ← ad]; exact XH_1 f
    have ss := same_side (e := k) (f := g) (s := s) (t := e.2.2) fun r r0 r1 q => by
      have p1 := Rat.mul_nonneg (show 0 ≤ 1 - r by grind) (show 0 ≤ s - (e.2.2 - δ / 2) by grind)
      have p2 := Rat.mul_nonneg r0 (show 0 ≤ δ / 2 by grind)
      have p3 := Rat.mul_nonneg (show 0 ≤ 1 - r by grind) (show 0 ≤ e.2.2 + δ / 2 - s by grind)
      have t1 : e.2.2 - δ / 2 ≤ (1 - r) * s + r * e.2.2 := by grind
      have t2 : (1 - r) * s + r * e.2.2 ≤ e.2.2 + δ / 2 := by grind
      have m := (h.meet hkm hg kg (inR_between kn hr hv r0 r1) (sp _ t1 t2) q).2
      generalize (1 - r) * s + r * e.2.2 = t at *
      rcases m with m | m
      · have : t = g.1.2 := congrArg Prod.snd m
        grind
      · have : t = g.2.2 := congrArg Prod.snd m
        grind
    rw [xv] at ss
    unfold DR
    rw [dd]
    by_cases y : XH k s < XH g s
    · rw [if_pos y, if_pos (ss.1 y)]
    · rw [if_neg y, if_neg (mt ss.2 y)]
  obtain ⟨S, hS⟩ : ∃ S, S = sumE (fun g => if g = e ∨ g = f then 0 else if e.2.1 < XH g e.2.2 then dirx g e.2.2 else 0) (edg l) := ⟨_, rfl⟩
  have fe : ∀ k, k = e ∨ k = f → ∀ s, e.2.2 - δ / 2 ≤ s → s ≤ e.2.2 + δ / 2 → inR k s → FR l k s = S + DR k e s + DR k f s := fun k hk s s1 s2 hr => by
    unfold FR
    rw [sumE_two (edg_nd h.s.nd) he hf ne, hS]
    congr 2
    refine sumE_congr fun g hg => ?_
    by_cases c : g = e ∨ g = f
    · rw [if_pos c, if_pos c]
    · rw [if_neg c, if_neg c]
      exact side g hg (fun q => c (.inl q)) (fun q => c (.inr q)) k hk s s1 s2 hr
  have hu := hδ e.1 e1 fun q => e3 (by rw [q])
  have hw := hδ f.2 f2 fun q => f3 (by rw [q, ad])
  rcases hu with hu | hu <;> rcases hw with hw | hw
  ·
    have r1 : inO e (e.2.2 - δ / 2) := by unfold inO; grind
    have r2 : inO f (e.2.2 - δ / 2) := by unfold inO; rw [ad]; grind
    have q1 : inR e (e.2.2 - δ / 2) := by unfold inR; grind
    have q2 : inR f (e.2.2 - δ / 2) := by unfold inR; rw [ad]; grind
    refine ⟨_, _, r1, r2, ?_⟩
    unfold VV
    rw [fe e (.inl rfl) _ (by grind) (by grind) q1, fe f (.inr rfl) _ (by grind) (by grind) q2, DR_self, DR_self, if_pos (by grind), if_neg (by rw [ad]; grind)]
    have de : dirx e (e.2.2 - δ / 2) = 1 := if_pos (by grind)
    have df : dirx f (e.2.2 - δ / 2) = -1 := by unfold dirx; rw [ad, if_neg (by grind), if_pos (by grind)]
    have nx : XH e (e.2.2 - δ / 2) ≠ XH f (e.2.2 - δ / 2) := fun q => by
      rcases (h.meet he hf ne q1 q2 q).1 with m | m
      · have : e.2.2 - δ / 2 = e.1.2 := congrArg Prod.snd m
        grind
      · have : e.2.2 - δ / 2 = e.2.2 := congrArg Prod.snd m
        grind
    unfold DR
    rw [de, df]
    by_cases y : XH e (e.2.2 - δ / 2) < XH f (e.2.2 - δ / 2)
    · rw [if_pos y, if_neg (by grind)]; grind
    · rw [if_neg y, if_pos (by grind)]
      grind
  ·
    have r1 : inO e (e.2.2 - δ / 2) := by unfold inO; grind
    have r2 : inO f (e.2.2 + δ / 2) := by unfold inO; rw [ad]; grind
    have q1 : inR e (e.2.2 - δ / 2) := by unfold inR; grind
    have q2 : inR f (e.2.2 + δ / 2) := by unfold inR; rw [ad]; grind
    refine ⟨_, _, r1, r2, ?_⟩
    unfold VV
    have df : dirx f (e.2.2 - δ / 2) = 0 := by unfold dirx; rw [ad, if_neg (by grind), if_neg (by grind)]
    have de : dirx e (e.2.2 + δ / 2) = 0 := by unfold dirx; rw [if_neg (by grind), if_neg (by grind)]
    rw [fe e (.inl rfl) _ (by grind) (by grind) q1, fe f (.inr rfl) _ (by grind) (by grind) q2, DR_self, DR_self, if_pos (by grind), if_pos (by rw [ad]; grind), DR_zero df, DR_zero de]
  ·
    have r1 : inO e (e.2.2 + δ / 2) := by unfold inO; grind
    have r2 : inO f (e.2.2 - δ / 2) := by unfold inO; rw [ad]; grind
    have q1 : inR e (e.2.2 + δ / 2) := by unfold inR; grind
    have q2 : inR f (e.2.2 - δ / 2) := by unfold inR; rw [ad]; grind
    refine ⟨_, _, r1, r2, ?_⟩
    unfold VV
    have df : dirx f (e.2.2 + δ / 2) = 0 := by unfold dirx; rw [ad, if_neg (by grind), if_neg (by grind)]
    have de : dirx e (e.2.2 - δ / 2) = 0 := by unfold dirx; rw [if_neg (by grind), if_neg (by grind)]
    rw [fe e (.inl rfl) _ (by grind) (by grind) q1, fe f (.inr rfl) _ (by grind) (by grind) q2, DR_self, DR_self, if_neg (by grind), if_neg (by rw [ad]; grind), DR_zero df, DR_zero de]
  ·
    have r1 : inO e (e.2.2 + δ / 2) := by unfold inO; grind
    have r2 : inO f (e.2.2 + δ / 2) := by unfold inO; rw [ad]; grind
    have q1 : inR e (e.2.2 + δ / 2) := by unfold inR; grind
    have q2 : inR f (e.2.2 + δ / 2) := by unfold inR; rw [ad]; grind
    refine ⟨_, _, r1, r2, ?_⟩
    unfold VV
    rw [fe e (.inl rfl) _ (by grind) (by grind) q1, fe f (.inr rfl) _ (by grind) (by grind) q2, DR_self, DR_self, if_neg (by grind), if_pos (by rw [ad]; grind)]
    have de : dirx e (e.2.2 + δ / 2) = -1 := by unfold dirx; rw [if_neg (by grind), if_pos (by grind)]
    have df : dirx f (e.2.2 + δ / 2) = 1 := by unfold dirx; rw [ad, if_pos (by grind)]
    have nx : XH e (e.2.2 + δ / 2) ≠ XH f (e.2.2 + δ / 2) := fun q => by
      rcases (h.meet he hf ne q1 q2 q).1 with m | m
      · have : e.2.2 + δ / 2 = e.1.2 := congrArg Prod.snd m
        grind
      · have : e.2.2 + δ / 2 = e.2.2 := congrArg Prod.snd m
        grind
    unfold DR
    rw [de, df]
    by_cases y : XH e (e.2.2 + δ / 2) < XH f (e.2.2 + δ / 2)
    · rw [if_pos y, if_neg (by grind)]; grind
    · rw [if_neg y, if_pos (by grind)]
      grind
theorem Gen.all : ∃ c : Rat, ∀ e ∈ edg l, ∀ t, inO e t → VV l e t = c := by
  have n3 := h.s.n3
  have cst : ∀ e ∈ edg l, ∀ s t, inO e s → inO e t → VV l e s = VV l e t := fun e he s t hs ht => by
    unfold VV
    rw [h.const he hs ht]
  have m0 := edg_mem (l := l) (i := 0) (by omega)
  refine ⟨VV l (vt l 0, vt l 1) (((vt l 0).2 + (vt l 1).2) / 2), fun e he t ht => ?_⟩
  obtain ⟨i, hi, rfl⟩ := mem_edg he
  clear he
  induction i generalizing t with
  | zero =>
    refine cst _ m0 _ _ ht ?_
    have := (h.mem m0).2.2
    unfold inO
    simp only at this ⊢
    by_cases c : (vt l 0).2 < (vt l 1).2
    · left; grind
    · right; grind
  | succ i ih =>
    have mi := edg_mem (l := l) (i := i) (by omega)
    have mj := edg_mem hi
    obtain ⟨s, t', hs, ht', e⟩ := h.adj mi mj (fun q => by
      have : vt l i = vt l (i + 1) := congrArg Prod.fst q
      exact h.s.inj (by omega) (by omega) (by omega) this) rfl
    rw [cst _ mj _ _ ht ht', ← e]
    have hi' : i < l.length := by omega
    clear e ht ht' m0 cst
    first
    | exact ih s hs hi'
    | exact ih hi' s hs
    | exact ih s hi' hs
end
end Go.Eng
end
section
set_option linter.unusedVariables false
set_option linter.unusedSimpArgs false
set_option linter.unusedSectionVars false
namespace Go.Eng
theorem maxE (X : P2 × P2 → Rat) : ∀ E : List (P2 × P2), E ≠ [] → ∃ a ∈ E, ∀ f ∈ E, X f ≤ X a
  | [], h => absurd rfl h
  | [e], _ => ⟨e, by simp, fun f hf => by rw [List.mem_singleton.1 hf]; grind⟩
  | e :: e' :: E, _ => by
    obtain ⟨a, ha, k⟩ := maxE X (e' :: E) (by simp)
    by_cases c : X a < X e
    · exact ⟨e, by simp, fun f hf => by
        rcases List.mem_cons.1 hf with q | q
        · rw [q]; grind
        · have := k f q; grind⟩
    · exact ⟨a, List.mem_cons_of_mem _ ha, fun f hf => by
        rcases List.mem_cons.1 hf with q | q
        · rw [q]; grind
        · exact k f q⟩
theorem sumE_zero {f : P2 × P2 → Rat} : ∀ {E : List (P2 × P2)}, (∀ e ∈ E, f e = 0) → sumE f E = 0
  | [], _ => rfl
  | e :: E, h => by rw [sumE, h e (by simp), sumE_zero fun e he => h e (List.mem_cons_of_mem _ he)]; grind
theorem altern (X d : P2 × P2 → Rat) (c : Rat) : ∀ (n : Nat) (E : List (P2 × P2)), E.length ≤ n → E.Nodup → (∀ e ∈ E, d e = 1 ∨ d e = -1) → (∀ e ∈ E, ∀ f ∈ E, e ≠ f → X e ≠ X f) →
    (∀ e ∈ E, sumE (fun f => if X e < X f then d f else 0) E + (if d e = 1 then 1 else 0) = c) → sumE d E = 0 → E = [] ∨ (c = 1 ∧ 0 < sumE (fun e => d e * X e) E) ∨ (c = 0 ∧ sumE (fun e => d e * X e) E < 0)
  | 0, E, hn, _, _, _, _, _ => .inl (List.eq_nil_of_length_eq_zero (by omega))
  | n + 1, E, hn, nd, hd, hx, hc, hz => by
    by_cases e0 : E = []
    · exact .inl e0
    right
    obtain ⟨a, ha, ma⟩ := maxE X E e0
    have p1 := List.perm_cons_erase ha
    obtain ⟨E1, hE1⟩ : ∃ E1, E1 = E.erase a := ⟨_, rfl⟩
    rw [← hE1] at p1
    have nd1 : (a :: E1).Nodup := p1.nodup_iff.1 nd
    rw [List.nodup_cons] at nd1
    have z1 : d a + sumE d E1 = 0 := by rw [sumE_perm p1] at hz; exact hz
    have ca := hc a ha
    rw [sumE_zero (fun f hf => if_neg (by have := ma f hf; grind))] at ca
    have in1 : ∀ e ∈ E1, e ∈ E := fun e he => p1.mem_iff.2 (List.mem_cons_of_mem _ he)
    have e1 : E1 ≠ [] := fun q => by
      rw [q] at z1
      have : d a + 0 = 0 := z1
      rcases hd a ha with k | k <;> grind
    obtain ⟨b, hb, mb⟩ := maxE X E1 e1
    have p2 := List.perm_cons_erase hb
    obtain ⟨E2, hE2⟩ : ∃ E2, E2 = E1.erase b := ⟨_, rfl⟩
    rw [← hE2] at p2
    have nd2 : (b :: E2).Nodup := p2.nodup_iff.1 nd1.2
    rw [List.nodup_cons] at nd2
    have pp : E.Perm (a :: b :: E2) := p1.trans (List.Perm.cons a p2)
    have in2 : ∀ e ∈ E2, e ∈ E1 := fun e he => p2.mem_iff.2 (List.mem_cons_of_mem _ he)
    have ltA : ∀ e ∈ E1, X e < X a := fun e he => by
      have k1 := ma e (in1 e he)
      have k2 := hx e (in1 e he) a ha (fun q => nd1.1 (q ▸ he))
      grind
    have ltB : ∀ e ∈ E2, X e < X b := fun e he => by
      have k1 := mb e (in2 e he)
      have k2 := hx e (in1 e (in2 e he)) b (in1 b hb) (fun q => nd2.1 (q ▸ he))
      grind
    have cb := hc b (in1 b hb)
    rw [sumE_perm pp, sumE, sumE, if_pos (ltA b hb), if_neg (by grind), sumE_zero (fun f hf => if_neg (by have := ltB f hf; grind))] at cb
    have da := hd a ha
    have db := hd b (in1 b hb)
    have ab : d a + d b = 0 := by
      split at ca <;> split at cb <;> grind
    have zs : sumE d E2 = 0 := by rw [sumE_perm p2, sumE] at z1; grind
    have ih := altern X d c n E2 (by have := pp.length_eq; simp at this; omega) nd2.2 (fun e he => hd e (in1 e (in2 e he))) (fun e he f hf => hx e (in1 e (in2 e he)) f (in1 f (in2 f hf)))
      (fun e he => by
        have k := hc e (in1 e (in2 e he))
        rw [sumE_perm pp, sumE, sumE, if_pos (ltA e (in2 e he)), if_pos (ltB e he)] at k
        grind) zs
    have tot : sumE (fun e => d e * X e) E = d a * X a + (d b * X b + sumE (fun e => d e * X e) E2) := by rw [sumE_perm pp, sumE, sumE]
    have lt := ltA b hb
    rcases da with k | k
    · have c1 : c = 1 := by rw [if_pos k] at ca; grind
      have kb : d b = -1 := by grind
      left
      refine ⟨c1, ?_⟩
      rw [tot, k, kb]
      rcases ih with q | q | q
      · rw [q]; show 0 < 1 * X a + (-1 * X b + 0); grind
      · have := q.2; grind
      · exfalso; have := q.1; grind
    · have c0 : c = 0 := by rw [if_neg (by rw [k]; decide)] at ca; grind
      have kb : d b = 1 := by grind
      right
      refine ⟨c0, ?_⟩
      rw [tot, k, kb]
      rcases ih with q | q | q
      · rw [q]; show -1 * X a + (1 * X b + 0) < 0; grind
      · exfalso; have := q.1; grind
      · have := q.2; grind
theorem sumE_filter {f : P2 × P2 → Rat} {p : P2 × P2 → Bool} : ∀ {E : List (P2 × P2)}, (∀ e ∈ E, p e = false → f e = 0) → sumE f (E.filter p) = sumE f E
  | [], _ => rfl
  | e :: E, h => by
    have ih := sumE_filter (f := f) (p := p) (E := E) fun e he => h e (List.mem_cons_of_mem _ he)
    rw [List.filter_cons]
    cases c : p e with
    | true => rw [if_pos rfl, sumE, sumE, ih]
    | false => rw [if_neg (by simp), sumE, ih, h e (by simp) c]; grind
def AH (l : List P2) (m : Rat) : Rat := sumE (fun e => dirx e m * XH e m) (edg l)
theorem dirx_cases (e : P2 × P2) (m : Rat) : dirx e m = 0 ∨ (dirx e m = 1 ∧ e.1.2 ≤ m ∧ m < e.2.2) ∨ (dirx e m = -1 ∧ e.2.2 ≤ m ∧ m < e.1.2) := by
  unfold dirx
  by_cases a : e.1.2 ≤ m ∧ m < e.2.2
  · rw [if_pos a]; exact .inr (.inl ⟨rfl, a⟩)
  · rw [if_neg a]
    by_cases b : e.2.2 ≤ m ∧ m < e.1.2
    · rw [if_pos b]; exact .inr (.inr ⟨rfl, b⟩)
    · rw [if_neg b]; exact .inl rfl
theorem dirx_sum (l : List P2) (m : Rat) : sumE (fun e => dirx e m) (edg l) = 0 := by
  rw [← sum_cyc (fun p => if m < p.2 then 1 else 0) l]
  refine sumE_congr fun e _ => ?_
  unfold dirx
  by_cases a : m < e.1.2 <;> by_cases b : m < e.2.2
  · rw [if_neg (by grind), if_neg (by grind), if_pos a, if_pos b]; grind
  · rw [if_neg (by grind), if_pos (by grind), if_pos a, if_neg b]; grind
  · rw [if_pos (by grind), if_neg a, if_pos b]; grind
  · rw [if_neg (by grind), if_neg (by grind), if_neg a, if_neg b]; grind
theorem Gen.height {l : List P2} (h : Gen l) {c : Rat} (hc : ∀ e ∈ edg l, ∀ t, inO e t → VV l e t = c) {m : Rat} (hm : ∀ p ∈ l, p.2 ≠ m) :
    (∀ e ∈ edg l, dirx e m = 0) ∨ (c = 1 ∧ 0 < AH l m) ∨ (c = 0 ∧ AH l m < 0) := by
  have op : ∀ e ∈ edg l, dirx e m ≠ 0 → inO e m := fun e he z => by
    obtain ⟨a, b, _⟩ := h.mem he
    have a := hm _ a
    have b := hm _ b
    unfold inO
    rcases dirx_cases e m with k | k | k
    · exact absurd k z
    · left; grind
    · right; grind
  have key := altern (fun e => XH e m) (fun e => dirx e m) c _ ((edg l).filter fun e => decide (dirx e m ≠ 0)) (Nat.le_refl _) ((edg_nd h.s.nd).filter _)
    (fun e he => by
      have z := of_decide_eq_true (List.mem_filter.1 he).2
      rcases dirx_cases e m with k | k | k
      · exact absurd k z
      · exact .inl k.1
      · exact .inr k.1)
    (fun e he f hf ne q => by
      have he1 := List.mem_filter.1 he
      have hf1 := List.mem_filter.1 hf
      have o1 := op e he1.1 (of_decide_eq_true he1.2)
      have o2 := op f hf1.1 (of_decide_eq_true hf1.2)
      obtain ⟨a, b, _⟩ := h.mem he1.1
      rcases (h.meet he1.1 hf1.1 ne (by unfold inO inR at *; grind) (by unfold inO inR at *; grind) q).1 with k | k
      · exact hm _ a (congrArg Prod.snd k).symm
      · exact hm _ b (congrArg Prod.snd k).symm)
    (fun e he => by
      have he1 := List.mem_filter.1 he
      have z := of_decide_eq_true he1.2
      have k := hc e he1.1 m (op e he1.1 z)
      unfold VV FR DR at k
      rw [sumE_filter (fun f _ hf => by
        have : dirx f m = 0 := Classical.byContradiction fun q => by simp [q] at hf
        rw [this]; split <;> rfl)]
      rw [← k]
      congr 1
      rcases dirx_cases e m with k | k | k
      · exact absurd k z
      · rw [if_pos k.1, if_pos (by grind)]
      · rw [if_neg (by rw [k.1]; decide), if_neg (by grind)])
    (by
      rw [sumE_filter (fun f _ hf => Classical.byContradiction fun q => by simp [q] at hf)]
      exact dirx_sum l m)
  have ea : sumE (fun e => dirx e m * XH e m) ((edg l).filter fun e => decide (dirx e m ≠ 0)) = AH l m := sumE_filter fun f _ hf => by
    have : dirx f m = 0 := Classical.byContradiction fun q => by simp [q] at hf
    rw [this]; grind
  rw [ea] at key
  rcases key with k | k
  · left
    intro e he
    exact Classical.byContradiction fun q => by
      have : e ∈ (edg l).filter fun e => decide (dirx e m ≠ 0) := List.mem_filter.2 ⟨he, decide_eq_true q⟩
      rw [k] at this
      cases this
  · exact .inr k
end Go.Eng
end
section
set_option linter.unusedVariables false
set_option linter.unusedSimpArgs false
set_option linter.unusedSectionVars false
namespace Go.Eng
def caU (e : P2 × P2) (h : Rat) : Rat := if h ≤ e.1.2 then 0 else if e.2.2 ≤ h then (e.1.1 + e.2.1) * (e.2.2 - e.1.2) else (e.1.1 + XH e h) * (h - e.1.2)
def ca (e : P2 × P2) (h : Rat) : Rat := if e.1.2 < e.2.2 then caU e h else - caU (e.2, e.1) h
def PH (l : List P2) (h : Rat) : Rat := sumE (fun e => ca e h) (edg l)
theorem XH_lin (e : P2 × P2) : ∃ k, ∀ t, XH e t = e.1.1 + (t - e.1.2) * k := ⟨(e.2.2 - e.1.2)⁻¹ * (e.2.1 - e.1.1), fun t => by unfold XH; rw [Rat.div_def]; grind⟩
theorem caU_mid {e : P2 × P2} {h : Rat} (up : e.1.2 < e.2.2) (a : e.1.2 ≤ h) (b : h ≤ e.2.2) : caU e h = (e.1.1 + XH e h) * (h - e.1.2) := by
  unfold caU
  by_cases c : h ≤ e.1.2
  · rw [if_pos c, show h - e.1.2 = 0 by grind]; grind
  · rw [if_neg c]
    by_cases d : e.2.2 ≤ h
    · rw [if_pos d, show h = e.2.2 by grind, XH_2 (by grind)]
    · rw [if_neg d]
theorem step_up {e : P2 × P2} {h h' : Rat} (up : e.1.2 < e.2.2) (hh : h < h') (a : e.1.2 ≤ h ∨ h' ≤ e.1.2) (b : e.2.2 ≤ h ∨ h' ≤ e.2.2) :
    caU e h' - caU e h = 2 * (h' - h) * (dirx e ((h + h') / 2) * XH e ((h + h') / 2)) := by
  have hm : (h + h') / 2 * 2 = h + h' := Rat.div_mul_cancel (by decide)
  obtain ⟨m, em⟩ : ∃ m, m = (h + h') / 2 := ⟨_, rfl⟩
  rw [← em] at hm ⊢
  have m1 : h < m := by grind
  have m2 : m < h' := by grind
  rcases b with b | b
  · have d : dirx e m = 0 := by unfold dirx; rw [if_neg (by grind), if_neg (by grind)]
    rw [d]
    unfold caU
    rw [if_neg (by grind), if_pos (by grind), if_neg (by grind), if_pos b]; grind
  · rcases a with a | a
    · have d : dirx e m = 1 := if_pos (by grind)
      rw [d, caU_mid up (by grind) b, caU_mid up a (by grind)]
      obtain ⟨k, hk⟩ := XH_lin e
      rw [hk, hk, hk]
      grind
    · have d : dirx e m = 0 := by unfold dirx; rw [if_neg (by grind), if_neg (by grind)]
      rw [d]
      unfold caU
      rw [if_pos a, if_pos (by grind)]; grind
theorem step_ca {e : P2 × P2} {h h' : Rat} (ne : e.1.2 ≠ e.2.2) (hh : h < h') (a : e.1.2 ≤ h ∨ h' ≤ e.1.2) (b : e.2.2 ≤ h ∨ h' ≤ e.2.2) :
    ca e h' - ca e h = 2 * (h' - h) * (dirx e ((h + h') / 2) * XH e ((h + h') / 2)) := by
  unfold ca
  by_cases up : e.1.2 < e.2.2
  · rw [if_pos up, if_pos up]; exact step_up up hh a b
  · rw [if_neg up, if_neg up]
    have k := step_up (e := (e.2, e.1)) (h := h) (h' := h') (by show e.2.2 < e.1.2; grind) hh b a
    rw [dirx_swap, XH_swap ne] at k
    grind
theorem sumE_mul (k : Rat) (f : P2 × P2 → Rat) : ∀ E : List (P2 × P2), sumE (fun e => k * f e) E = k * sumE f E
  | [] => by unfold sumE; grind
  | e :: E => by rw [sumE, sumE, sumE_mul k f E]; grind
theorem cnt_lt {α : Type} {P Q : α → Bool} (h : ∀ x, P x = true → Q x = true) : ∀ {l : List α}, (∃ x ∈ l, Q x = true ∧ P x = false) → l.countP P < l.countP Q
  | [], ⟨x, hx, _⟩ => by cases hx
  | y :: l, ⟨x, hx, q, p⟩ => by
    rw [List.countP_cons, List.countP_cons]
    rcases List.mem_cons.1 hx with k | k
    · subst k
      have := List.countP_mono_left (l := l) (p := P) (q := Q) fun x _ => h x
      rw [if_pos q, if_neg (by rw [p]; simp)]; omega
    · have ih := cnt_lt h ⟨x, k, q, p⟩
      by_cases c : P y = true
      · rw [if_pos c, if_pos (h y c)]; omega
      · rw [if_neg c]; split <;> omega
theorem minP : ∀ F : List P2, F ≠ [] → ∃ a ∈ F, ∀ f ∈ F, a.2 ≤ f.2
  | [], h => absurd rfl h
  | [e], _ => ⟨e, by simp, fun f hf => by rw [List.mem_singleton.1 hf]; grind⟩
  | e :: e' :: E, _ => by
    obtain ⟨a, ha, k⟩ := minP (e' :: E) (by simp)
    by_cases c : e.2 < a.2
    · exact ⟨e, by simp, fun f hf => by
        rcases List.mem_cons.1 hf with q | q
        · rw [q]; grind
        · have := k f q; grind⟩
    · exact ⟨a, List.mem_cons_of_mem _ ha, fun f hf => by
        rcases List.mem_cons.1 hf with q | q
        · rw [q]; grind
        · exact k f q⟩
theorem nextP {l : List P2} {h : Rat} (ex : ∃ p ∈ l, h < p.2) : ∃ p ∈ l, h < p.2 ∧ ∀ q ∈ l, q.2 ≤ h ∨ p.2 ≤ q.2 := by
  obtain ⟨p, hp, k⟩ := ex
  obtain ⟨a, ha, m⟩ := minP (l.filter fun p => decide (h < p.2)) (fun q => by
    have : p ∈ l.filter fun p => decide (h < p.2) := List.mem_filter.2 ⟨hp, decide_eq_true k⟩
    rw [q] at this
    cases this)
  have a1 := List.mem_filter.1 ha
  refine ⟨a, a1.1, of_decide_eq_true a1.2, fun q hq => ?_⟩
  by_cases c : h < q.2
  · right; exact m q (List.mem_filter.2 ⟨hq, decide_eq_true c⟩)
  · left; grind
section
variable {l : List P2} (h : Gen l)
include h
theorem Gen.top {t : Rat} (ht : ∀ p ∈ l, p.2 ≤ t) : PH l t = ar2 l := by
  have key : ∀ e ∈ edg l, crs e = ca e t - (e.2.1 * e.2.2 - e.1.1 * e.1.2) := fun e he => by
    obtain ⟨a, b, n⟩ := h.mem he
    have a := ht _ a
    have b := ht _ b
    unfold ca caU crs
    by_cases up : e.1.2 < e.2.2
    · rw [if_pos up, if_neg (by grind), if_pos b]; grind
    · rw [if_neg up, if_neg (by show ¬ t ≤ e.2.2; grind), if_pos (by show e.1.2 ≤ t; exact a)]; grind
  have z := sum_cyc (fun p => p.1 * p.2) l
  unfold ar2 PH
  rw [sumE_congr key, sumE_sub (fun e => ca e t) (fun e => e.2.1 * e.2.2 - e.1.1 * e.1.2)]
  grind
theorem Gen.bot {t : Rat} (ht : ∀ p ∈ l, t ≤ p.2) : PH l t = 0 := sumE_zero fun e he => by
  obtain ⟨a, b, n⟩ := h.mem he
  have a := ht _ a
  have b := ht _ b
  unfold ca caU
  by_cases up : e.1.2 < e.2.2
  · rw [if_pos up, if_pos a]
  · rw [if_neg up, if_pos (by show t ≤ e.2.2; exact b)]; grind
theorem Gen.step {s t : Rat} (st : s < t) (hst : ∀ q ∈ l, q.2 ≤ s ∨ t ≤ q.2) : PH l t - PH l s = 2 * (t - s) * AH l ((s + t) / 2) := by
  unfold PH AH
  rw [← sumE_sub, ← sumE_mul]
  refine sumE_congr fun e he => ?_
  obtain ⟨a, b, n⟩ := h.mem he
  exact step_ca n st (hst _ a) (hst _ b)
theorem mid_ne {s t : Rat} (st : s < t) (hst : ∀ q ∈ l, q.2 ≤ s ∨ t ≤ q.2) : ∀ p ∈ l, p.2 ≠ (s + t) / 2 := fun p hp e => by
  have hm : (s + t) / 2 * 2 = s + t := Rat.div_mul_cancel (by decide)
  have := hst p hp
  grind
theorem Gen.climb {ε : Rat} (hA : ∀ m, (∀ p ∈ l, p.2 ≠ m) → 0 ≤ ε * AH l m) : ∀ (n : Nat) (s : Rat), l.countP (fun p => decide (s < p.2)) ≤ n → ε * PH l s ≤ ε * ar2 l := by
  intro n
  induction n with
  | zero =>
    intro s hs
    have z := List.countP_eq_zero.1 (by omega : l.countP (fun p => decide (s < p.2)) = 0)
    rw [h.top fun p hp => by have := z p hp; simp at this; grind]
    grind
  | succ n ih =>
    intro s hs
    by_cases ex : ∃ p ∈ l, s < p.2
    · obtain ⟨p, hp, k, hst⟩ := nextP ex
      have d := h.step k hst
      have a := hA _ (mid_ne h k hst)
      have lt := cnt_lt (P := fun q : P2 => decide (p.2 < q.2)) (Q := fun q : P2 => decide (s < q.2)) (l := l) (fun x hx => decide_eq_true (by have := of_decide_eq_true hx; grind)) ⟨p, hp, decide_eq_true k, decide_eq_false (by grind)⟩
      have up := ih p.2 (by omega)
      have m := Rat.mul_nonneg (show 0 ≤ 2 * (p.2 - s) by grind) a
      generalize AH l ((s + p.2) / 2) = A at *
      have e1 : ε * (PH l p.2 - PH l s) = 2 * (p.2 - s) * (ε * A) := by rw [d]; grind
      grind
    · rw [h.top fun p hp => by
        by_cases c : s < p.2
        · exact absurd ⟨p, hp, c⟩ ex
        · grind]
      grind
theorem Gen.ar_ne : ar2 l ≠ 0 := by
  have n3 := h.s.n3
  obtain ⟨c, hc⟩ := h.all
  obtain ⟨p0, hp0, m0⟩ := minP l (fun q => by rw [q] at n3; simp at n3)
  obtain ⟨i, hi, ei⟩ := mem_vt hp0
  have he := edg_mem hi
  obtain ⟨a, b, n⟩ := h.mem he
  simp only at a b n
  have hb := m0 _ b
  rw [← ei] at n
  obtain ⟨p, hp, k, hst⟩ := nextP (l := l) (h := p0.2) ⟨_, b, by grind⟩
  have d := h.step k hst
  rw [h.bot m0] at d
  have hm : (p0.2 + p.2) / 2 * 2 = p0.2 + p.2 := Rat.div_mul_cancel (by decide)
  have hn := mid_ne h k hst
  have hp2 := hst _ b
  have dx : dirx (vt l i, vt l (i + 1)) ((p0.2 + p.2) / 2) = 1 := by
    refine if_pos ⟨?_, ?_⟩
    · show (vt l i).2 ≤ _
      rw [← ei]; grind
    · show _ < (vt l (i + 1)).2
      grind
  have zero : ∀ m, (∀ e ∈ edg l, dirx e m = 0) → AH l m = 0 := fun m z => sumE_zero fun e he => by rw [z e he]; grind
  rcases h.height hc hn with q | q | q
  · have := q _ he
    rw [dx] at this
    exact absurd this (by decide)
  · have cl := h.climb (ε := 1) (fun m hm => by
      rcases h.height hc hm with w | w | w
      · rw [zero m w]; grind
      · have := w.2; grind
      · exfalso; have := q.1; have := w.1; grind) _ p.2 (Nat.le_refl _)
    have := Rat.mul_pos (show 0 < 2 * (p.2 - p0.2) by grind) q.2
    grind
  · have cl := h.climb (ε := -1) (fun m hm => by
      rcases h.height hc hm with w | w | w
      · rw [zero m w]; grind
      · exfalso; have := q.1; have := w.1; grind
      · have := w.2; grind) _ p.2 (Nat.le_refl _)
    have := Rat.mul_pos (show 0 < 2 * (p.2 - p0.2) by grind) (show 0 < - AH l ((p0.2 + p.2) / 2) by have := q.2; grind)
    grind
end
theorem Simp.ar_ne {l : List P2} (h : Simp l) : ar2 l ≠ 0 := by
  obtain ⟨k, hk⟩ := shr_dist l
  have g : Gen (l.map (Go.Eng.shr k)) := ⟨h.shr k, fun p hp q hq ne => by
    obtain ⟨p', hp', rfl⟩ := List.mem_map.1 hp
    obtain ⟨q', hq', rfl⟩ := List.mem_map.1 hq
    exact hk p' hp' q' hq' fun e => ne (by rw [e])⟩
  rw [← shr_ar2 k l]
  exact g.ar_ne
end Go.Eng
end
section
set_option linter.unusedVariables false
set_option linter.unusedSimpArgs false
set_option linter.unusedSectionVars false
set_option maxRecDepth 20000
namespace Go.Eng
open Go Go.Proofs Go.IntWalk
def oxI (n s : Nat) (bk : Bool) (i : Nat) : Nat := if bk then n - 1 - (i + s) % n else (i + s) % n
def orT (l : List PQ) (s : Nat) (bk : Bool) (i : Nat) : List PQ := (List.range i).map fun j => pqAt l (oxI l.length s bk j)
theorem orT_s (l : List PQ) (s : Nat) (bk : Bool) (i : Nat) : orT l s bk (i + 1) = orT l s bk i ++ [pqAt l (oxI l.length s bk i)] := by
  unfold orT
  rw [List.range_succ, List.map_append]; rfl
theorem orT_len (l : List PQ) (s : Nat) (bk : Bool) (i : Nat) : (orT l s bk i).length = i := by
  unfold orT
  rw [List.length_map, List.length_range]
theorem orT_all (l : List PQ) (s : Nat) (bk : Bool) : ∃ A B, A ++ B = (if bk then l.reverse else l) ∧ orT l s bk l.length = B ++ A := by
  obtain ⟨R, hR⟩ : ∃ R, R = if bk then l.reverse else l := ⟨_, rfl⟩
  have lR : R.length = l.length := by rw [hR]; split; exact List.length_reverse; rfl
  refine ⟨R.take (s % l.length), R.drop (s % l.length), by rw [← hR]; exact List.take_append_drop _ _, ?_⟩
  by_cases l0 : l.length = 0
  · have : R = [] := List.eq_nil_of_length_eq_zero (by omega)
    rw [this, l0]
    simp [orT]
  have hs : s % l.length < l.length := Nat.mod_lt _ (by omega)
  have pR : ∀ j, j < l.length → R[j]? = some (pqAt l (if bk then l.length - 1 - j else j)) := fun j hj => by
    rw [hR]
    cases bk with
    | true =>
      show l.reverse[j]? = some (pqAt l (l.length - 1 - j))
      rw [List.getElem?_reverse hj]; exact pqAt_some (by omega)
    | false => exact pqAt_some hj
  refine List.ext_getElem? fun i => ?_
  by_cases hi : i < l.length
  · have e1 : (orT l s bk l.length)[i]? = some (pqAt l (oxI l.length s bk i)) := by
      unfold orT
      rw [List.getElem?_map, List.getElem?_range hi]; rfl
    have em : (i + s) % l.length = if s % l.length + i < l.length then s % l.length + i else s % l.length + i - l.length := by
      rw [← Nat.add_mod_mod]
      split
      · rw [Nat.mod_eq_of_lt (by omega)]; omega
      · rw [Nat.mod_eq_sub_mod (by omega), Nat.mod_eq_of_lt (by omega)]; omega
    rw [e1]
    by_cases c : s % l.length + i < l.length
    · rw [List.getElem?_append_left (by rw [List.length_drop]; omega), List.getElem?_drop, pR _ c]
      unfold oxI
      rw [em, if_pos c]
    · rw [List.getElem?_append_right (by rw [List.length_drop]; omega), List.length_drop, List.getElem?_take, if_pos (by omega), pR _ (by omega)]
      unfold oxI
      rw [em, if_neg c, show s % l.length + i - l.length = i - (R.length - s % l.length) by omega]
  · rw [List.getElem?_eq_none (by rw [orT_len]; omega), List.getElem?_eq_none (by rw [List.length_append, List.length_drop, List.length_take]; omega)]
theorem or_rot {A B : List P2} : nmOut (B ++ A) = nmOut (A ++ B) := by
  have e : (B ++ A).length = (A ++ B).length := by rw [List.length_append, List.length_append, Nat.add_comm]
  unfold nmOut
  rw [e]
  by_cases p : profP (A ++ B)
  · have S := prof_simp p
    rw [if_pos p, if_pos (prof_iff.2 S.rot), ncf_rot S]
  · rw [if_neg p, if_neg (fun q => p (prof_iff.2 (prof_simp q).rot))]
theorem or_rev {L : List P2} : nmOut L.reverse = nmOut L := by
  unfold nmOut
  rw [List.length_reverse]
  by_cases p : profP L
  · have S := prof_simp p
    rw [if_pos p, if_pos (prof_iff.2 S.rev), ncf_rev S S.ar_ne]
  · have pr : ¬ profP L.reverse := fun q => p (prof_iff.2 (by have := (prof_simp q).rev; rwa [List.reverse_reverse] at this))
    rw [if_neg p, if_neg pr]
theorem or_facts (l : List PQ) (s : Nat) (bk : Bool) : nmOut (pvs (orT l s bk l.length)) = nmOut (pvs l) ∧ ∀ x, clsP (pvs (orT l s bk l.length)) x = clsP (pvs l) x := by
  obtain ⟨A, B, e1, e2⟩ := orT_all l s bk
  have f1 : pvs (orT l s bk l.length) = pvs B ++ pvs A := by rw [e2]; unfold pvs; rw [List.map_append]
  have f2 : pvs A ++ pvs B = if bk then (pvs l).reverse else pvs l := by
    have : pvs A ++ pvs B = pvs (A ++ B) := by unfold pvs; rw [List.map_append]
    rw [this, e1]
    cases bk with
    | true => show pvs l.reverse = (pvs l).reverse; unfold pvs; rw [List.map_reverse]
    | false => rfl
  have c1 : ∀ x, clsP (pvs B ++ pvs A) x = clsP (pvs A ++ pvs B) x := fun x => by
    unfold clsP
    rw [onL_rot, xs_rot]
  refine ⟨by rw [f1, or_rot, f2]; cases bk with | true => exact or_rev | false => rfl, fun x => ?_⟩
  rw [f1, c1, f2]
  cases bk with
  | true =>
    show clsP (pvs l).reverse x = _
    unfold clsP
    rw [onL_rev, xs_rev]
  | false => rfl
theorem or_ok {l : List PQ} {s : Nat} {bk : Bool} {k : Nat} (h : ∀ p ∈ l, pok k p) : ∀ p ∈ orT l s bk l.length, pok k p := fun p hp => by
  obtain ⟨A, B, e1, e2⟩ := orT_all l s bk
  rw [e2, List.mem_append, or_comm, ← List.mem_append, e1] at hp
  cases bk with
  | true => exact h p (List.mem_reverse.1 hp)
  | false => exact h p hp
theorem nm_nil {L : List P2} (h : (nmOut L).1 ≠ 0) : (nmOut L).2.length = 0 := by
  unfold nmOut at h ⊢
  split
  · rfl
  · rename_i c
    rw [if_neg c] at h
    split
    · rename_i p
      rw [if_pos p] at h
      exact absurd rfl h
    · rfl
theorem nm_ar {L : List P2} (h : (nmOut L).1 = 0) : 0 < ar2 (nmOut L).2 ∧ (ar2 (nmOut L).2 = ar2 L ∨ ar2 (nmOut L).2 = - ar2 L) := by
  have p := nm_ok h
  have S := prof_simp p
  have c : ¬ 12 < L.length := fun c => by
    unfold nmOut at h
    rw [if_pos c] at h
    cases h
  have e : nmOut L = (0, ncf L) := by unfold nmOut; rw [if_neg c, if_pos p]
  obtain ⟨_, _, s3, s4, _⟩ := S.ncf
  have ne := S.ar_ne
  rw [e]
  refine ⟨?_, s4⟩
  show 0 < ar2 (ncf L)
  rcases s4 with k | k <;> grind
theorem nm_can {l : List PQ} (h : smallP l) : ptsN ((nmOut (pvs l)).2.map pqo) := by
  refine ⟨?_, fun p hp => ?_⟩
  · rw [List.length_map]
    rcases nm_len (pvs l) with k | k
    · exact k
    · rw [pvs_len] at k; have := h.1; omega
  · obtain ⟨v, hv, rfl⟩ := List.mem_map.1 hp
    obtain ⟨q, hq, rfl⟩ := List.mem_map.1 (nm_mem hv)
    exact (pqo_ok (h.2 q hq)).le (by omega)
theorem ar_RB {l : List PQ} (hs : ptsOK l) : RB (ar2 (pvs l) / 2) 4000007002 := by
  have rA : RB (ar2 (pvs l)) 4000007000 := by
    by_cases l0 : 0 < l.length
    · have := arT_RB hs.2 l0 l.length (Nat.le_refl _)
      have eA : arT (pvs l) l.length = ar2 (pvs l) := by rw [← pvs_len l, arT_all]
      rw [eA] at this
      refine this.le ?_
      have : l.length * (4 * 1000000 + 6) ≤ 1000 * (4 * 1000000 + 6) := Nat.mul_le_mul_right _ hs.1
      omega
    · have : ar2 (pvs l) = 0 := by rw [List.eq_nil_of_length_eq_zero (l := l) (by omega)]; rfl
      rw [this]
      exact RB0.le (by omega)
  exact rA.div (RBs (z := 2) (by omega)) (by omega) (by omega)
theorem qneg_of {x : Rat} {i : Nat} (h : RB x i) (hi : i ≤ 8589934591) : spQNeg [.agg ⟨(RQ.of x).cells⟩] = some (.agg ⟨(RQ.of (-x)).cells⟩) := by
  have o := ofB h hi
  have e : spQNeg [.agg ⟨(RQ.of x).cells⟩] = some (.agg ⟨(RQ.of (-(RQ.of x).v)).cells⟩) := if_pos ⟨by have := o.1; omega, by have := o.2; omega⟩
  rw [e, RQ.of_v]
theorem ceq3 (p q : RQ) : ceq [.b, .s, .s] p.cells q.cells = some (decide (p = q)) := by
  obtain ⟨s1, n1, d1⟩ := p
  obtain ⟨t1, m1, e1⟩ := q
  simp only [RQ.cells, ceq, Option.map_some, Bool.and_true]
  have f : ∀ x y : List UInt8, decide ((⟨⟨x⟩⟩ : ByteArray) = ⟨⟨y⟩⟩) = decide (x = y) := fun x y => decide_eq_decide.2 ⟨fun e => by injection e with e; injection e, fun e => by rw [e]⟩
  simp only [f]
  rw [show decide ((⟨s1, n1, d1⟩ : RQ) = ⟨t1, m1, e1⟩) = decide (s1 = t1 ∧ n1 = m1 ∧ d1 = e1) from decide_eq_decide.2 ⟨fun e => by cases e; exact ⟨rfl, rfl, rfl⟩, fun ⟨a, b, c⟩ => by rw [a, b, c]⟩]
  simp only [Bool.decide_and]
def spL26or : List Value → Heap → Option Value
  | [sl, .int .u8 at_, .bool bk, .agg ⟨cx⟩], h => match decPts h sl, dec2 cx with
    | some l, some x => if l.length ≤ 9223372036854775807 ∧ 0 ≤ at_ ∧ at_ ≤ 255 then some (.bool true) else none
    | _, _ => none
  | _, _ => none
theorem fr_L26or {h : Heap} {N : Nat} {sl : Value} {l : List PQ} {a : Int} {b : Bool} {x : PQ} (e : decPts h sl = some l) (m : l.length ≤ maxLen) (ha : 0 ≤ a ∧ a ≤ 255) : rdS spL26or [sl, .int .u8 a, .bool b, .agg ⟨pcl x⟩] h N = some (.bool true, [], 0) := by
  unfold rdS spL26or
  simp only [e, pcl_dec]
  rw [if_pos ⟨show l.length ≤ 9223372036854775807 from m, ha⟩]; rfl
def c3 : ICode :=
  (.seq (.reg [qq 7 (.box 26 6 (.t 3)), qq 8 (.mv (.c (.bool false)))]) (.seq (.seq (.dreg [qu 18 (.mv (.t 0)), qu 19 (.call 6 [(.t 18)]), qv 20 [1] (.load true 6 (.t 7)), qu 21 (.bslice 26 6 1 [(.bool false), e0, e0, (.bool false), e0, e0] [(0, 6, (.t 20))]), qu 22 (.call 6 [(.t 21)]), qu 23 (.bin .add (.t 19) (.t 22)), qu 24 (.bin .gtr (.t 23) (ci 0))]) (.cond (.t 24) (.seq (.reg [qq 25 (.call 7 []), qq 8 (.mv (.t 25))]) .ret) .skip)) (.seq (.reg [qq 27 (.mv (.t 0)), qq 28 (.call 8 [(.t 27)]), qq 26 (.mv (.t 28)), qq 29 (.ext (.t 26) 0), qq 30 (.ext (.t 26) 1), qq 9 (.mv (.t 29)), qq 10 (.mv (.t 30))]) (.seq (.reg [qq 31 (.bslice 26 6 0 [] []), qq 11 (.mv (.t 31))]) (.seq (.seq (.reg [qq 32 (.mv (.t 0)), qq 33 (.lensl (.t 32)), qq 34 (.mv (ci 0))]) (.block 0 (.loop (.seq (.reg [qq 35 (.bin .lss (.t 34) (.t 33))]) (.seq (.cond (.t 35) .skip (.exit 0)) (.seq (.block 1 (.seq (.reg [qq 36 (.mv (.t 34)), qq 12 (.mv (.t 36))]) (.seq (.reg [qq 37 (.mv (.t 12)), qq 38 (.mv (.t 1)), qq 39 (.conv .i64 (.t 38)), qq 40 (.bin .add (.t 37) (.t 39)), qq 41 (.mv (.t 0)), qq 42 (.lensl (.t 41)), qq 43 (.bin .rem (.t 40) (.t 42)), qq 13 (.mv (.t 43))]) (.seq (.seq (.reg [qq 44 (.mv (.t 2))]) (.cond (.t 44) (.reg [qq 45 (.mv (.t 0)), qq 46 (.lensl (.t 45)), qq 47 (.bin .sub (.t 46) (ci 1)), qq 48 (.mv (.t 13)), qq 49 (.bin .sub (.t 47) (.t 48)), qq 13 (.mv (.t 49))]) .skip)) (.reg [qq 50 (.mv (.t 11)), qq 51 (.mv (.t 0)), qq 52 (.mv (.t 13)), qq 53 (.ixsl 6 (.t 51) (.t 52)), qq 54 (.load true 6 (.t 53)), qq 55 (.bslice 26 6 1 [(.bool false), e0, e0, (.bool false), e0, e0] [(0, 6, (.t 54))]), qq 56 (.app 26 6 80 (.t 50) (.t 55)), qq 11 (.mv (.t 56))]))))) (.reg [qq 57 (.bin .add (.t 34) (ci 1)), qq 34 (.mv (.t 57))]))))))) (.seq (.reg [qq 59 (.mv (.t 11)), qq 60 (.call 8 [(.t 59)]), qq 58 (.mv (.t 60)), qq 61 (.ext (.t 58) 0), qq 62 (.ext (.t 58) 1), qq 14 (.mv (.t 61)), qq 15 (.mv (.t 62))]) (.seq (.seq (.reg [qq 63 (.mv (.t 10)), qq 64 (.mv (.t 15)), qq 65 (.bin .neq (.t 63) (.t 64)), qq 66 (.mv (.t 65)), ⟨(some 67), (some (66, false)), (.mv (.t 9))⟩, ⟨(some 68), (some (66, false)), (.mv (.t 14))⟩, ⟨(some 69), (some (66, false)), (.call 9 [(.t 67), (.t 68)])⟩, ⟨(some 70), (some (66, false)), (.un .not (.t 69))⟩, qq 71 (.pick (.t 66) (.c (.bool true)) (.t 70))]) (.cond (.t 71) (.seq (.reg [qq 8 (.mv (.c (.bool false)))]) .ret) .skip)) (.seq (.seq (.reg [qq 72 (.mv (.t 10)), qq 73 (.bin .neq (.t 72) (ci 0))]) (.cond (.t 73) (.seq (.reg [qq 74 (.mv (.t 9)), qq 75 (.lensl (.t 74)), qq 76 (.bin .eql (.t 75) (ci 0)), qq 77 (.mv (.t 76)), ⟨(some 78), (some (77, true)), (.call 7 [])⟩, qq 79 (.pick (.t 77) (.t 78) (.c (.bool false))), qq 8 (.mv (.t 79))]) .ret) .skip)) (.seq (.reg [qq 80 (.mv (.t 9)), qq 81 (.call 10 [(.t 80)]), qq 16 (.alloc 24 3 [(.bool false), e0, e0]), qn (.store 3 (.t 16) (.t 81))]) (.seq (.reg [qq 82 (.mv (.t 0)), qq 83 (.call 10 [(.t 82)]), qq 17 (.alloc 24 3 [(.bool false), e0, e0]), qn (.store 3 (.t 17) (.t 83))]) (.seq (.dreg [qu 84 (.load true 3 (.t 16)), qu 85 (.call 11 [(.t 84)]), qu 86 (.bin .gtr (.t 85) (ci 0)), qu 87 (.mv (.t 86)), ⟨(some 88), (some (87, true)), [], (.load true 3 (.t 16))⟩, ⟨(some 89), (some (87, true)), [], (.load true 3 (.t 17))⟩, ⟨(some 90), (some (87, true)), [], (.eqa false [.b, .s, .s] (.t 88) (.t 89))⟩, ⟨(some 91), (some (87, true)), [], (.mv (.t 90))⟩, ⟨(some 92), (some (91, false)), [], (.load true 3 (.t 16))⟩, ⟨(some 93), (some (91, false)), [], (.load true 3 (.t 17))⟩, ⟨(some 94), (some (91, false)), [], (.call 12 [(.t 93)])⟩, ⟨(some 95), (some (91, false)), [], (.eqa false [.b, .s, .s] (.t 92) (.t 94))⟩, ⟨(some 96), (some (87, true)), [], (.pick (.t 91) (.c (.bool true)) (.t 95))⟩, qu 97 (.pick (.t 87) (.t 96) (.c (.bool false))), qu 98 (.mv (.t 97)), ⟨(some 99), (some (98, true)), [], (.mv (.t 0))⟩, ⟨(some 100), (some (98, true)), [], (.load true 6 (.t 7))⟩, ⟨(some 101), (some (98, true)), [], (.call 13 [(.t 99), (.t 100)])⟩, ⟨(some 102), (some (98, true)), [], (.mv (.t 11))⟩, ⟨(some 103), (some (98, true)), [17], (.load true 6 (.t 7))⟩, ⟨(some 104), (some (98, true)), [], (.call 13 [(.t 102), (.t 103)])⟩, ⟨(some 105), (some (98, true)), [], (.bin .eql (.t 101) (.t 104))⟩, qu 106 (.pick (.t 98) (.t 105) (.c (.bool false))), qu 107 (.mv (.t 106)), ⟨(some 108), (some (107, true)), [], (.call 7 [])⟩, qu 109 (.pick (.t 107) (.t 108) (.c (.bool false))), qu 8 (.mv (.t 109))]) .ret)))))))))))
theorem tr3 : trFun Tryd.prog 3 = some ⟨110, [.t 8], c3⟩ := by kernel_rfl
set_option maxHeartbeats 32000000 in
theorem ok_L26or : SpecOK Tryd.prog 3 (rdS spL26or) := by
  refine rd_run (env_cons ok_great26 (env_cons ok_awake26 (env_cons ok_norm2 (env_cons ok_same26 (env_cons ok_area2 (env_cons ok_qSign (env_cons ok_qNeg (env_cons ok_cls2 (env_nil _))))))))) mixed tr3 ?_ ?_
  · intro args h h' v hle e
    unfold spL26or at e ⊢
    split at e
    · split at e
      · rename_i l x hb hc
        simp only [decPts_mono hle hb, hc]; exact e
      · cases e
    · cases e
  intro args v h N hG hN
  unfold spL26or at hG
  split at hG
  case h_2 => cases hG
  rename_i sl at_ bk cx
  split at hG
  case h_2 => cases hG
  rename_i l x hx hc
  split at hG
  case isFalse => cases hG
  rename_i hm
  cases hG
  obtain ⟨hm, hat⟩ := hm
  obtain ⟨a, cc, rfl⟩ := decPts_sl hx
  have ecx := dec2_pcl hc
  subst ecx
  clear hc
  obtain ⟨I0, rfl⟩ : ∃ I0 : Nat, at_ = I0 := ⟨at_.toNat, by omega⟩
  refine ⟨rfl, by simp, ?_⟩
  have nbN : ∀ q, q < N → ∀ j, (N + j = q) = False := fun q hq j => eq_false (by omega)
  have gr1 : ∀ b0, spGreat26 [.slice a l.length cc] ((N + 0, b0) :: h) = some (.int .i64 (if smallP l then 0 else 1)) := fun b0 => great26_of (ext_pts hN hx (fun k hk => by simp only [hget, nbN k hk, if_false])) hm
  have gr2 : ∀ tl, spGreat26 [.slice (some ⟨N + 1, 0, none⟩) 1 1] ((N + 1, some ⟨26, 6, true, pcl x⟩) :: tl) = some (.int .i64 (if smallP [x] then 0 else 1)) := fun tl => great26_of (l := [x]) (pts_list (hget_cons_same _ _ _) rfl) (show (1 : Nat) ≤ 9223372036854775807 by omega)
  have w0 : IntKind.i64.wrap ((0 : Int) + 0) = 0 := by rw [i64_in _ (by omega)]; rfl
  have w1 : IntKind.i64.wrap ((0 : Int) + 1) = 1 := by rw [i64_in _ (by omega)]; rfl
  have w2 : IntKind.i64.wrap ((1 : Int) + 0) = 1 := by rw [i64_in _ (by omega)]; rfl
  have w3 : IntKind.i64.wrap ((1 : Int) + 1) = 2 := by rw [i64_in _ (by omega)]; rfl
  have z0 : ((0 : Int) > 0) = False := eq_false (by omega)
  have z1 : ((1 : Int) > 0) = True := eq_true (by omega)
  have z2 : ((2 : Int) > 0) = True := eq_true (by omega)
  by_cases s12 : smallP l ∧ smallP [x]
  case neg =>
    by_cases s1 : smallP l
    · have s2 : ¬ smallP [x] := fun s => s12 ⟨s1, s⟩
      rw [if_pos s1] at gr1
      rw [if_neg s2] at gr2
      simp only [c3, G0, Nat.reduceAdd]
      simp only [↓R0, R1, simprocAttr, -Int.reduceAbs, rdS, gr1, gr2, w0, w1, w2, w3, z0, z1, z2, awake_of, pcl_len, pcl_ok, pcl_tk, pp_st, setR_length, List.length_cons, List.length_nil, Fin, isEnd, resL, res1]
      exact ⟨_, rfl, rfl, fun k hk => by simp only [ne_nb hk, if_false]⟩
    · rw [if_neg s1] at gr1
      by_cases s2 : smallP [x]
      · rw [if_pos s2] at gr2
        simp only [c3, G0, Nat.reduceAdd]
        simp only [↓R0, R1, simprocAttr, -Int.reduceAbs, rdS, gr1, gr2, w0, w1, w2, w3, z0, z1, z2, awake_of, pcl_len, pcl_ok, pcl_tk, pp_st, setR_length, List.length_cons, List.length_nil, Fin, isEnd, resL, res1]
        exact ⟨_, rfl, rfl, fun k hk => by simp only [ne_nb hk, if_false]⟩
      · rw [if_neg s2] at gr2
        simp only [c3, G0, Nat.reduceAdd]
        simp only [↓R0, R1, simprocAttr, -Int.reduceAbs, rdS, gr1, gr2, w0, w1, w2, w3, z0, z1, z2, awake_of, pcl_len, pcl_ok, pcl_tk, pp_st, setR_length, List.length_cons, List.length_nil, Fin, isEnd, resL, res1]
        exact ⟨_, rfl, rfl, fun k hk => by simp only [ne_nb hk, if_false]⟩
  obtain ⟨s1, s2⟩ := s12
  rw [if_pos s1] at gr1
  rw [if_pos s2] at gr2
  have sx : pok 6 x := s2.2 x (by simp)
  have l16 : l.length ≤ 16 := s1.1
  have okl : ptsN l := s1.n
  have dn : ∀ a b : Int, decide (a ≠ b) = !decide (a = b) := fun a b => by by_cases h : a = b <;> simp [h]
  have hx0 : decPts ((N + 1, some ⟨26, 6, true, pcl x⟩) :: (N + 0, some ⟨26, 6, true, pcl x⟩) :: h) (.slice a l.length cc) = some l := ext_pts hN hx (fun k hk => by simp only [hget, nbN k hk, if_false])
  obtain ⟨a_1, D_1, mm_1, kc_1, gq_1, hV_1⟩ := norm_call (b := N + 2) hx0 okl
  obtain ⟨M1, hM⟩ : ∃ x, x = N + 2 + mm_1 := ⟨_, rfl⟩
  have eM : N + 2 + mm_1 = M1 + 0 := by omega
  rw [show N + 2 + mm_1 = M1 by omega] at hV_1
  generalize eHP_1 : D_1 ++ ((N + 1, some ⟨26, 6, true, pcl x⟩) :: (N + 0, some ⟨26, 6, true, pcl x⟩) :: h) = HP_1 at *
  have ac_1 : ∀ (d : Nat) (tm : List (Nat × Value)) (V : Value) (K : St → Prop), @aft (some d) (some (V, D_1, mm_1)) ⟨(⟨tm, (N + 1, some ⟨26, 6, true, pcl x⟩) :: (N + 0, some ⟨26, 6, true, pcl x⟩) :: h, N + 2⟩, K)⟩ = K ⟨(d, V) :: tm, HP_1, M1 + 0⟩ := fun _ _ _ _ => by rw [← eM, ← eHP_1]; exact propext Iff.rfl
  have hh1 : ExtL N h HP_1 := fun q hq => by
    rw [gq_1 q (by omega)]
    simp only [hget, nbN q hq, if_false]
  have b01 : hget HP_1 (N + 0) = some ⟨26, 6, true, pcl x⟩ := by
    rw [gq_1 _ (by omega)]
    simp only [hget, show (N + 1 = N + 0) = False from eq_false (by omega), if_false, if_true]
  have okc := nm_can s1
  obtain ⟨of1, of2⟩ := or_facts l I0 bk
  simp only [c3, G0, Nat.reduceAdd]
  simp only [↓R0, R1, simprocAttr, -Int.reduceAbs, rdS, gr1, gr2, w0, w1, w2, w3, z0, z1, z2, kc_1, ac_1, dn, pcl_len, pcl_ok, pcl_tk, pp_st, setR_length, List.length_cons, List.length_nil, Bool.not_true, Bool.not_false]
  clear w0 w1 w2 w3
  refine lp_parts (fun c tm hp nx => ∃ (i M kk : Nat) (xx : Bool), c + i = l.length ∧ tmget tm 0 = .slice a l.length cc ∧ tmget tm 1 = .int .u8 (I0 : Nat) ∧ tmget tm 2 = .bool bk ∧ tmget tm 7 = .pointer (some ⟨N + 0, 0, none⟩) ∧ tmget tm 9 = .slice a_1 (nmOut (pvs l)).2.length (nmOut (pvs l)).2.length ∧ tmget tm 10 = .int .i64 (nmOut (pvs l)).1 ∧ tmget tm 33 = .int .i64 l.length ∧ tmget tm 34 = .int .i64 (i : Nat) ∧
      tmget tm 11 = .slice (some ⟨kk, 0, none⟩) i i ∧ hget hp kk = some ⟨26, 6, xx, ptC (orT l I0 bk i)⟩ ∧ M1 ≤ kk ∧ kk < M ∧ ExtL M1 HP_1 hp ∧ nx = M + 0) ?_ l.length
    ⟨0, M1 + 1, M1 + 0, true, by omega, ?_, ?_, ?_, ?_, ?_, ?_, ?_, ?_, ?_, ?_, by omega, by omega, ?_, rfl⟩
  rotate_left
  all_goals first | (simp only [↓R0, R1, simprocAttr, -Int.reduceAbs]; done) | (simp only [↓R0, R1, simprocAttr, -Int.reduceAbs]; rfl) | skip
  · intro q hq
    have nb : ∀ d, (M1 + d = q) = False := fun d => eq_false (by omega)
    simp only [↓R0, R1, simprocAttr, -Int.reduceAbs, nb]
  rintro c tm hp nx ⟨i, M, kk, xx, hc, t0, t1, t2, t7, t9, t10, t33, t34, t11, hkk, g1, g2, hx1, hnx⟩
  rw [hnx]
  clear hnx nx
  have hh : ExtL N h hp := fun q hq => by rw [hx1 q (by omega)]; exact hh1 q hq
  have b0 : hget hp (N + 0) = some ⟨26, 6, true, pcl x⟩ := by rw [hx1 _ (by omega)]; exact b01
  by_cases c1 : i < l.length
  case pos =>
    have c1' : ((i : Int) < (l.length : Int)) = True := eq_true (by omega)
    have w1 : IntKind.i64.wrap ((i : Int) + 1) = ((i + 1 : Nat) : Int) := by rw [i64_in _ (by omega)]; omega
    have wa : IntKind.i64.wrap (I0 : Int) = (I0 : Int) := i64_in _ (by omega)
    have wb : IntKind.i64.wrap ((i : Int) + (I0 : Int)) = ((i + I0 : Nat) : Int) := by rw [i64_in _ (by omega)]; omega
    have tb : Int.tmod ((i + I0 : Nat) : Int) (l.length : Int) = (((i + I0) % l.length : Nat) : Int) := rfl
    have hmod : (i + I0) % l.length < l.length := Nat.mod_lt _ (by omega)
    have wc : IntKind.i64.wrap ((l.length : Int) - 1) = ((l.length - 1 : Nat) : Int) := by rw [i64_in _ (by omega)]; omega
    have wd : IntKind.i64.wrap (((l.length - 1 : Nat) : Int) - (((i + I0) % l.length : Nat) : Int)) = ((l.length - 1 - (i + I0) % l.length : Nat) : Int) := by rw [i64_in _ (by omega)]; omega
    have y1 : ((l.length : Int) = 0) = False := eq_false (by omega)
    have y2 : (l.length = 0) = False := eq_false (by omega)
    have ho : oxI l.length I0 bk i < l.length := by unfold oxI; split <;> omega
    have ho' : ((oxI l.length I0 bk i : Int) < (l.length : Int)) = True := eq_true (by omega)
    obtain ⟨k, off, blk, rfl, hb, q1, q2⟩ := pts_at hx ho
    have hk := hN _ _ hb
    have hbb : hget hp k = some blk := by rw [hh k hk]; exact hb
    have nk : ∀ d, (M + d = k) = False := fun d => eq_false (by omega)
    have nk' : ∀ d, (k = M + d) = False := fun d => eq_false (by omega)
    have eS : ptC (orT l I0 bk (i + 1)) = ptC (orT l I0 bk i) ++ pcl (pqAt l (oxI l.length I0 bk i)) := by rw [orT_s]; exact ptC_snoc _ _
    have pl := ptC_len (orT l I0 bk i)
    rw [orT_len] at pl
    have hkq : ∀ d, (M + d = kk) = False := fun d => eq_false (by omega)
    have hkq' : ∀ d, (kk = M + d) = False := fun d => eq_false (by omega)
    have npp : (i + 1 ≤ i) = False := eq_false (by omega)
    have ovr : ((i + 1) * 80 ≤ 140737488355328) = True := eq_true (by omega)
    have hkk2 : (kk = k) = False := eq_false (by omega)
    generalize ptC (orT l I0 bk i) = O0 at *
    generalize pqAt l (oxI l.length I0 bk i) = A at *
    cases bk with
    | true =>
      have eo : oxI l.length I0 true i = l.length - 1 - (i + I0) % l.length := rfl
      rw [eo] at ho ho' q1 q2
      generalize l.length - 1 - (i + I0) % l.length = m at *
      simp only [↓R0, R1, simprocAttr, -Int.reduceAbs, t0, t1, t2, t7, t9, t10, t11, t33, t34, c1, c1', hbb, nk, nk', q1, q2, ho, ho', w1, wa, wb, wc, wd, tb, y1, y2, hkk, pl, hkq, hkq', hkk2, npp, ovr, pcl_len, pcl_ok, pcl_tk, pp_st, setR_length]
      refine ⟨c - 1, by omega, i + 1, M + 2, M + 1, false, by omega, rfl, rfl, ?_, by omega, by omega, fun q hq => ?_, rfl⟩
      · rw [if_pos rfl, eS]
      · have nb : ∀ d, (M + d = q) = False := fun d => eq_false (by omega)
        have nk2 : (kk = q) = False := eq_false (by omega)
        simp only [↓R0, R1, simprocAttr, -Int.reduceAbs, nb, nk2]
        exact hx1 q hq
    | false =>
      have eo : oxI l.length I0 false i = (i + I0) % l.length := rfl
      rw [eo] at ho ho' q1 q2
      generalize (i + I0) % l.length = m at *
      simp only [↓R0, R1, simprocAttr, -Int.reduceAbs, t0, t1, t2, t7, t9, t10, t11, t33, t34, c1, c1', hbb, nk, nk', q1, q2, ho, ho', w1, wa, wb, wc, wd, tb, y1, y2, hkk, pl, hkq, hkq', hkk2, npp, ovr, pcl_len, pcl_ok, pcl_tk, pp_st, setR_length]
      refine ⟨c - 1, by omega, i + 1, M + 2, M + 1, false, by omega, rfl, rfl, ?_, by omega, by omega, fun q hq => ?_, rfl⟩
      · rw [if_pos rfl, eS]
      · have nb : ∀ d, (M + d = q) = False := fun d => eq_false (by omega)
        have nk2 : (kk = q) = False := eq_false (by omega)
        simp only [↓R0, R1, simprocAttr, -Int.reduceAbs, nb, nk2]
        exact hx1 q hq
  have e : i = l.length := by omega
  subst e
  have c1' : ((l.length : Int) < (l.length : Int)) = False := eq_false (by omega)
  have lm := orT_len l I0 bk l.length
  have hy : decPts hp (.slice (some ⟨kk, 0, none⟩) l.length l.length) = some (orT l I0 bk l.length) := pts_list hkk lm
  have okm : ptsN (orT l I0 bk l.length) := ⟨by omega, or_ok okl.2⟩
  obtain ⟨a_2, D_2, mm_2, kc_2, gq_2, hV_2⟩ := norm_call (b := M + 0) hy okm
  obtain ⟨M_2, hM_2⟩ : ∃ x, x = M + 0 + mm_2 := ⟨_, rfl⟩
  have eM_2 : M + 0 + mm_2 = M_2 + 0 := by omega
  rw [show M + 0 + mm_2 = M_2 by omega] at hV_2
  rw [of1] at kc_2 hV_2
  generalize eHP_2 : D_2 ++ hp = HP_2 at *
  have ac_2 : ∀ (d : Nat) (tm : List (Nat × Value)) (V : Value) (K : St → Prop), @aft (some d) (some (V, D_2, mm_2)) ⟨(⟨tm, hp, M + 0⟩, K)⟩ = K ⟨(d, V) :: tm, HP_2, M_2 + 0⟩ := fun _ _ _ _ => by rw [← eM_2, ← eHP_2]; exact propext Iff.rfl
  have hh2 : ExtL N h HP_2 := fun q hq => by rw [gq_2 q (by omega)]; exact hh q hq
  have b0' : hget HP_2 (N + 0) = some ⟨26, 6, true, pcl x⟩ := by rw [gq_2 _ (by omega)]; exact b0
  have hA := hV_1 HP_2 (fun q hq => by rw [gq_2 q (by omega)]; exact hx1 q hq)
  have hB := hV_2 HP_2 (fun q hq => rfl)
  have sm := same26_of hA hB okc.1
  rw [decide_eq_true rfl] at sm
  by_cases z : (nmOut (pvs l)).1 = 0
  case neg =>
    have z' := eq_false z
    have nl := nm_nil z
    generalize nmOut (pvs l) = r at *
    rw [nl] at sm kc_2 t9
    simp only [↓R0, R1, simprocAttr, -Int.reduceAbs, rdS, t0, t1, t2, t7, t9, t10, t11, t33, t34, c1', kc_2, ac_2, sm, dn, z', awake_of, Bool.not_true, Bool.not_false, Fin, isEnd, resL, res1]
    exact ⟨_, rfl, rfl, hh2⟩
  have z' := eq_true z
  obtain ⟨apos, aeq⟩ := nm_ar z
  have hx2 : decPts HP_2 (.slice a l.length cc) = some l := ext_pts hN hx hh2
  have hy2 : decPts HP_2 (.slice (some ⟨kk, 0, none⟩) l.length l.length) = some (orT l I0 bk l.length) := pts_list (by rw [gq_2 _ (by omega)]; exact hkk) lm
  have nb2 : ∀ q, q < M_2 → ∀ d, (M_2 + d = q) = False := fun q hq d => eq_false (by omega)
  have sC := ar_RB okc.ok
  have sL := ar_RB okl.ok
  have sgC := qsign_of sC (by omega)
  rw [map_pqo] at sC sgC
  have pC : (sg (ar2 (nmOut (pvs l)).2 / 2) > 0) = True := eq_true (sg_gt.2 (by grind))
  have ngL := qneg_of sL (by omega)
  have cqN := ceqQ (RQ.of (ar2 (nmOut (pvs l)).2 / 2))
  have cq3 := ceq3 (RQ.of (ar2 (nmOut (pvs l)).2 / 2)) (RQ.of (ar2 (pvs l) / 2))
  have arA := area2_of hA okc.ok
  rw [map_pqo] at arA
  have arL : ∀ b1 b2 : Option Blk, spArea2 [.slice a l.length cc] ((M_2 + 0, b1) :: (M_2 + 0, b2) :: HP_2) = some (.agg ⟨(RQ.of (ar2 (pvs l) / 2)).cells⟩) := fun b1 b2 => area2_of (ext_pts hN hx (fun k hk => by simp only [hget, nb2 k (by omega), if_false]; exact hh2 k hk)) okl.ok
  have cl1 : ∀ b1 b2 b3 b4 : Option Blk, spCls2 [.slice a l.length cc, .agg ⟨pcl x⟩] ((M_2 + 1, b1) :: (M_2 + 1, b2) :: (M_2 + 0, b3) :: (M_2 + 0, b4) :: HP_2) = some (.int .i64 (clsP (pvs l) (pv2 x))) := fun b1 b2 b3 b4 => cls2_of (ext_pts hN hx (fun k hk => by simp only [hget, nb2 k (by omega), if_false]; exact hh2 k hk)) okl.ok (sx.le (by omega))
  have cl2 : ∀ b1 b2 b3 b4 : Option Blk, spCls2 [.slice (some ⟨kk, 0, none⟩) l.length l.length, .agg ⟨pcl x⟩] ((M_2 + 1, b1) :: (M_2 + 1, b2) :: (M_2 + 0, b3) :: (M_2 + 0, b4) :: HP_2) = some (.int .i64 (clsP (pvs l) (pv2 x))) := fun b1 b2 b3 b4 => by
    rw [cls2_of (pts_list (by simp only [hget, nb2 kk (by omega), if_false]; rw [gq_2 _ (by omega)]; exact hkk) lm) okm.ok (sx.le (by omega)), of2]
  have nM0 : ∀ d, (M_2 + d = N + 0) = False := fun d => eq_false (by omega)
  have nM0' : ∀ d, (M_2 + d = N) = False := fun d => eq_false (by omega)
  by_cases same : ar2 (nmOut (pvs l)).2 = ar2 (pvs l)
  · rw [same] at cq3 pC sgC cqN arA
    generalize RQ.of (ar2 (pvs l) / 2) = QL at *
    generalize RQ.of (-(ar2 (pvs l) / 2)) = QN at *
    generalize sg (ar2 (pvs l) / 2) = SC at *
    generalize clsP (pvs l) (pv2 x) = CLS at *
    generalize nmOut (pvs l) = r at *
    simp only [↓R0, R1, simprocAttr, -Int.reduceAbs, rdS, t0, t1, t2, t7, t9, t10, t11, t33, t34, c1', kc_2, ac_2, sm, dn, z', arA, arL, sgC, pC, ngL, cqN, cl1, cl2, nM0, nM0', b0', awake_of, pcl_len, pcl_ok, pcl_tk, q_len, q_ok, q_tk, q_st, q_st', Bool.not_true, Bool.not_false, Fin, isEnd, resL, res1]
    refine ⟨_, rfl, rfl, fun q hq => ?_⟩
    have nb := nb2 q (by omega)
    simp only [↓R0, R1, simprocAttr, -Int.reduceAbs, nb]
    exact hh2 q hq
  · have opp : ar2 (nmOut (pvs l)).2 = - ar2 (pvs l) := aeq.resolve_left same
    have eN : -(ar2 (pvs l) / 2) = ar2 (nmOut (pvs l)).2 / 2 := by rw [opp]; grind
    rw [eN] at ngL
    have ne : RQ.of (ar2 (nmOut (pvs l)).2 / 2) ≠ RQ.of (ar2 (pvs l) / 2) := fun e => by
      have := congrArg RQ.v e
      rw [RQ.of_v, RQ.of_v] at this
      exact same (by grind)
    rw [decide_eq_false ne] at cq3
    generalize RQ.of (ar2 (pvs l) / 2) = QL at *
    generalize RQ.of (ar2 (nmOut (pvs l)).2 / 2) = QC at *
    generalize sg (ar2 (nmOut (pvs l)).2 / 2) = SC at *
    generalize clsP (pvs l) (pv2 x) = CLS at *
    generalize nmOut (pvs l) = r at *
    simp only [↓R0, R1, simprocAttr, -Int.reduceAbs, rdS, t0, t1, t2, t7, t9, t10, t11, t33, t34, c1', kc_2, ac_2, sm, dn, z', arA, arL, sgC, pC, ngL, cqN, cq3, cl1, cl2, nM0, nM0', b0', awake_of, pcl_len, pcl_ok, pcl_tk, q_len, q_ok, q_tk, q_st, q_st', Bool.not_true, Bool.not_false, Fin, isEnd, resL, res1]
    refine ⟨_, rfl, rfl, fun q hq => ?_⟩
    have nb := nb2 q (by omega)
    simp only [↓R0, R1, simprocAttr, -Int.reduceAbs, nb]
    exact hh2 q hq
end Go.Eng
end
section
set_option linter.unusedVariables false
set_option linter.unusedSimpArgs false
set_option linter.unusedSectionVars false
namespace Go.Eng.K
open Go.Eng
inductive Ki where
  | b | i (k : IntKind) | s
def kiFs (ty : TypeId → Option (List Ki)) (P : Program) : List Field → Nat → Option (List Ki)
  | [], _ => some []
  | f :: r, off =>
    if f.name ≠ "_" ∧ f.offset = off then
      match ty f.type, szOf P f.type with
      | some ks, some n => if ks.length = n then (kiFs ty P r (off + n)).map (ks ++ ·) else none
      | _, _ => none
    else none
def kiTy (P : Program) : Nat → TypeId → Option (List Ki)
  | 0, _ => none
  | d + 1, t =>
    match P.underlying t with
    | some .bool => some [.b]
    | some (.int k) => some [.i k]
    | some .string => some [.s]
    | some (.struct fs) => if P.stoodInHeld t then none else kiFs (kiTy P d) P fs.toList 0
    | some (.array len e) => match kiTy P d e, szOf P e with
      | some ks, some n => if ks.length = n then some (List.replicate len ks).flatten else none
      | _, _ => none
    | _ => none
def kmatch : List Ki → List Value → Prop
  | [], [] => True
  | .b :: ks, .bool _ :: r => kmatch ks r
  | .i k :: ks, .int k' n :: r => (k' = k ∧ (Lit.int k n).wf = true) ∧ kmatch ks r
  | .s :: ks, .string s :: r => s.size ≤ maxLen ∧ kmatch ks r
  | _, _ => False
theorem kmatch_append : ∀ {ks ks' : List Ki} {cs cs' : List Value}, kmatch ks cs → kmatch ks' cs' → kmatch (ks ++ ks') (cs ++ cs')
  | [], _, [], _, _, h => h
  | [], _, _ :: _, _, h, _ => h.elim
  | .b :: ks, ks', cs, cs', h, h' => by
    match cs, h with
    | .bool _ :: r, h => exact kmatch_append (ks := ks) h h'
  | .i k :: ks, ks', cs, cs', h, h' => by
    match cs, h with
    | .int _ _ :: r, h => exact ⟨h.1, kmatch_append (ks := ks) h.2 h'⟩
  | .s :: ks, ks', cs, cs', h, h' => by
    match cs, h with
    | .string _ :: r, h => exact ⟨h.1, kmatch_append (ks := ks) h.2 h'⟩
section
variable {H : Type} {enc : TypeId × Value → H} {P : Program}
theorem cellsOf_sz {t : TypeId} {n : Nat} (h : szOf P t = some n) : P.cellsOf t = n := by
  unfold Program.cellsOf; unfold szOf at h; rw [h]; rfl
def Plain (P : Program) (enc : TypeId × Value → H) (fuel : Nat) (t : TypeId) (ks : List Ki) : Prop :=
  ∀ (w : World) (base : Nat) (spare : Nat → Bool) (held : Bool) (cs : List Value) (x : DataW H × List MemPlace), DataW.trod enc P w base spare held fuel t cs = some x →
    kmatch ks cs ∧ x.2 = [] ∧ ∀ w' base' spare' held', DataW.trod enc P w' base' spare' held' fuel t cs = some x
theorem plain_fields {fuel : Nat} {ty : TypeId → Option (List Ki)} (hty : ∀ t ks n, ty t = some ks → szOf P t = some n → ks.length = n → Plain P enc fuel t ks) :
    ∀ (fs : List Field) (off : Nat) (ks : List Ki), kiFs ty P fs off = some ks → ∀ (w : World) (base : Nat) (spare : Nat → Bool) (held : Bool) (cs : List Value) (xs : List (DataW H × List MemPlace)),
      (fs.mapM fun f => DataW.trod enc P w base spare held fuel f.type ((cs.drop f.offset).take (P.cellsOf f.type))) = some xs → cs.length = off + ks.length →
      kmatch ks (cs.drop off) ∧ xs.flatMap (·.2) = [] ∧ ∀ w' base' spare' held', (fs.mapM fun f => DataW.trod enc P w' base' spare' held' fuel f.type ((cs.drop f.offset).take (P.cellsOf f.type))) = some xs
  | [], off, ks, h, w, base, spare, held, cs, xs, hm, hl => by
    simp only [kiFs, Option.some.injEq] at h
    subst h
    simp only [List.mapM_nil, Option.pure_def, Option.some.injEq] at hm
    subst hm
    simp only [List.length_nil, Nat.add_zero] at hl
    rw [List.drop_eq_nil_of_le (by omega)]
    exact ⟨trivial, rfl, fun _ _ _ _ => rfl⟩
  | f :: r, off, ks, h, w, base, spare, held, cs, xs, hm, hl => by
    simp only [kiFs] at h
    split at h
    case isFalse => cases h
    rename_i hc
    obtain ⟨_, hoff⟩ := hc
    split at h
    case h_2 => cases h
    rename_i ks0 n hk hn
    split at h
    case isFalse => cases h
    rename_i hlen
    rw [Option.map_eq_some_iff] at h
    obtain ⟨ks1, h1, rfl⟩ := h
    have hsz := cellsOf_sz hn
    simp only [List.mapM_cons, Option.bind_eq_bind, Option.bind_eq_some_iff, Option.pure_def, Option.some.injEq] at hm
    obtain ⟨y, hy, ys, hys, rfl⟩ := hm
    have hp := hty f.type ks0 n hk hn hlen w base spare held _ y hy
    obtain ⟨p1, p2, p3⟩ := hp
    simp only [List.length_append] at hl
    obtain ⟨q1, q2, q3⟩ := plain_fields hty r (off + n) ks1 h1 w base spare held cs ys hys (by omega)
    rw [hoff, hsz] at p1
    refine ⟨?_, ?_, ?_⟩
    · have e : cs.drop off = (cs.drop off).take n ++ cs.drop (off + n) := by
        rw [← List.drop_drop, List.take_append_drop]
      rw [e]
      exact kmatch_append p1 q1
    · simp only [List.flatMap_cons, p2, q2, List.nil_append]
    · intro w' base' spare' held'
      simp only [List.mapM_cons, Option.bind_eq_bind, Option.bind_eq_some_iff, Option.pure_def, Option.some.injEq]
      exact ⟨y, p3 w' base' spare' held', ys, q3 w' base' spare' held', rfl⟩
theorem plain_elems {fuel : Nat} {e : TypeId} {ks : List Ki} {n : Nat} (hn : szOf P e = some n) (hl : ks.length = n) (he : Plain P enc fuel e ks) :
    ∀ (m i0 : Nat) (w : World) (base : Nat) (spare : Nat → Bool) (held : Bool) (cs : List Value) (xs : List (DataW H × List MemPlace)),
      ((List.range' i0 m).mapM fun i => DataW.trod enc P w base spare held fuel e ((cs.drop (i * P.cellsOf e)).take (P.cellsOf e))) = some xs → cs.length = (i0 + m) * n →
      kmatch (List.replicate m ks).flatten (cs.drop (i0 * n)) ∧ xs.flatMap (·.2) = [] ∧ ∀ w' base' spare' held', ((List.range' i0 m).mapM fun i => DataW.trod enc P w' base' spare' held' fuel e ((cs.drop (i * P.cellsOf e)).take (P.cellsOf e))) = some xs
  | 0, i0, w, base, spare, held, cs, xs, hm, hlen => by
    simp only [List.range'_zero, List.mapM_nil, Option.pure_def, Option.some.injEq] at hm
    subst hm
    simp only [Nat.add_zero] at hlen
    rw [List.drop_eq_nil_of_le (by omega)]
    exact ⟨trivial, rfl, fun _ _ _ _ => by simp⟩
  | m + 1, i0, w, base, spare, held, cs, xs, hm, hlen => by
    have hsz := cellsOf_sz hn
    simp only [List.range'_succ, List.mapM_cons, Option.bind_eq_bind, Option.bind_eq_some_iff, Option.pure_def, Option.some.injEq] at hm
    obtain ⟨y, hy, ys, hys, rfl⟩ := hm
    obtain ⟨p1, p2, p3⟩ := he w base spare held _ y hy
    obtain ⟨q1, q2, q3⟩ := plain_elems hn hl he m (i0 + 1) w base spare held cs ys hys (by rw [hlen]; congr 1; omega)
    rw [hsz] at p1
    refine ⟨?_, ?_, ?_⟩
    · rw [List.replicate_succ, List.flatten_cons]
      have e : cs.drop (i0 * n) = (cs.drop (i0 * n)).take n ++ cs.drop ((i0 + 1) * n) := by
        rw [Nat.succ_mul, ← List.drop_drop, List.take_append_drop]
      rw [e]
      exact kmatch_append p1 q1
    · simp only [List.flatMap_cons, p2, q2, List.nil_append]
    · intro w' base' spare' held'
      simp only [List.range'_succ, List.mapM_cons, Option.bind_eq_bind, Option.bind_eq_some_iff, Option.pure_def, Option.some.injEq]
      exact ⟨y, p3 w' base' spare' held', ys, q3 w' base' spare' held', rfl⟩
theorem plain_ty : ∀ (fuel d : Nat) (t : TypeId) (ks : List Ki) (n : Nat), kiTy P d t = some ks → szOf P t = some n → ks.length = n → Plain P enc fuel t ks
  | 0, d, t, ks, n, h, hn, hl => by intro w base spare held cs x hx; simp [DataW.trod] at hx
  | fuel + 1, 0, t, ks, n, h, hn, hl => by simp [kiTy] at h
  | fuel + 1, d + 1, t, ks, n, h, hn, hl => by
    intro w base spare held cs x hx
    unfold kiTy at h
    unfold DataW.trod at hx ⊢
    split at h
    · rename_i hu
      cases h
      rw [hu] at hx ⊢
      match cs, hx with
      | [.bool b], hx => simp only [Option.some.injEq] at hx; subst hx; exact ⟨trivial, rfl, fun _ _ _ _ => rfl⟩
    · rename_i k hu
      cases h
      rw [hu] at hx ⊢
      match cs, hx with
      | [.int k' m], hx =>
        simp only at hx
        split at hx
        · rename_i hc
          simp only [Option.some.injEq] at hx; subst hx
          exact ⟨⟨hc, trivial⟩, rfl, fun _ _ _ _ => by simp only; rw [if_pos hc]⟩
        · cases hx
    · rename_i hu
      cases h
      rw [hu] at hx ⊢
      match cs, hx with
      | [.string s], hx =>
        simp only at hx
        split at hx
        · rename_i hc
          simp only [Option.some.injEq] at hx; subst hx
          exact ⟨⟨hc, trivial⟩, rfl, fun _ _ _ _ => by simp only; rw [if_pos hc]⟩
        · cases hx
    · rename_i fs hu
      split at h
      · cases h
      rw [hu] at hx ⊢
      simp only at hx ⊢
      split at hx
      case isFalse => cases hx
      rename_i hlen
      rw [Option.map_eq_some_iff] at hx
      obtain ⟨xs, hxs, rfl⟩ := hx
      rw [cellsOf_sz hn, ← hl] at hlen
      obtain ⟨p1, p2, p3⟩ := plain_fields (fuel := fuel) (fun t ks n h1 h2 h3 => plain_ty fuel d t ks n h1 h2 h3) fs.toList 0 ks h w base spare held cs xs hxs (by omega)
      refine ⟨by simpa using p1, p2, fun w' base' spare' held' => ?_⟩
      rw [if_pos (by rw [cellsOf_sz hn, ← hl, hlen]), p3]; rfl
    · rename_i len e hu
      split at h
      case h_2 => cases h
      rename_i ks0 m hk hm
      split at h
      case isFalse => cases h
      rename_i hlm
      simp only [Option.some.injEq] at h
      subst h
      rw [hu] at hx ⊢
      simp only at hx ⊢
      split at hx
      case isFalse => cases hx
      rename_i hlen
      rw [Option.map_eq_some_iff] at hx
      obtain ⟨xs, hxs, rfl⟩ := hx
      rw [cellsOf_sz hn, ← hl] at hlen
      rw [List.range_eq_range'] at hxs
      have hfl : ((List.replicate len ks0).flatten).length = len * m := by rw [List.length_flatten]; simp [hlm]
      obtain ⟨p1, p2, p3⟩ := plain_elems hm hlm (plain_ty fuel d e ks0 m hk hm hlm) len 0 w base spare held cs xs hxs (by rw [hlen, hfl, Nat.zero_add])
      refine ⟨by simpa using p1, p2, fun w' base' spare' held' => ?_⟩
      rw [if_pos (by rw [cellsOf_sz hn, ← hl, hlen]), List.range_eq_range', p3]; rfl
    · cases h
theorem trod_plain {w : World} {t : TypeId} {v : Value} {d : DataW H} {ps : List MemPlace} {ks : List Ki} {n : Nat} {base : Nat} {spare : Nat → Bool} {held : Bool}
    (hf : kiTy P 20 t = some ks) (hs : szOf P t = some n) (hl : ks.length = n) (h : DataW.Trod enc P w base spare held t v d ps) :
    kmatch ks v.cells.toList ∧ ps = [] ∧ ∀ w' base' spare' held', DataW.Trod enc P w' base' spare' held' t v d ps := by
  obtain ⟨fuel, h⟩ := h
  obtain ⟨p1, p2, p3⟩ := plain_ty fuel 20 t ks n hf hs hl w base spare held _ _ h
  exact ⟨p1, p2, fun w' base' spare' held' => ⟨fuel, p3 w' base' spare' held'⟩⟩
end
theorem agg_of {v : Value} {cs : List Value} (h : v.cells.toList = cs) (h2 : 2 ≤ cs.length) : v = .agg ⟨cs⟩ := by
  rw [vcells_eq] at h
  cases v <;> simp [vcells] at h <;> subst h <;> first | rfl | simp at h2
theorem wf_u8 {n : Int} (h : (Lit.int .u8 n).wf = true) : 0 ≤ n ∧ n ≤ 255 := by simpa [Lit.wf, IntKind.min, IntKind.max, IntKind.signed, IntKind.bits] using h
end Go.Eng.K
end
section
set_option linter.unusedVariables false
set_option linter.unusedSimpArgs false
set_option linter.unusedSectionVars false
namespace Go.Eng.K
open Go.Eng
theorem vr_ex (β : Emb) : ∀ v : Value, ∃ a, VR β a v := by
  have key : ∀ (n : Nat) (v : Value), SizeOf.sizeOf v < n → ∃ a, VR β a v := by
    intro n
    induction n with
    | zero => intro v h; omega
    | succ n ih =>
      intro v h
      have list : ∀ l : List Value, (∀ x ∈ l, SizeOf.sizeOf x < n) → ∃ bs, VRs β bs l := by
        intro l
        induction l with
        | nil => intro _; exact ⟨[], .nil⟩
        | cons x r ihl =>
          intro hx
          obtain ⟨a, ha⟩ := ih x (hx x (List.mem_cons_self ..))
          obtain ⟨bs, hs⟩ := ihl (fun y hy => hx y (List.mem_cons_of_mem _ hy))
          exact ⟨a :: bs, .cons _ _ _ _ ha hs⟩
      by_cases ho : okCell v = true
      · exact ⟨.chan none, .junk none v ho⟩
      · match v, ho, h with
        | .agg ⟨l⟩, _, h =>
          obtain ⟨bs, hs⟩ := list l (fun x hx => by
            have := List.sizeOf_lt_of_mem hx
            simp only [Value.agg.sizeOf_spec, Array.mk.sizeOf_spec] at h
            omega)
          exact ⟨.agg ⟨bs⟩, .agg _ _ hs⟩
        | .tuple ⟨l⟩, _, h =>
          obtain ⟨bs, hs⟩ := list l (fun x hx => by
            have := List.sizeOf_lt_of_mem hx
            simp only [Value.tuple.sizeOf_spec, Array.mk.sizeOf_spec] at h
            omega)
          exact ⟨.tuple ⟨bs⟩, .tup _ _ hs⟩
  exact fun v => key (SizeOf.sizeOf v + 1) v (Nat.lt_succ_self _)
def mirE (W : World) : Emb := fun k => if k < W.heap.size then some ⟨k, 0, []⟩ else none
open Classical in
noncomputable def absV (W : World) (v : Value) : Value :=
  match v with
  | .slice (some a) len cap =>
    if len = 0 then .slice (some ⟨0, 0, some 1⟩) 0 0
    else if a.spot = none ∧ a.block < W.heap.size then .slice (some a) len cap
    else Classical.choose (vr_ex (mirE W) (.slice (some a) len cap))
  | v => if isBase v = true then v else Classical.choose (vr_ex (mirE W) v)
theorem absV_vr (W : World) (v : Value) : VR (mirE W) (absV W v) v := by
  unfold absV
  split
  · rename_i a len cap
    split
    · rename_i h; subst h; exact .sle _ _
    · split
      · rename_i h
        obtain ⟨b, off, s⟩ := a
        obtain ⟨h1, h2⟩ := h
        simp only at h1 h2
        subst h1
        exact VR.sl b off len cap ⟨b, 0, []⟩ (by unfold mirE; rw [if_pos h2])
      · exact Classical.choose_spec (vr_ex (mirE W) _)
  · split
    · rename_i h; exact .base _ h
    · exact Classical.choose_spec (vr_ex (mirE W) _)
theorem absV_base {W : World} {v : Value} (h : isBase v = true) : absV W v = v := by
  unfold absV
  split
  · simp [isBase] at h
  · rw [if_pos h]
theorem absV_map (W : World) : ∀ l : List Value, VRs (mirE W) (l.map (absV W)) l
  | [] => .nil
  | v :: r => .cons _ _ _ _ (absV_vr W v) (absV_map W r)
theorem absV_bases {W : World} : ∀ {l : List Value}, l.all isBase = true → l.map (absV W) = l
  | [], _ => rfl
  | v :: r, h => by
    simp only [List.all_cons, Bool.and_eq_true] at h
    rw [List.map_cons, absV_base h.1, absV_bases h.2]
noncomputable def mirB (W : World) (b : Nat) : Option Blk :=
  match W.heap[b]? with
  | some (.cells c elem _) => some ⟨elem, 0, true, c.toList.map (absV W)⟩
  | _ => none
noncomputable def mirror (W : World) : Heap := (List.range W.heap.size).map fun b => (b, mirB W b)
theorem hget_map {f : Nat → Option Blk} {k : Nat} : ∀ (l : List Nat), hget (l.map fun b => (b, f b)) k = if k ∈ l then f k else none
  | [] => rfl
  | b :: r => by
    simp only [List.map_cons, hget]
    by_cases e : b = k
    · subst e; simp
    · rw [if_neg e, hget_map r]
      simp [Ne.symm e]
theorem mir_get (W : World) (k : Nat) : hget (mirror W) k = mirB W k := by
  unfold mirror
  rw [hget_map]
  by_cases h : k < W.heap.size
  · rw [if_pos (List.mem_range.2 h)]
  · rw [if_neg (by simpa using h)]
    unfold mirB
    rw [Array.getElem?_eq_none (by omega)]
theorem mir_blk {W : World} {k : Nat} {blk : Blk} (h : hget (mirror W) k = some blk) : k < W.heap.size ∧ ∃ C fr, W.heap[k]? = some (.cells ⟨C⟩ blk.elem fr) ∧ blk.sz = 0 ∧ blk.cells = C.map (absV W) := by
  rw [mir_get] at h
  unfold mirB at h
  split at h
  · rename_i c elem fr hk
    cases h
    refine ⟨?_, c.toList, fr, hk, rfl, rfl⟩
    rcases Nat.lt_or_ge k W.heap.size with h | h
    · exact h
    · rw [Array.getElem?_eq_none h] at hk; cases hk
  · cases h
theorem mir_wr {W : World} {k : Nat} : ¬ wr (mirror W) k := fun ⟨blk, h1, h2⟩ => by
  obtain ⟨_, C, fr, _, h3, _⟩ := mir_blk h1
  exact h2 h3
theorem mir_rel (W : World) : Rel (mirE W) (mirror W) W := by
  refine ⟨fun k blk hk => ?_, fun k k' L L' _ b => absurd b mir_wr, fun k L h => ?_⟩
  · obtain ⟨h1, C, fr, h2, h3, h4⟩ := mir_blk hk
    refine ⟨⟨k, 0, []⟩, C, fr, by unfold mirE; rw [if_pos h1], by simpa using h2, fun h => absurd h3 h, by rw [h4]; exact absV_map W C, by simp, fun _ => rfl⟩
  · unfold mirE at h
    split at h
    · rename_i hk; cases h; exact hk
    · cases h
theorem mir_calls {P : Program} {f : Nat} {S : List Value → Heap → Nat → Option Out} (hS : SpecOK P f S) {W : World} {aargs args : List Value} {v : Value} (h : S aargs (mirror W) W.heap.size = some (v, [], 0))
    (ha : VRs (mirE W) aargs args) (hv : isBase v = true) :
    Calls P f ⟨args⟩ W fun e W' => e = .returned v ∧ W'.os = W.os ∧ W'.output = W.output ∧ ∀ b, b < W.heap.size → W'.heap[b]? = W.heap[b]? := by
  have h := hS.ok aargs (mirror W) W.heap.size (v, [], 0) h (mirE W) W args ha (mir_rel W) (fun k h1 h2 => by simp only at h2; omega)
    ⟨W.heap.size, fun k hk => by
      rcases Nat.lt_or_ge k W.heap.size with h | h
      · exact h
      · exact absurd (by unfold mirE; rw [if_neg (by omega)]) hk⟩
  refine h.mono ?_
  rintro e W' ⟨β', v', he, hvr, hrel, hfr, _⟩
  exact ⟨by rw [he, hvr.base_left hv], hfr.os, hfr.out, fun b hb => hfr.keep b hb (fun k L hk => absurd hk mir_wr)⟩
theorem kept_of {W W' : World} (h1 : W'.os = W.os) (h2 : W'.output = W.output) (h3 : ∀ b, b < W.heap.size → W'.heap[b]? = W.heap[b]?) : W.keptBut W' (fun _ => False) := by
  refine ⟨h1, h2, fun i hi => ?_⟩
  rw [h3 i hi]
  cases W.heap[i]? with
  | none => rfl
  | some o =>
    cases o with
    | cells c t fr => exact ⟨rfl, rfl, rfl, fun _ _ => rfl⟩
    | map es cl => exact .inr ⟨rfl, rfl⟩
    | _ => rfl
section
variable {H : Type} {enc : TypeId × Value → H} {P : Program}
theorem trodAll_old {W W' : World} (hs : ∀ b, b < W.heap.size → W'.heap[b]? = W.heap[b]?) {base : Nat} {sp : Nat → Bool} {held : Bool} :
    ∀ {ts : List TypeId} {vs : List Value} {ds : List (DataW H)} {ps : List MemPlace}, DataW.TrodAll enc P W base sp held ts vs ds ps → DataW.TrodAll enc P W' base sp held ts vs ds ps
  | [], [], [], _, h => h
  | t :: ts, v :: vs, d :: ds, ps, ⟨p, q, ⟨n, h1⟩, h2, e⟩ => by
    have lt := DataW.trod_lt n _ _ _ h1
    refine ⟨p, q, ⟨n, DataW.trod_carry n _ _ _ h1 (fun x hx => ?_)⟩, trodAll_old hs h2, e⟩
    have hb := lt x hx
    cases x with
    | cell b off => simp only [MemPlace.block] at hb; simp only [World.sameAt, World.cell?, hs b hb]
    | map b => simp only [MemPlace.block] at hb; simp only [World.sameAt, hs b hb]
  | [], [], _ :: _, _, h => h.elim
  | [], _ :: _, _, _, h => by cases h
  | _ :: _, [], _, _, h => by cases h
  | _ :: _, _ :: _, [], _, h => by cases h
theorem args_again {W W' : World} (hl : laidOutB P = true) (hm : mapsRowed P = true) (hz : ((List.range P.types.size).all fun t => match P.underlying t with | some (.slice e) => decide (0 < P.cellsOf e) | _ => true) = true)
    (hs : ∀ b, b < W.heap.size → W'.heap[b]? = W.heap[b]?) {ts : List TypeId} (ht : ts.all (fun t => decide (t < P.types.size)) = true) {vs : List Value} {ds : List (DataW H)} {ps : List MemPlace} (h : DataW.TrodAll enc P W 0 (fun _ => true) true ts vs ds ps) :
    DataW.TrodAll enc P W' 0 (fun b => decide (b < W.heap.size)) true ts vs ds ps := by
  refine DataW.TrodAll.respare (kids_rows hl hm) (slices_full_of P hz) (fun t h => of_decide_eq_true (List.all_eq_true.1 ht t h)) (trodAll_old hs h) (fun p hp => ?_)
  exact decide_eq_true (DataW.TrodAll.lt h p hp)
theorem mir_at {W : World} {a : Addr} {n : Nat} {cs : List Value} (hn : 0 < n) (h : W.cells? 0 a n = some cs) :
    a.spot = none ∧ a.block < W.heap.size ∧ ∃ blk, hget (mirror W) a.block = some blk ∧ a.off + n ≤ blk.cells.length ∧ (blk.cells.drop a.off).take n = cs.map (absV W) := by
  obtain ⟨_, hlen, hc⟩ := World.cells?_some h
  have h0 := hc 0 hn
  rw [List.getElem?_eq_getElem (by omega)] at h0
  have e0 : a.add 0 = a := rfl
  rw [e0] at h0
  unfold World.cell? at h0
  split at h0
  case h_2 => cases h0
  rename_i c elem fr hk
  split at h0
  case isTrue => cases h0
  rename_i hsp
  have hspot : a.spot = none := by cases h : a.spot with | none => rfl | some s => rw [h] at hsp; simp at hsp
  have hlt : a.block < W.heap.size := by
    rcases Nat.lt_or_ge a.block W.heap.size with h | h
    · exact h
    · rw [Array.getElem?_eq_none h] at hk; cases hk
  have cell : ∀ i, i < n → c.toList[a.off + i]? = cs[i]? := fun i hi => by
    have := hc i hi
    rw [← this]
    have ea : a.add i = ⟨a.block, a.off + i, none⟩ := by
      unfold Addr.add
      split
      · rename_i h0; subst h0; cases a; simp_all
      · rfl
    rw [ea]
    simp only [World.cell?, hk]
    simp
  have hle : a.off + n ≤ c.toList.length := by
    have := cell (n - 1) (by omega)
    rw [List.getElem?_eq_getElem (by omega : n - 1 < cs.length)] at this
    have := (List.getElem?_eq_some_iff.1 this).1
    omega
  refine ⟨hspot, hlt, ⟨elem, 0, true, c.toList.map (absV W)⟩, ?_, by simpa using hle, ?_⟩
  · rw [mir_get]; unfold mirB; rw [hk]
  · refine List.ext_getElem? fun i => ?_
    rw [List.getElem?_take]
    by_cases hi : i < n
    · rw [if_pos hi, List.getElem?_drop, List.getElem?_map, List.getElem?_map, cell i hi]
    · rw [if_neg hi, List.getElem?_eq_none (by simp; omega)]
theorem many_ex {α : Type} {sz : Nat} {dec : List Value → Option α} : ∀ (l : Nat) (cs : List Value), (∀ i, i < l → ∃ x, dec ((cs.drop (i * sz)).take sz) = some x) → ∃ xs, many sz dec l cs = some xs
  | 0, cs, _ => ⟨[], rfl⟩
  | l + 1, cs, h => by
    obtain ⟨x, hx⟩ := h 0 (by omega)
    simp only [Nat.zero_mul, List.drop_zero] at hx
    obtain ⟨xs, hxs⟩ := many_ex l (cs.drop sz) (fun i hi => by
      obtain ⟨y, hy⟩ := h (i + 1) (by omega)
      refine ⟨y, ?_⟩
      rw [List.drop_drop, ← hy, Nat.succ_mul, Nat.add_comm (i * sz) sz])
    refine ⟨x :: xs, ?_⟩
    unfold many
    simp only [hx, hxs]
theorem mir_list {W : World} {α : Type} {dec : List Value → Option α} {t e : TypeId} {n fuel : Nat} {held : Bool} {sv : Value} {x : DataW H × List MemPlace} (ht : P.underlying t = some (.slice e)) (hsz : P.cellsOf e = n) (hn : 0 < n)
    (h : DataW.trod enc P W 0 (fun _ => true) held fuel t [sv] = some x)
    (hdec : ∀ (m : Nat) (cs : List Value) (y : DataW H × List MemPlace), DataW.trod enc P W 0 (fun _ => true) held m e cs = some y → ∃ z, dec (cs.map (absV W)) = some z) :
    ∃ xs, listAt n dec (mirror W) (absV W sv) = some xs ∧ xs.length ≤ maxLen := by
  rcases Go.Deep.open_slice ht h with ⟨h1, _⟩ | ⟨a, len, cap, m, k, D, Pl, h1, _, hl, hm, hmm, _, hx⟩
  · simp only [List.cons.injEq, and_true] at h1
    subst h1
    exact ⟨[], by rw [absV_base rfl]; rfl, by simp⟩
  · simp only [List.cons.injEq, and_true] at h1
    subst h1
    simp only [if_true] at hmm
    subst hmm
    rw [hsz] at hx
    by_cases h0 : len = 0
    · subst h0
      exact ⟨[], by unfold absV; simp only [if_true]; rfl, by simp⟩
    · obtain ⟨c0, hc0, _⟩ := hx 0 (by omega)
      rw [Nat.zero_mul] at hc0
      obtain ⟨s1, s2, blk, s3, _, _⟩ := mir_at hn hc0
      have ev : absV W (.slice (some a) len m) = .slice (some a) len m := by unfold absV; simp only; rw [if_neg h0, if_pos ⟨s1, s2⟩]
      obtain ⟨b, off, sp⟩ := a
      replace s1 : sp = none := s1
      replace s3 : hget (mirror W) b = some blk := s3
      subst s1
      have cell : ∀ i, i < len → ∃ cs, off + i * n + n ≤ blk.cells.length ∧ (blk.cells.drop (off + i * n)).take n = cs.map (absV W) ∧ ∃ y, DataW.trod enc P W 0 (fun _ => true) held k e cs = some y := fun i hi => by
        obtain ⟨cs, hc, hy⟩ := hx i (by omega)
        obtain ⟨q1, q2, blk', q3, q4, q5⟩ := mir_at hn hc
        have ea : (⟨b, off, none⟩ : Addr).add (i * n) = ⟨b, off + i * n, none⟩ := add_none _ _ _
        rw [ea] at q3 q4 q5
        replace q3 : hget (mirror W) b = some blk' := q3
        replace q4 : off + i * n + n ≤ blk'.cells.length := q4
        replace q5 : (blk'.cells.drop (off + i * n)).take n = cs.map (absV W) := q5
        rw [s3] at q3; cases q3
        exact ⟨cs, q4, q5, _, hy⟩
      have hle : off + len * n ≤ blk.cells.length := by
        obtain ⟨_, q, _⟩ := cell (len - 1) (by omega)
        obtain ⟨l', rfl⟩ : ∃ l', len = l' + 1 := ⟨len - 1, by omega⟩
        simp only [Nat.add_sub_cancel] at q
        rw [Nat.succ_mul]; omega
      have la : lay n (mirror W) (.slice (some ⟨b, off, none⟩) len m) = some ((blk.cells.drop off).take (len * n)) := by
        obtain ⟨l', rfl⟩ : ∃ l', len = l' + 1 := ⟨len - 1, by omega⟩
        unfold lay
        simp only [s3]
        rw [if_pos ⟨hl, hle⟩]
      obtain ⟨xs, hxs⟩ := many_ex (sz := n) (dec := dec) len ((blk.cells.drop off).take (len * n)) (fun i hi => by
        obtain ⟨cs, q1, q2, y, q3⟩ := cell i hi
        obtain ⟨z, hz⟩ := hdec k cs y q3
        refine ⟨z, ?_⟩
        rw [List.drop_take, List.take_take, List.drop_drop]
        have : n ≤ len * n - i * n := by rw [← Nat.sub_mul]; exact Nat.le_mul_of_pos_left _ (by omega)
        rw [Nat.min_eq_left this, q2]
        exact hz)
      refine ⟨xs, ?_, ?_⟩
      · rw [ev]
        unfold listAt
        rw [la]
        exact hxs
      · rw [(many_get hxs).1]; omega
theorem kmatch_base : ∀ {ks : List Ki} {cs : List Value}, kmatch ks cs → cs.all isBase = true
  | [], [], _ => rfl
  | .b :: ks, cs, h => by
    match cs, h with
    | .bool _ :: r, h => simp only [List.all_cons, isBase, Bool.true_and]; exact kmatch_base (ks := ks) h
  | .i k :: ks, cs, h => by
    match cs, h with
    | .int _ _ :: r, h => simp only [List.all_cons, isBase, Bool.true_and]; exact kmatch_base (ks := ks) h.2
  | .s :: ks, cs, h => by
    match cs, h with
    | .string _ :: r, h => simp only [List.all_cons, isBase, Bool.true_and]; exact kmatch_base (ks := ks) h.2
end
end Go.Eng.K
end
section
set_option linter.unusedVariables false
set_option linter.unusedSimpArgs false
set_option linter.unusedSectionVars false
namespace Go.Eng
structure Pt where
  (s1 : Bool) (l1 : List UInt8) (s2 : Bool) (l2 : List UInt8) (s3 : Bool) (l3 : List UInt8) (s4 : Bool) (l4 : List UInt8)
deriving DecidableEq
namespace Pt
def cells (p : Pt) : List Value := [.bool p.s1, .string ⟨⟨p.l1⟩⟩, .bool p.s2, .string ⟨⟨p.l2⟩⟩, .bool p.s3, .string ⟨⟨p.l3⟩⟩, .bool p.s4, .string ⟨⟨p.l4⟩⟩]
def x (p : Pt) : Int := sv p.s1 p.l1
def y (p : Pt) : Int := sv p.s2 p.l2
def z (p : Pt) : Int := sv p.s3 p.l3
def w (p : Pt) : Int := sv p.s4 p.l4
def on (p q r : Pt) : Prop := flt p.x p.y p.z p.w q.x q.y q.z q.w r.x r.y r.z r.w
instance {p q r : Pt} : Decidable (on p q r) := by unfold on; infer_instance
def ok (p : Pt) : Prop := (p.l1.length ≤ 65536 ∧ p.l2.length ≤ 65536 ∧ p.l3.length ≤ 65536 ∧ p.l4.length ≤ 65536) ∧ 0 < p.w
instance {p : Pt} : Decidable p.ok := by unfold ok; infer_instance
end Pt
end Go.Eng
end
section
set_option linter.unusedVariables false
set_option linter.unusedSimpArgs false
set_option linter.unusedSectionVars false
namespace Go.Eng
namespace Pt
def dflt : Pt := ⟨false, [], false, [], false, [], false, []⟩
def sz (k : Nat) (p : Pt) : Prop := p.l1.length ≤ k ∧ p.l2.length ≤ k ∧ p.l3.length ≤ k ∧ p.l4.length ≤ k
instance {k : Nat} {p : Pt} : Decidable (p.sz k) := by unfold sz; infer_instance
end Pt
def ptAt (l : List Pt) (i : Nat) : Pt := (l[i]?).getD Pt.dflt
def awx (a b : Pt) : Int := b.x * a.w - a.x * b.w
def awy (a b : Pt) : Int := b.y * a.w - a.y * b.w
def awz (a b : Pt) : Int := b.z * a.w - a.z * b.w
def lftZ (P a b x : Pt) : Int :=
  0 + P.x * (awy a b * awz a x - awz a b * awy a x) + P.y * (awz a b * awx a x - awx a b * awz a x) + P.z * (awx a b * awy a x - awy a b * awx a x)
def turnsP (P : Pt) (l : List Pt) : Prop := ∀ i, i < l.length → ∀ j, j < l.length → j ≠ i → j ≠ (i + 1) % l.length → 0 < lftZ P (ptAt l i) (ptAt l ((i + 1) % l.length)) (ptAt l j)
instance {P : Pt} {l : List Pt} : Decidable (turnsP P l) := by unfold turnsP; infer_instance
end Go.Eng
end
section
set_option linter.unusedVariables false
set_option linter.unusedSimpArgs false
set_option linter.unusedSectionVars false
namespace Go.Eng.K
open Go.Eng
section
variable {H : Type} {enc : TypeId × Value → H} {P : Program}
def sumL : List Nat → Nat
  | [] => 0
  | x :: r => x + sumL r
variable (bulk : DataW H → Nat) (b1 : ∀ b : List UInt8, b.length ≤ bulk (.lit (.string b))) (b2 : ∀ ps : List (DataW H), sumL (ps.map bulk) ≤ bulk (.agg ps))
include b1 b2 in
include b1 b2 in
end
end Go.Eng.K
end
section
set_option linter.unusedVariables false
set_option linter.unusedSimpArgs false
set_option linter.unusedSectionVars false
namespace Go.Eng.K
open Go.Eng Go.WideShapes
section
variable {H : Type} {enc : TypeId × Value → H} {P : Program}
end
end Go.Eng.K
end
section
set_option linter.unusedVariables false
set_option linter.unusedSimpArgs false
set_option linter.unusedSectionVars false
namespace Go.Eng.K
open Go.Eng Go.WideShapes
section
variable {H : Type} {enc : TypeId × Value → H} {P : Program}
theorem km_p {cs : List Value} (h : kmatch [.b, .s, .s, .b, .s, .s] cs) : ∃ p : PQ, cs = pcl p := by
  match cs, h with
  | [.bool s, .string ⟨⟨n⟩⟩, .string ⟨⟨d⟩⟩, .bool s', .string ⟨⟨n'⟩⟩, .string ⟨⟨d'⟩⟩], _ => exact ⟨(⟨s, n, d⟩, ⟨s', n', d'⟩), rfl⟩
theorem pts_trod {W : World} {fuel : Nat} {tv tp : TypeId} {sv : Value} {x : DataW H × List MemPlace} (hv : P.underlying tv = some (.slice tp)) (hq : kiTy P 20 tp = some [.b, .s, .s, .b, .s, .s]) (hs : szOf P tp = some 6)
    (h : DataW.trod enc P W 0 (fun _ => true) true fuel tv [sv] = some x) : ∃ l, decPts (mirror W) (absV W sv) = some l ∧ l.length ≤ maxLen :=
  mir_list (dec := dec2) (n := 6) hv (cellsOf_sz hs) (by omega) h (fun m cs y hy => by
    obtain ⟨km, _, _⟩ := plain_ty m 20 tp _ 6 hq hs rfl W 0 _ true _ y hy
    obtain ⟨q, eq⟩ := km_p km
    rw [absV_bases (kmatch_base km), eq]
    exact ⟨q, rfl⟩)
theorem open_pts {W : World} {base : Nat} {t tp : TypeId} {v : Value} {d : DataW H} {ps : List MemPlace} (hv : P.underlying t = some (.slice tp)) (hq : kiTy P 20 tp = some [.b, .s, .s, .b, .s, .s]) (hs : szOf P tp = some 6)
    (hval : Value.okWide P W .any base t v) (h : DataW.Trod enc P W 0 (fun _ => true) true t v d ps) : ∃ l, decPts (mirror W) (absV W v) = some l ∧ l.length ≤ maxLen := by
  obtain ⟨a, len, cap, rfl⟩ := okWide_slice hv hval
  obtain ⟨fuel, h⟩ := h
  exact pts_trod hv hq hs h
end
end Go.Eng.K
end
