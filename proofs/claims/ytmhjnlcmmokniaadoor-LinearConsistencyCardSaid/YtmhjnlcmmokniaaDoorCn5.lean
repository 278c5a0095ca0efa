/-
  A part of the proof: the machine, the contracts of the functions and the plain laws, merged from smaller texts.
-/
import Derived.Test.YtmhjnlcmmokniaaDoorCn4
import Derived.RowKit3
import Derived.ChangeSame
import Derived.ReadAgain
import Derived.Deep.Slices
import Derived.WideShapes
section
set_option linter.unusedVariables false
set_option linter.unusedSimpArgs false
set_option linter.unusedSectionVars false
set_option maxRecDepth 20000
namespace Go.Eng
open Go Go.Proofs Go.IntWalk
theorem lin_RBg {a b : Nat → Rat} {n i j : Nat} (ha : ∀ q, q < n → RB (a q) i) (hb : ∀ q, q < n → RB (b q) j) : ∀ k, k ≤ n → RB (lin k a b) (1 + k * (i + j + 1))
  | 0, _ => (by unfold lin; exact RB.zero.le (by omega))
  | k + 1, hk => by
    have ih := lin_RBg ha hb k (by omega)
    unfold lin at ih ⊢
    rw [sm]
    refine ih.add ((ha k (by omega)).mul (hb k (by omega)) (Nat.le_refl _)) ?_
    rw [Nat.succ_mul]; omega
def cnR (e : EqR) (vs : List RQ) : EqR := ⟨e.coef, RQ.of (lin e.coef.length (qsV e.coef) (qsV vs)), e.line⟩
def cnL (l : List EqR) (vs : List RQ) : List EqR := l.map fun e => cnR e vs
theorem cnL_len (l : List EqR) (vs : List RQ) : (cnL l vs).length = l.length := by unfold cnL; rw [List.length_map]
theorem cnL_at {l : List EqR} {vs : List RQ} {i : Nat} (h : i < l.length) : eqAt (cnL l vs) i = cnR (eqAt l i) vs := by
  unfold cnL
  unfold eqAt
  rw [List.getElem?_map, List.getElem?_eq_getElem h]; rfl
theorem cnL_tl (e : EqR) (vs : List RQ) (sl : Value) : setR (sl :: e.tl) 1 (rE (lin e.coef.length (qsV e.coef) (qsV vs))) = sl :: (cnR e vs).tl := rfl
theorem cn_mem {l : List EqR} {vs : List RQ} {e : EqR} (h : e ∈ cnL l vs) : ∃ d ∈ l, e = cnR d vs := by
  unfold cnL at h
  obtain ⟨d, hd, rfl⟩ := List.mem_map.1 h
  exact ⟨d, hd, rfl⟩
theorem cn_chk {n : Nat} {l : List EqR} {vs : List RQ} (c : chkL n l = 0) : chkL n (cnL l vs) = 0 := by
  obtain ⟨_, h2, h3, _⟩ := chk0 c
  refine chk0_of (by omega) (by rw [cnL_len]; exact h3) fun e he => ?_
  obtain ⟨d, hd, rfl⟩ := cn_mem he
  exact chk0_nat c d hd
theorem cn_sys {n : Nat} {l : List EqR} {vs : List RQ} (hs : smallS n l) (c : chkL n l = 0) (hv : l ≠ [] → ∀ j, j < n → smallQ (rqAt vs j)) : SysOK n (cnL l vs) := fun _ => by
  have p := hs.sys c
  have L := chk0_nat c
  refine ⟨p.n0, p.n8, by rw [cnL_len]; exact p.m, fun e he => ?_, fun e he => ?_⟩
  · obtain ⟨d, hd, rfl⟩ := cn_mem he
    exact p.len d hd
  · obtain ⟨d, hd, rfl⟩ := cn_mem he
    refine ⟨(p.ok d hd).1, ?_⟩
    have hn8 := p.n8
    have ld := L d hd
    obtain ⟨_, h4⟩ := hs.2.2 d hd
    have ne : l ≠ [] := fun e => by rw [e] at hd; cases hd
    have r := lin_RBg (a := qsV d.coef) (b := qsV vs) (n := n) (i := 5) (j := 5) (fun q hq => by
      have m : rqAt d.coef q ∈ d.coef := rqAt_mem (by omega)
      have := h4 _ (List.mem_append_left _ m)
      exact RQ.ok.rb (k := 4) ⟨this.1, this.2⟩) (fun q hq => RQ.ok.rb (k := 4) ⟨(hv ne q hq).1, (hv ne q hq).2⟩) n (Nat.le_refl _)
    show (RQ.of (lin d.coef.length (qsV d.coef) (qsV vs))).ok 399
    rw [ld]
    exact RQ.of_ok (r.le (by omega))
theorem cn_con {n : Nat} {l : List EqR} {vs : List RQ} (c : chkL n l = 0) : ConP n (ZL n (cnL l vs)) := by
  refine ⟨fun j => if j = n then -1 else qsV vs j, (ZL_iff (chk0_nat (cn_chk c)) _).2 fun e he => ?_, if_pos rfl⟩
  obtain ⟨d, hd, rfl⟩ := cn_mem he
  have ld := chk0_nat c d hd
  have e1 : (cnR d vs).rhs.v = lin n (qsV d.coef) (qsV vs) := by
    rw [← ld]
    exact RQ.of_v _
  have e2 : lin n (qsV (cnR d vs).coef) (fun j => if j = n then -1 else qsV vs j) = lin n (qsV d.coef) (qsV vs) := lin_congr (fun _ _ => rfl) (fun j hj => if_neg (by omega))
  rw [e1, if_pos rfl, e2]
  grind
theorem cn_out {n : Nat} {l : List EqR} {vs : List RQ} (c : chkL n l = 0) :
    ((solveL n (cnL l vs)).1 = 17 ∧ (solveL n (cnL l vs)).2 = [] ∧ freeVL n (cnL l vs) ≠ []) ∨
    ((solveL n (cnL l vs)).1 = 0 ∧ (solveL n (cnL l vs)).2.length = n ∧ freeVL n (cnL l vs) = [] ∧ ∀ k, k < n → qsV (vq (solveL n (cnL l vs)).2) k = qsV vs k) := by
  have O := solL_out (cn_chk (vs := vs) c)
  have C := cn_con (vs := vs) c
  by_cases hd : ∀ k, k < n → DetP n (ZL n (cnL l vs)) k
  · have e0 := (O.s C hd).1
    obtain ⟨a1, _, a3, _, a5⟩ := solL_sol (cn_chk (vs := vs) c) e0
    refine .inr ⟨e0, a1, a3, a5 (qsV vs) fun e he => ?_⟩
    obtain ⟨d, hd, rfl⟩ := cn_mem he
    have ld := chk0_nat c d hd
    show lin n (qsV d.coef) (qsV vs) = (RQ.of _).v
    rw [RQ.of_v, ld]
  · obtain ⟨a1, a2⟩ := O.o C hd
    exact .inl ⟨a1, a2, freeVL_ne (cn_chk c) C hd⟩
theorem sol_rows {n : Nat} {l : List EqR} (hs : SysOK n l) (c : chkL n l = 0) (e0 : (solveL n l).1 = 0) (hn : 0 < n) : l ≠ [] := by
  intro e
  subst e
  unfold solveL at e0
  rw [if_pos c, Int.toNat_natCast] at e0
  have I := red_inv 0 (eqM n []) n
  have hr := I.r
  unfold solveK at e0
  change (if clashM n 0 (redK 0 (eqM n []) n) then ((14 : Int), ([] : List Rat)) else if (redK 0 (eqM n []) n).hs.length < n then (17, []) else (0, valsK n (redK 0 (eqM n []) n))).1 = 0 at e0
  rw [if_neg (fun ⟨i, _, h, _⟩ => by omega), if_pos (by omega)] at e0
  cases e0
def spL24con : List Value → Heap → Option Value
  | [ov, sl], h => match listAt 3 dec1 h ov, decRows h sl with
    | some os, some l => if l.length ≤ 9223372036854775807 ∧ os.length ≤ 9223372036854775807 then some (.bool true) else none
    | _, _ => none
  | _, _ => none
theorem fr_L24con {h : Heap} {N : Nat} {sl ov : Value} {l : List EqR} {os : List RQ} (e' : listAt 3 dec1 h ov = some os) (m' : os.length ≤ maxLen) (e : decRows h sl = some l) (m : l.length ≤ maxLen) : rdS spL24con [ov, sl] h N = some (.bool true, [], 0) := by
  unfold rdS spL24con
  simp only [e, e']
  rw [if_pos ⟨m, m'⟩]; rfl
theorem src_mono {h h' : Heap} (hl : hle h h') {sz n : Nat} {a : Option Addr} {cs : List Value} (e : srcOf h sz n a = some cs) : srcOf h' sz n a = some cs := by
  unfold srcOf at e ⊢
  split at e
  · exact e
  · rename_i k off
    cases hb : hget h k with
    | none => rw [hb] at e; cases e
    | some blk => rw [hb] at e; simp only [hl _ _ hb]; exact e
  · exact e
def c6 : ICode :=
  (.seq (.reg [qq 4 (.mv (.c (.bool false)))]) (.seq (.reg [qq 15 (.mv (.t 0)), qq 16 (.lensl (.t 15)), qq 5 (.mv (.t 16))]) (.seq (.seq (.reg [qq 17 (.mv (.t 5)), qq 18 (.mv (.t 1)), qq 19 (.call 8 [(.t 17), (.t 18)]), qq 20 (.bin .gtr (.t 19) (ci 0)), qq 21 (.mv (.t 20)), ⟨(some 22), (some (21, false)), (.mv (.t 5))⟩, ⟨(some 23), (some (21, false)), (.mv (.t 1))⟩, ⟨(some 24), (some (21, false)), (.call 9 [(.t 22), (.t 23)])⟩, ⟨(some 25), (some (21, false)), (.bin .neq (.t 24) (ci 0))⟩, qq 26 (.pick (.t 21) (.c (.bool true)) (.t 25))]) (.cond (.t 26) (.seq (.reg [qq 27 (.call 11 []), qq 4 (.mv (.t 27))]) .ret) .skip)) (.seq (.reg [qq 28 (.bslice 28 5 0 [] []), qq 29 (.mv (.t 1)), qq 30 (.app 28 5 72 (.t 28) (.t 29)), qq 6 (.mv (.t 30))]) (.seq (.seq (.reg [qq 31 (.mv (.t 6)), qq 32 (.lensl (.t 31)), qq 33 (.mv (ci 0))]) (.block 0 (.loop (.seq (.reg [qq 34 (.bin .lss (.t 33) (.t 32))]) (.seq (.cond (.t 34) .skip (.exit 0)) (.seq (.block 1 (.seq (.reg [qq 35 (.mv (.t 33)), qq 7 (.mv (.t 35))]) (.seq (.reg [qq 36 (.build [(.bool false), e0, e0] []), qq 8 (.alloc 24 3 [(.bool false), e0, e0]), qn (.store 3 (.t 8) (.t 36))]) (.seq (.seq (.reg [qq 37 (.mv (.t 6)), qq 38 (.mv (.t 7)), qq 39 (.ixsl 5 (.t 37) (.t 38)), qq 40 (.faddr 0 (.t 39)), qq 41 (.load false 1 (.t 40)), qq 42 (.lensl (.t 41)), qq 43 (.mv (ci 0))]) (.block 2 (.loop (.seq (.reg [qq 44 (.bin .lss (.t 43) (.t 42))]) (.seq (.cond (.t 44) .skip (.exit 2)) (.seq (.block 3 (.seq (.reg [qq 45 (.mv (.t 43)), qq 46 (.ixsl 3 (.t 41) (.t 43)), qq 47 (.load true 3 (.t 46)), qq 10 (.alloc 24 3 [(.bool false), e0, e0]), qq 9 (.mv (.t 45)), qn (.store 3 (.t 10) (.t 47))]) (.seq (.seq (.reg [qq 48 (.mv (.t 0)), qq 49 (.mv (.t 9)), qq 50 (.ixsl 3 (.t 48) (.t 49)), qq 51 (.faddr 1 (.t 50)), qq 52 (.load false 1 (.t 51)), qq 53 (.lens (.t 52)), qq 54 (.bin .gtr (.t 53) (ci 4)), qq 55 (.mv (.t 54)), ⟨(some 56), (some (55, false)), (.mv (.t 0))⟩, ⟨(some 57), (some (55, false)), (.mv (.t 9))⟩, ⟨(some 58), (some (55, false)), (.ixsl 3 (.t 56) (.t 57))⟩, ⟨(some 59), (some (55, false)), (.faddr 2 (.t 58))⟩, ⟨(some 60), (some (55, false)), (.load false 1 (.t 59))⟩, ⟨(some 61), (some (55, false)), (.lens (.t 60))⟩, ⟨(some 62), (some (55, false)), (.bin .gtr (.t 61) (ci 4))⟩, qq 63 (.pick (.t 55) (.c (.bool true)) (.t 62))]) (.cond (.t 63) (.seq (.reg [qq 64 (.call 11 []), qq 4 (.mv (.t 64))]) .ret) .skip)) (.dreg [qu 65 (.load true 3 (.t 8)), qu 66 (.load true 3 (.t 10)), qu 67 (.mv (.t 0)), qu 68 (.mv (.t 9)), qu 69 (.ixsl 3 (.t 67) (.t 68)), qu 70 (.load true 3 (.t 69)), qu 71 (.call 13 [(.t 66), (.t 70)]), qu 72 (.call 12 [(.t 65), (.t 71)]), qm (.store 3 (.t 8) (.t 72))])))) (.reg [qq 73 (.bin .add (.t 43) (ci 1)), qq 43 (.mv (.t 73))]))))))) (.reg [qq 74 (.mv (.t 6)), qq 75 (.mv (.t 7)), qq 76 (.load true 3 (.t 8)), qq 77 (.ixsl 5 (.t 74) (.t 75)), qq 78 (.faddr 1 (.t 77)), qn (.store 3 (.t 78) (.t 76))]))))) (.reg [qq 79 (.bin .add (.t 33) (ci 1)), qq 33 (.mv (.t 79))]))))))) (.seq (.reg [qq 81 (.mv (.t 5)), qq 82 (.mv (.t 6)), qq 83 (.call 14 [(.t 81), (.t 82)]), qq 80 (.mv (.t 83)), qq 84 (.ext (.t 80) 0), qq 85 (.ext (.t 80) 1), qq 11 (.mv (.t 84)), qq 12 (.mv (.t 85))]) (.seq (.reg [qq 86 (.mv (.t 5)), qq 87 (.mv (.t 6)), qq 88 (.call 15 [(.t 86), (.t 87)]), qq 13 (.mv (.t 88))]) (.seq (.seq (.reg [qq 89 (.mv (.t 12)), qq 90 (.bin .eql (.t 89) (ci 17))]) (.cond (.t 90) (.seq (.reg [qq 91 (.call 11 []), qq 92 (.mv (.t 91)), ⟨(some 93), (some (92, true)), (.mv (.t 13))⟩, ⟨(some 94), (some (92, true)), (.lensl (.t 93))⟩, ⟨(some 95), (some (92, true)), (.bin .gtr (.t 94) (ci 0))⟩, qq 96 (.pick (.t 92) (.t 95) (.c (.bool false))), qq 97 (.mv (.t 96)), ⟨(some 98), (some (97, true)), (.mv (.t 11))⟩, ⟨(some 99), (some (97, true)), (.lensl (.t 98))⟩, ⟨(some 100), (some (97, true)), (.bin .eql (.t 99) (ci 0))⟩, qq 101 (.pick (.t 97) (.t 100) (.c (.bool false))), qq 4 (.mv (.t 101))]) .ret) .skip)) (.seq (.seq (.reg [qq 102 (.mv (.t 12)), qq 103 (.bin .neq (.t 102) (ci 0)), qq 104 (.mv (.t 103)), ⟨(some 105), (some (104, false)), (.mv (.t 11))⟩, ⟨(some 106), (some (104, false)), (.lensl (.t 105))⟩, ⟨(some 107), (some (104, false)), (.mv (.t 5))⟩, ⟨(some 108), (some (104, false)), (.bin .neq (.t 106) (.t 107))⟩, qq 109 (.pick (.t 104) (.c (.bool true)) (.t 108)), qq 110 (.mv (.t 109)), ⟨(some 111), (some (110, false)), (.mv (.t 13))⟩, ⟨(some 112), (some (110, false)), (.lensl (.t 111))⟩, ⟨(some 113), (some (110, false)), (.bin .neq (.t 112) (ci 0))⟩, qq 114 (.pick (.t 110) (.c (.bool true)) (.t 113))]) (.cond (.t 114) (.seq (.reg [qq 4 (.mv (.c (.bool false)))]) .ret) .skip)) (.seq (.seq (.reg [qq 115 (.mv (.t 11)), qq 116 (.lensl (.t 115)), qq 117 (.mv (ci 0))]) (.block 4 (.loop (.seq (.reg [qq 118 (.bin .lss (.t 117) (.t 116))]) (.seq (.cond (.t 118) .skip (.exit 4)) (.seq (.block 5 (.seq (.reg [qq 119 (.mv (.t 117)), qq 14 (.mv (.t 119))]) (.seq (.dreg [qu 120 (.mv (.t 11)), qu 121 (.mv (.t 14)), qu 122 (.ixsl 3 (.t 120) (.t 121)), qu 123 (.load true 3 (.t 122)), qu 124 (.mv (.t 0)), qu 125 (.mv (.t 14)), qu 126 (.ixsl 3 (.t 124) (.t 125)), qu 127 (.load true 3 (.t 126)), qu 128 (.call 19 [(.t 123), (.t 127)]), qu 129 (.bin .neq (.t 128) (ci 0))]) (.cond (.t 129) (.seq (.reg [qq 4 (.mv (.c (.bool false)))]) .ret) .skip)))) (.reg [qq 130 (.bin .add (.t 117) (ci 1)), qq 117 (.mv (.t 130))]))))))) (.seq (.reg [qq 131 (.call 11 []), qq 4 (.mv (.t 131))]) .ret)))))))))))
theorem tr6 : trFun Tryd.prog 6 = some ⟨132, [.t 4], c6⟩ := by kernel_rfl
set_option maxHeartbeats 32000000 in
theorem ok_L24con : SpecOK Tryd.prog 6 (rdS spL24con) := by
  refine rd_run (env_cons ok_lGreat24 (env_cons ok_fixed (env_cons ok_linCheck (env_cons ok_solve (env_cons ok_freeV (env_cons ok_qCmp (env_cons ok_qMul (env_cons ok_qAdd (env_nil _))))))))) mixed tr6 ?_ ?_
  · intro args h h' v hle e
    unfold spL24con at e ⊢
    split at e
    · split at e
      · rename_i l os hb hc
        simp only [decRows_mono hle hc, listAt_mono hle (fun _ _ e => e) hb]; exact e
      · cases e
    · cases e
  intro args v h N hG hN
  unfold spL24con at hG
  split at hG
  case h_2 => cases hG
  rename_i ov sl
  split at hG
  case h_2 => cases hG
  rename_i vs l hv hx
  split at hG
  case isFalse => cases hG
  rename_i hm
  obtain ⟨hm, hmo⟩ := hm
  cases hG
  obtain ⟨a, cc, rfl⟩ := listAt_sl (dec := decEq h) hx
  obtain ⟨b, dd, rfl⟩ := listAt_sl hv
  refine ⟨by rfl, by simp, ?_⟩
  have gr := great24_of (n := (vs.length : Int)) hx hm
  have ck := chk_of (n := (vs.length : Int)) hx
  have fx : spFixed [] = some (.bool true) := rfl
  by_cases sS : smallS vs.length l
  case neg =>
    rw [if_neg sS] at gr
    simp only [c6, G0, Nat.reduceAdd]
    simp only [↓R0, R1, simprocAttr, -Int.reduceAbs, rdS, gr, fx, Fin, isEnd, resL, res1]
    exact ⟨_, rfl, rfl, fun k hk => by simp only [ne_nb hk, if_false]⟩
  rw [if_pos sS] at gr
  by_cases c0 : chkL vs.length l = 0
  case neg =>
    have c0' : (chkL vs.length l = 0) = False := eq_false c0
    simp only [c6, G0, Nat.reduceAdd]
    simp only [↓R0, R1, simprocAttr, -Int.reduceAbs, rdS, gr, fx, ck, c0', Bool.not_false, Fin, isEnd, resL, res1]
    exact ⟨_, rfl, rfl, fun k hk => by simp only [ne_nb hk, if_false]⟩
  rw [c0] at ck
  obtain ⟨f, hsrc, hf⟩ := rows_src hx
  have L := chk0_nat c0
  have hn8 := (sS.sys c0).n8
  have hm100 := (sS.sys c0).m
  have dn : ∀ a b : Int, decide (a ≠ b) = !decide (a = b) := fun a b => by by_cases h : a = b <;> simp [h]
  have f5 : ∀ i, i < l.length → (f i).length = 5 := fun i hi => by
    obtain ⟨_, _, _, e1, _⟩ := hf i hi
    rw [e1]; rfl
  have fok : ∀ i, i < l.length → (f i).all okCell = true := fun i hi => by
    obtain ⟨_, _, _, e1, _⟩ := hf i hi
    rw [e1]; rfl
  have rl := blkC_len f5
  have rok := blkC_ok fok
  let g : Nat → List Value := fun q => setR (f q) 1 (rE (lin (eqAt l q).coef.length (qsV (eqAt l q).coef) (qsV vs)))
  have fg : ∀ K i, i < l.length → ((if i < K then g i else f i).length = 5 ∧ (if i < K then g i else f i).all okCell = true ∧ ∃ a' c', (if i < K then g i else f i)[0]? = some (.slice a' (eqAt l i).coef.length c') ∧ listAt 3 dec1 h (.slice a' (eqAt l i).coef.length c') = some (eqAt l i).coef) := fun K i hi => by
    obtain ⟨a', n', c', e1, e2, e3⟩ := hf i hi
    subst e2
    split
    · show (setR (f i) 1 _).length = 5 ∧ (setR (f i) 1 _).all okCell = true ∧ ∃ a' c', (setR (f i) 1 _)[0]? = _ ∧ _
      rw [e1]
      exact ⟨rfl, rfl, a', c', rfl, e3⟩
    · rw [e1]
      exact ⟨rfl, rfl, a', c', rfl, e3⟩
  have src : ∀ {hp : Heap}, ExtL N h hp → srcOf hp 5 l.length a = some (blkC f l.length) := fun he => src_mono (fun k b e => by rw [he k (hN _ _ e)]; exact e) hsrc
  have xs0 : ExtL N h h = True := eq_true fun _ _ => rfl
  have xc := fun j b hp => extL_cons N j b h hp
  by_cases z : l.length = 0
  · have z' : (l.length = 0) = True := eq_true z
    have bl0 : blkC f l.length = [] := by rw [z]; rfl
    simp only [c6, G0, Nat.reduceAdd]
    simp only [↓R0, R1, simprocAttr, -Int.reduceAbs, rdS, gr, fx, ck, c0, dn, src, xs0, xc, bl0, z', Bool.not_true, Bool.not_false]
    refine lp_parts (fun c tm hp nx => ∃ (i M : Nat), c + i = l.length ∧ tmget tm 0 = .slice b vs.length dd ∧ tmget tm 5 = .int .i64 vs.length ∧ tmget tm 6 = .slice (some ⟨N + 0, 0, none⟩) l.length l.length ∧ tmget tm 31 = .slice (some ⟨N + 0, 0, none⟩) l.length l.length ∧ tmget tm 32 = .int .i64 l.length ∧ tmget tm 33 = .int .i64 i ∧
        (∃ x, hget hp (N + 0) = some ⟨28, 5, x, blkC (fun q => if q < i then g q else f q) l.length⟩) ∧ (0 < i → ∀ j, j < vs.length → smallQ (rqAt vs j)) ∧ ExtL N h hp ∧ N + 0 < M ∧ nx = M + 0) ?_ l.length
      ⟨0, N + 1, by omega, ?_, ?_, ?_, ?_, ?_, ?_, ?_, fun h => absurd h (Nat.lt_irrefl 0), ?_, by omega, rfl⟩
    rotate_left
    all_goals first | (simp only [↓R0, R1, simprocAttr, -Int.reduceAbs]; done) | (simp only [↓R0, R1, simprocAttr, -Int.reduceAbs]; rfl) | (simp only [↓R0, R1, simprocAttr, -Int.reduceAbs, z]; done) | (simp only [↓R0, R1, simprocAttr, -Int.reduceAbs, z]; rfl) | (refine ⟨true, ?_⟩; rw [z]; simp only [↓R0, R1, simprocAttr, -Int.reduceAbs, blkC]; done) | skip
    · intro q hq
      have nb : ∀ d, (N + d = q) = False := fun d => eq_false (by omega)
      simp only [↓R0, R1, simprocAttr, -Int.reduceAbs, nb]
    rintro c tm hp nx ⟨i, M, hc, t0, t5, t6, t31, t32, t33, ⟨x, bK⟩, hall, hh, hM, hnx⟩
    rw [hnx]
    clear hnx nx
    by_cases c1 : i < l.length
    · exact absurd c1 (by omega)
    have ei : i = l.length := by omega
    subst ei
    have c1' : ((l.length : Int) < (l.length : Int)) = False := eq_false (by omega)
    have sysC := cn_sys (vs := vs) sS c0 (fun ne => hall (List.length_pos_iff.2 ne))
    have rowsAt : ∀ hp', hget hp' (N + 0) = hget hp (N + 0) → ExtL N h hp' → decRows hp' (.slice (some ⟨N + 0, 0, none⟩) l.length l.length) = some (cnL l vs) := fun hp' e1 e2 => by
      rw [bK] at e1
      refine rows_blk e1 (cnL_len l vs) fun i hi => ?_
      obtain ⟨a', n', c', f1, f2, f3⟩ := hf i hi
      refine ⟨.slice a' n' c', ?_, ?_⟩
      · show (if i < l.length then setR (f i) 1 (rE (lin (eqAt l i).coef.length (qsV (eqAt l i).coef) (qsV vs))) else f i) = _
        rw [if_pos hi, f1, cnL_at hi, cnL_tl]
      · rw [cnL_at hi]
        exact ext_rats hN f3 e2
    obtain ⟨a9, D, mm, kc, gq, hV⟩ := solve_call (b := M + 0) (rowsAt hp rfl hh) sysC
    obtain ⟨M1, hM1⟩ : ∃ M1, M1 = M + mm := ⟨_, rfl⟩
    have eM : M + 0 + mm = M1 + 0 := by omega
    have hbM : M + 0 + mm = M1 := by omega
    rw [hbM] at hV
    generalize eHP : D ++ hp = HP at *
    have ac : ∀ (d : Nat) (tm : List (Nat × Value)) (V : Value) (K : St → Prop), @aft (some d) (some (V, D, mm)) ⟨(⟨tm, hp, M + 0⟩, K)⟩ = K ⟨(d, V) :: tm, HP, M1 + 0⟩ := fun _ _ _ _ => by rw [← eM, ← eHP]; exact propext Iff.rfl
    have xH : ExtL N h HP := extL_up (M := M + 0) (by omega) hh gq
    obtain ⟨a8, D', mm', kc2, gq2, _⟩ := free_call (b := M1 + 0) (rowsAt HP (gq _ (by omega)) xH) sysC
    obtain ⟨M2, hM2⟩ : ∃ M2, M2 = M1 + mm' := ⟨_, rfl⟩
    have eM2 : M1 + 0 + mm' = M2 + 0 := by omega
    generalize eHP2 : D' ++ HP = HP2 at *
    have ac2 : ∀ (d : Nat) (tm : List (Nat × Value)) (V : Value) (K : St → Prop), @aft (some d) (some (V, D', mm')) ⟨(⟨tm, HP, M1 + 0⟩, K)⟩ = K ⟨(d, V) :: tm, HP2, M2 + 0⟩ := fun _ _ _ _ => by rw [← eM2, ← eHP2]; exact propext Iff.rfl
    have xH2 : ExtL N h HP2 := extL_up (M := M1 + 0) (by omega) xH gq2
    have hV2 := hV HP2 (fun q hq => gq2 q (by omega))
    rcases cn_out (vs := vs) c0 with ⟨o1, o2, o3⟩ | ⟨o1, o2, o3, o4⟩
    · rw [o1, o2, List.length_nil] at kc
      have fl : (((freeVL vs.length (cnL l vs)).length : Int) > 0) = True := eq_true (by have := List.length_pos_iff.2 o3; omega)
      simp only [↓R0, R1, simprocAttr, -Int.reduceAbs, rdS, fx, t0, t5, t6, t31, t32, t33, c1', kc, ac, kc2, ac2, fl, Fin, isEnd, resL, res1]
      exact ⟨_, rfl, rfl, xH2⟩
    have so := fun {j : Nat} => solL_ok (j := j) sysC
    rw [o2] at kc hV2 so
    rw [o1] at kc
    rw [o3, List.length_nil] at kc2
    have vok : ∀ j, j < vs.length → smallQ (rqAt vs j) := fun j hj => hall (List.length_pos_iff.2 (fun e => sol_rows sysC (cn_chk c0) o1 (by omega) (by unfold cnL; rw [e]; rfl))) j hj
    simp only [↓R0, R1, simprocAttr, -Int.reduceAbs, rdS, fx, t0, t5, t6, t31, t32, t33, c1', kc, ac, kc2, ac2, dn, Bool.not_true, Bool.not_false]
    generalize vq (solveL vs.length (cnL l vs)).2 = VS at *
    refine lp_parts (fun c tm hp nx => ∃ (i : Nat), c + i = vs.length ∧ tmget tm 0 = .slice b vs.length dd ∧ tmget tm 11 = .slice a9 vs.length vs.length ∧ tmget tm 116 = .int .i64 vs.length ∧ tmget tm 117 = .int .i64 i ∧ hp = HP2 ∧ nx = M2 + 0) ?_ vs.length
      ⟨0, by omega, ?_, ?_, ?_, ?_, rfl, rfl⟩
    rotate_left
    all_goals first | (simp only [↓R0, R1, simprocAttr, -Int.reduceAbs, t0]; done) | (simp only [↓R0, R1, simprocAttr, -Int.reduceAbs, t0]; rfl) | skip
    clear t0 t5 t6 t31 t32 t33 kc kc2 ac ac2
    rintro q tm hp3 nx ⟨i, hni, t0, t11, t116, t117, rfl, hnx⟩
    rw [hnx]
    clear hnx nx
    by_cases c2 : i < vs.length
    case neg =>
      have e' : i = vs.length := by omega
      subst e'
      have c2' : ((vs.length : Int) < (vs.length : Int)) = False := eq_false (by omega)
      simp only [↓R0, R1, simprocAttr, -Int.reduceAbs, rdS, fx, t0, t11, t116, t117, c2', Fin, isEnd, resL, res1]
      exact ⟨_, rfl, rfl, xH2⟩
    have c2' : ((i : Int) < (vs.length : Int)) = True := eq_true (by omega)
    have w1 : IntKind.i64.wrap ((i : Int) + 1) = ((i + 1 : Nat) : Int) := by rw [i64_in _ (by omega)]; omega
    obtain ⟨k1, f1, B1, rfl, b1, q1, q2⟩ := rq_at (ext_rats hN hv xH2) c2
    obtain ⟨k2, f2, B2, rfl, b2, q3, q4⟩ := rq_at hV2 c2
    have cq : spQCmp [.agg ⟨(rqAt VS i).cells⟩, .agg ⟨(rqAt vs i).cells⟩] = some (.int .i64 (qsV VS i - qsV vs i).num.sign) := if_pos ⟨by have := (so c2).1; omega, by have := (so c2).2; omega, by have := (vok i c2).1; omega, by have := (vok i c2).2; omega⟩
    rw [o4 i c2, Rat.sub_self] at cq
    have cq : spQCmp [.agg ⟨(rqAt VS i).cells⟩, .agg ⟨(rqAt vs i).cells⟩] = some (.int .i64 0) := cq
    have ql : ∀ q : RQ, q.cells.length = 3 := fun _ => rfl
    have qo : ∀ q : RQ, q.cells.all okCell = true := fun _ => rfl
    have ql1 := ql (rqAt vs i)
    have ql2 := ql (rqAt VS i)
    have qo1 := qo (rqAt vs i)
    have qo2 := qo (rqAt VS i)
    generalize (rqAt vs i).cells = P1 at *
    generalize (rqAt VS i).cells = P2 at *
    simp only [↓R0, R1, simprocAttr, -Int.reduceAbs, rdS, t0, t11, t116, t117, c2, c2', b1, b2, q1, q2, q3, q4, ql1, ql2, qo1, qo2, cq, dn, w1, Bool.not_false, Bool.not_true]
    exact ⟨q - 1, by omega, i + 1, by omega, rfl⟩
  · have z' : (l.length = 0) = False := eq_false z
    have z2 : (l.length ≤ 0) = False := eq_false (by omega)
    have ov0 : (l.length * 72 ≤ 140737488355328) = True := eq_true (by omega)
    have bl0 : blkC (fun q => if q < 0 then g q else f q) l.length = blkC f l.length := blkC_congr fun q hq => if_neg (by omega)
    simp only [c6, G0, Nat.reduceAdd]
    simp only [↓R0, R1, simprocAttr, -Int.reduceAbs, rdS, gr, fx, ck, c0, dn, src, xs0, xc, z', z2, ov0, rl, rok, Nat.zero_add, Nat.zero_mul, List.nil_append, Bool.not_true, Bool.not_false]
    refine lp_parts (fun c tm hp nx => ∃ (i M : Nat), c + i = l.length ∧ tmget tm 0 = .slice b vs.length dd ∧ tmget tm 5 = .int .i64 vs.length ∧ tmget tm 6 = .slice (some ⟨N + 1, 0, none⟩) l.length l.length ∧ tmget tm 31 = .slice (some ⟨N + 1, 0, none⟩) l.length l.length ∧ tmget tm 32 = .int .i64 l.length ∧ tmget tm 33 = .int .i64 i ∧
        (∃ x, hget hp (N + 1) = some ⟨28, 5, x, blkC (fun q => if q < i then g q else f q) l.length⟩) ∧ (0 < i → ∀ j, j < vs.length → smallQ (rqAt vs j)) ∧ ExtL N h hp ∧ N + 1 < M ∧ nx = M + 0) ?_ l.length
      ⟨0, N + 2, by omega, ?_, ?_, ?_, ?_, ?_, ?_, ?_, fun h => absurd h (Nat.lt_irrefl 0), ?_, by omega, rfl⟩
    rotate_left
    all_goals first | (simp only [↓R0, R1, simprocAttr, -Int.reduceAbs]; done) | (simp only [↓R0, R1, simprocAttr, -Int.reduceAbs]; rfl) | (refine ⟨false, ?_⟩; rw [bl0]; simp only [↓R0, R1, simprocAttr, -Int.reduceAbs]; done) | skip
    · intro q hq
      have nb : ∀ d, (N + d = q) = False := fun d => eq_false (by omega)
      simp only [↓R0, R1, simprocAttr, -Int.reduceAbs, nb]
    rintro c tm hp nx ⟨i, M, hc, t0, t5, t6, t31, t32, t33, ⟨x, bK⟩, hall, hh, hM, hnx⟩
    rw [hnx]
    clear hnx nx
    by_cases c1 : i < l.length
    · have c1' : ((i : Int) < (l.length : Int)) = True := eq_true (by omega)
      have w1 : IntKind.i64.wrap ((i : Int) + 1) = ((i + 1 : Nat) : Int) := by rw [i64_in _ (by omega)]; omega
      obtain ⟨_, _, a', c', p0, pl⟩ := fg i i c1
      have hF5 : ∀ q, q < l.length → ((fun q => if q < i then g q else f q) q).length = 5 := fun q hq => (fg i q hq).1
      have hFo : ∀ q, q < l.length → ((fun q => if q < i then g q else f q) q).all okCell = true := fun q hq => (fg i q hq).2.1
      have bl := blkC_len hF5
      have bo := blkC_ok hFo
      have ba := blkC_at hF5 c1
      have b53 : (i * 5 + 1 + 3 ≤ l.length * 5) = True := eq_true (by omega)
      have b50 : i * 5 + 5 ≤ l.length * 5 := by omega
      have bst := blkC_set (o := 1) (xs := rE (lin (eqAt l i).coef.length (qsV (eqAt l i).coef) (qsV vs))) (show 1 + 3 ≤ 5 by omega) hF5 c1
      have bnx : blkC (fun q => if q = i then setR (if q < i then g q else f q) 1 (rE (lin (eqAt l i).coef.length (qsV (eqAt l i).coef) (qsV vs))) else if q < i then g q else f q) l.length = blkC (fun q => if q < i + 1 then g q else f q) l.length := blkC_congr fun q hq => by
        by_cases e : q = i
        · subst e; rw [if_pos rfl, if_neg (by omega), if_pos (by omega)]
        · rw [if_neg e]
          by_cases e2 : q < i
          · rw [if_pos e2, if_pos (by omega)]
          · rw [if_neg e2, if_neg (by omega)]
      have bst' := bst.trans bnx
      have bg : (blkC (fun q => if q < i then g q else f q) l.length)[i * 5 + 0]? = some (.slice a' (eqAt l i).coef.length c') := by
        rw [← p0, ← ba, List.getElem?_take, if_pos (by omega), List.getElem?_drop]
      clear bst bnx hF5 hFo ba
      generalize hB : blkC (fun q => if q < i then g q else f q) l.length = BL at *
      have he := eqAt_mem c1
      have hn' := L _ he
      have cs4 : ∀ q, q < (eqAt l i).coef.length → smallQ (rqAt (eqAt l i).coef q) := fun q hq => (sS.2.2 _ he).2 _ (List.mem_append_left _ (rqAt_mem hq))
      have z0 : [Value.bool false, .string ⟨⟨[]⟩⟩, .string ⟨⟨[]⟩⟩] = rE (lin 0 (qsV (eqAt l i).coef) (qsV vs)) := rE_zero.symm
      have KM : N + 1 < M := hM
      have A1 : (M + 0 = N + 1) = False := eq_false (by omega)
      have A2 : (N + 1 = M + 0) = False := eq_false (by omega)
      have A3 : (M = N + 1) = False := eq_false (by omega)
      have A4 : (N + 1 = M) = False := eq_false (by omega)
      have A5 : (M + 0 = M) = True := eq_true rfl
      simp only [↓R0, R1, simprocAttr, -Int.reduceAbs, rdS, t0, t5, t6, t31, t32, t33, c1, c1', bK, bl, b50, bg, A1, A2, A3, A4]
      refine lp_parts (fun d tm hp2 nx => ∃ (j M2 : Nat), d + j = (eqAt l i).coef.length ∧ tmget tm 0 = .slice b vs.length dd ∧ tmget tm 5 = .int .i64 vs.length ∧ tmget tm 6 = .slice (some ⟨N + 1, 0, none⟩) l.length l.length ∧ tmget tm 31 = .slice (some ⟨N + 1, 0, none⟩) l.length l.length ∧ tmget tm 32 = .int .i64 l.length ∧ tmget tm 33 = .int .i64 i ∧ tmget tm 7 = .int .i64 i ∧ tmget tm 8 = .pointer (some ⟨M, 0, none⟩) ∧
          tmget tm 41 = .slice a' (eqAt l i).coef.length c' ∧ tmget tm 42 = .int .i64 (eqAt l i).coef.length ∧ tmget tm 43 = .int .i64 j ∧ (∃ x, hget hp2 (N + 1) = some ⟨28, 5, x, BL⟩) ∧ (∃ x, hget hp2 M = some ⟨24, 3, x, rE (lin j (qsV (eqAt l i).coef) (qsV vs))⟩) ∧ (∀ j', j' < j → smallQ (rqAt vs j')) ∧ ExtL N h hp2 ∧ M + 1 ≤ M2 ∧ nx = M2 + 0) ?_ (eqAt l i).coef.length
        ⟨0, M + 1, by omega, ?_, ?_, ?_, ?_, ?_, ?_, ?_, ?_, ?_, ?_, ?_, ?_, ?_, fun j hj => absurd hj (Nat.not_lt_zero j), ?_, Nat.le_refl _, rfl⟩
      rotate_left
      all_goals first | (simp only [↓R0, R1, simprocAttr, -Int.reduceAbs, t0, t5, t6, t31, t32, t33]; done) | (simp only [↓R0, R1, simprocAttr, -Int.reduceAbs, t0, t5, t6, t31, t32, t33]; rfl) | (refine ⟨x, ?_⟩; simp only [↓R0, R1, simprocAttr, -Int.reduceAbs, bK, z0, A1, A2, A3, A4, A5]; done) | (refine ⟨true, ?_⟩; simp only [↓R0, R1, simprocAttr, -Int.reduceAbs, bK, z0, A1, A2, A3, A4, A5]; done) | skip
      · intro q hq
        have nb : ∀ d, (M + d = q) = False := fun d => eq_false (by omega)
        have nb0 : (M = q) = False := eq_false (by omega)
        simp only [↓R0, R1, simprocAttr, -Int.reduceAbs, nb, nb0]
        exact hh q hq
      clear A1 A2
      rintro d tm hp2 nx ⟨j, M2, hd, t0, t5, t6, t31, t32, t33, t7, t8, t41, t42, t43, ⟨y, bK⟩, ⟨w, bS⟩, hsm, hh2, hM2, hnx⟩
      rw [hnx]
      clear hnx nx
      have wj : IntKind.i64.wrap ((j : Int) + 1) = ((j + 1 : Nat) : Int) := by rw [i64_in _ (by omega)]; omega
      have nbq : ∀ q, q < N → ∀ d, (M2 + d = q) = False := fun q hq d => eq_false (by omega)
      have X0 : ∀ d, (M2 + d = N + 1) = False := fun d => eq_false (by omega)
      have X1 : ∀ d, (M2 + d = M) = False := fun d => eq_false (by omega)
      have Y0 : ∀ d, (N + 1 = M2 + d) = False := fun d => eq_false (by omega)
      have Y1 : ∀ d, (M = M2 + d) = False := fun d => eq_false (by omega)
      have gl : ∀ x : Rat, (rE x).length = 3 := fun _ => rfl
      have go : ∀ x : Rat, (rE x).all okCell = true := fun _ => rfl
      have gt : ∀ x : Rat, (rE x).take 3 = rE x := fun _ => rfl
      have gs : ∀ x y : Rat, setR (rE x) 0 (rE y) = rE y := fun _ _ => rfl
      have oc : ∀ q, q < (eqAt l i).coef.length → RB (qsV (eqAt l i).coef q) 5 := fun q hq => RQ.ok.rb (k := 4) ⟨(cs4 q hq).1, (cs4 q hq).2⟩
      by_cases cj : j < (eqAt l i).coef.length
      case neg =>
        have ej : j = (eqAt l i).coef.length := by omega
        subst ej
        have cj' : (((eqAt l i).coef.length : Int) < ((eqAt l i).coef.length : Int)) = False := eq_false (by omega)
        simp only [↓R0, R1, simprocAttr, -Int.reduceAbs, t0, t5, t6, t31, t32, t33, t7, t8, t41, t42, t43, cj', c1, c1', bK, bS, bl, b50, b53, gl, go, gt, bst', w1, X0, X1, Y0, Y1, A3, A4]
        refine ⟨c - 1, by omega, i + 1, M2, by omega, rfl, ⟨_, rfl⟩, fun _ j' hj' => hsm j' (by omega), fun q hq => ?_, by omega, rfl⟩
        have nb : (N + 1 = q) = False := eq_false (by omega)
        simp only [↓R0, R1, simprocAttr, -Int.reduceAbs, nb]
        exact hh2 q hq
      have cj' : ((j : Int) < ((eqAt l i).coef.length : Int)) = True := eq_true (by omega)
      have cjv : j < vs.length := by omega
      obtain ⟨k1, f1, B1, rfl, h1, q1, q2⟩ := rq_at pl cj
      obtain ⟨k2, f2, B2, rfl, h2, q3, q4⟩ := rq_at hv cjv
      have l1 := hN _ _ h1
      have l2 := hN _ _ h2
      have b1 : hget hp2 k1 = some B1 := by rw [hh2 k1 l1]; exact h1
      have b2 : hget hp2 k2 = some B2 := by rw [hh2 k2 l2]; exact h2
      have n1 := nbq k1 l1
      have n2 := nbq k2 l2
      have rl3 : ∀ q : RQ, q.cells.length = 3 := fun _ => rfl
      have ro3 : ∀ q : RQ, q.cells.all okCell = true := fun _ => rfl
      have rs3 : ∀ q : RQ, setR [.bool false, .string ⟨⟨[]⟩⟩, .string ⟨⟨[]⟩⟩] 0 q.cells = q.cells := fun _ => rfl
      have rt3 : ∀ q : RQ, q.cells.take 3 = q.cells := fun _ => rfl
      have p1l := rl3 (rqAt (eqAt l i).coef j)
      have p1o := ro3 (rqAt (eqAt l i).coef j)
      have p1s := rs3 (rqAt (eqAt l i).coef j)
      have p1t := rt3 (rqAt (eqAt l i).coef j)
      have vc1 : B2.cells[f2 + j * 3 + 1]? = some (.string ⟨⟨(rqAt vs j).n⟩⟩) := by
        rw [show B2.cells[f2 + j * 3 + 1]? = ((B2.cells.drop (f2 + j * 3)).take 3)[1]? by rw [List.getElem?_take, if_pos (by omega), List.getElem?_drop], q4]; rfl
      have vc2 : B2.cells[f2 + j * 3 + 2]? = some (.string ⟨⟨(rqAt vs j).d⟩⟩) := by
        rw [show B2.cells[f2 + j * 3 + 2]? = ((B2.cells.drop (f2 + j * 3)).take 3)[2]? by rw [List.getElem?_take, if_pos (by omega), List.getElem?_drop], q4]; rfl
      by_cases s1 : (rqAt vs j).n.length > 4
      · have s1' : (((rqAt vs j).n.length : Int) > 4) = True := eq_true (by omega)
        generalize (rqAt (eqAt l i).coef j).cells = P1 at *
        simp only [↓R0, R1, simprocAttr, -Int.reduceAbs, rdS, fx, t0, t5, t6, t31, t32, t33, t7, t8, t41, t42, t43, cj, cj', cjv, bK, bS, b1, b2, q1, q2, q3, q4, n1, n2, vc1, vc2, p1l, p1o, p1s, p1t, s1', X0, X1, Y0, Y1, Fin, isEnd, resL, res1]
        refine ⟨_, rfl, rfl, fun q hq => ?_⟩
        have nb := nbq q hq
        simp only [↓R0, R1, simprocAttr, -Int.reduceAbs, nb]
        exact hh2 q hq
      have s1' : (((rqAt vs j).n.length : Int) > 4) = False := eq_false (by omega)
      by_cases s2 : (rqAt vs j).d.length > 4
      · have s2' : (((rqAt vs j).d.length : Int) > 4) = True := eq_true (by omega)
        generalize (rqAt (eqAt l i).coef j).cells = P1 at *
        simp only [↓R0, R1, simprocAttr, -Int.reduceAbs, rdS, fx, t0, t5, t6, t31, t32, t33, t7, t8, t41, t42, t43, cj, cj', cjv, bK, bS, b1, b2, q1, q2, q3, q4, n1, n2, vc1, vc2, p1l, p1o, p1s, p1t, s1', s2', X0, X1, Y0, Y1, Fin, isEnd, resL, res1]
        refine ⟨_, rfl, rfl, fun q hq => ?_⟩
        have nb := nbq q hq
        simp only [↓R0, R1, simprocAttr, -Int.reduceAbs, nb]
        exact hh2 q hq
      have s2' : (((rqAt vs j).d.length : Int) > 4) = False := eq_false (by omega)
      have vok : (rqAt vs j).ok 4 := ⟨by omega, by omega⟩
      have cok : (rqAt (eqAt l i).coef j).ok 4 := ⟨(cs4 j cj).1, (cs4 j cj).2⟩
      have mq : spQMul [.agg ⟨(rqAt (eqAt l i).coef j).cells⟩, .agg ⟨(rqAt vs j).cells⟩] = some (.agg ⟨rE (qsV (eqAt l i).coef j * qsV vs j)⟩) := mulQ cok vok (by omega) (by omega)
      have aq : spQAdd [.agg ⟨rE (lin j (qsV (eqAt l i).coef) (qsV vs))⟩, .agg ⟨rE (qsV (eqAt l i).coef j * qsV vs j)⟩] = some (.agg ⟨rE (lin (j + 1) (qsV (eqAt l i).coef) (qsV vs))⟩) := by
        rw [← lin_step]
        have r := lin_RBg (a := qsV (eqAt l i).coef) (b := qsV vs) (n := j) (i := 5) (j := 5) (fun q hq => oc q (by omega)) (fun q hq => RQ.ok.rb (k := 4) ⟨(hsm q hq).1, (hsm q hq).2⟩) j (Nat.le_refl _)
        exact addQ r (cok.rb.mul vok.rb (Nat.le_refl _)) (by omega) (by omega)
      generalize (rqAt (eqAt l i).coef j).cells = P1 at *
      generalize (rqAt vs j).cells = P2 at *
      have gS := gs (lin j (qsV (eqAt l i).coef) (qsV vs)) (lin (j + 1) (qsV (eqAt l i).coef) (qsV vs))
      generalize lin j (qsV (eqAt l i).coef) (qsV vs) = S at *
      generalize hS : lin (j + 1) (qsV (eqAt l i).coef) (qsV vs) = S' at *
      simp only [↓R0, R1, simprocAttr, -Int.reduceAbs, rdS, t0, t5, t6, t31, t32, t33, t7, t8, t41, t42, t43, cj, cj', cjv, bK, bS, b1, b2, q1, q2, q3, q4, n1, n2, vc1, vc2, p1l, p1o, p1s, p1t, s1', s2', gl, go, gt, gS, mq, aq, wj, X0, X1, Y0, Y1, A3, A4]
      refine ⟨d - 1, by omega, j + 1, M2 + 1, by omega, rfl, ⟨_, rfl⟩, ⟨_, by rw [hS]⟩, fun j' hj' => ?_, fun q hq => ?_, by omega, rfl⟩
      · by_cases x : j' = j
        · subst x; exact ⟨by omega, by omega⟩
        · exact hsm j' (by omega)
      · have nb := nbq q hq
        have nc : (M = q) = False := eq_false (by omega)
        simp only [↓R0, R1, simprocAttr, -Int.reduceAbs, nb, nc]
        exact hh2 q hq
    have ei : i = l.length := by omega
    subst ei
    have c1' : ((l.length : Int) < (l.length : Int)) = False := eq_false (by omega)
    have sysC := cn_sys (vs := vs) sS c0 (fun ne => hall (List.length_pos_iff.2 ne))
    have rowsAt : ∀ hp', hget hp' (N + 1) = hget hp (N + 1) → ExtL N h hp' → decRows hp' (.slice (some ⟨N + 1, 0, none⟩) l.length l.length) = some (cnL l vs) := fun hp' e1 e2 => by
      rw [bK] at e1
      refine rows_blk e1 (cnL_len l vs) fun i hi => ?_
      obtain ⟨a', n', c', f1, f2, f3⟩ := hf i hi
      refine ⟨.slice a' n' c', ?_, ?_⟩
      · show (if i < l.length then setR (f i) 1 (rE (lin (eqAt l i).coef.length (qsV (eqAt l i).coef) (qsV vs))) else f i) = _
        rw [if_pos hi, f1, cnL_at hi, cnL_tl]
      · rw [cnL_at hi]
        exact ext_rats hN f3 e2
    obtain ⟨a9, D, mm, kc, gq, hV⟩ := solve_call (b := M + 0) (rowsAt hp rfl hh) sysC
    obtain ⟨M1, hM1⟩ : ∃ M1, M1 = M + mm := ⟨_, rfl⟩
    have eM : M + 0 + mm = M1 + 0 := by omega
    have hbM : M + 0 + mm = M1 := by omega
    rw [hbM] at hV
    generalize eHP : D ++ hp = HP at *
    have ac : ∀ (d : Nat) (tm : List (Nat × Value)) (V : Value) (K : St → Prop), @aft (some d) (some (V, D, mm)) ⟨(⟨tm, hp, M + 0⟩, K)⟩ = K ⟨(d, V) :: tm, HP, M1 + 0⟩ := fun _ _ _ _ => by rw [← eM, ← eHP]; exact propext Iff.rfl
    have xH : ExtL N h HP := extL_up (M := M + 0) (by omega) hh gq
    obtain ⟨a8, D', mm', kc2, gq2, _⟩ := free_call (b := M1 + 0) (rowsAt HP (gq _ (by omega)) xH) sysC
    obtain ⟨M2, hM2⟩ : ∃ M2, M2 = M1 + mm' := ⟨_, rfl⟩
    have eM2 : M1 + 0 + mm' = M2 + 0 := by omega
    generalize eHP2 : D' ++ HP = HP2 at *
    have ac2 : ∀ (d : Nat) (tm : List (Nat × Value)) (V : Value) (K : St → Prop), @aft (some d) (some (V, D', mm')) ⟨(⟨tm, HP, M1 + 0⟩, K)⟩ = K ⟨(d, V) :: tm, HP2, M2 + 0⟩ := fun _ _ _ _ => by rw [← eM2, ← eHP2]; exact propext Iff.rfl
    have xH2 : ExtL N h HP2 := extL_up (M := M1 + 0) (by omega) xH gq2
    have hV2 := hV HP2 (fun q hq => gq2 q (by omega))
    rcases cn_out (vs := vs) c0 with ⟨o1, o2, o3⟩ | ⟨o1, o2, o3, o4⟩
    · rw [o1, o2, List.length_nil] at kc
      have fl : (((freeVL vs.length (cnL l vs)).length : Int) > 0) = True := eq_true (by have := List.length_pos_iff.2 o3; omega)
      simp only [↓R0, R1, simprocAttr, -Int.reduceAbs, rdS, fx, t0, t5, t6, t31, t32, t33, c1', kc, ac, kc2, ac2, fl, Fin, isEnd, resL, res1]
      exact ⟨_, rfl, rfl, xH2⟩
    have so := fun {j : Nat} => solL_ok (j := j) sysC
    rw [o2] at kc hV2 so
    rw [o1] at kc
    rw [o3, List.length_nil] at kc2
    have vok : ∀ j, j < vs.length → smallQ (rqAt vs j) := fun j hj => hall (List.length_pos_iff.2 (fun e => sol_rows sysC (cn_chk c0) o1 (by omega) (by unfold cnL; rw [e]; rfl))) j hj
    simp only [↓R0, R1, simprocAttr, -Int.reduceAbs, rdS, fx, t0, t5, t6, t31, t32, t33, c1', kc, ac, kc2, ac2, dn, Bool.not_true, Bool.not_false]
    generalize vq (solveL vs.length (cnL l vs)).2 = VS at *
    refine lp_parts (fun c tm hp nx => ∃ (i : Nat), c + i = vs.length ∧ tmget tm 0 = .slice b vs.length dd ∧ tmget tm 11 = .slice a9 vs.length vs.length ∧ tmget tm 116 = .int .i64 vs.length ∧ tmget tm 117 = .int .i64 i ∧ hp = HP2 ∧ nx = M2 + 0) ?_ vs.length
      ⟨0, by omega, ?_, ?_, ?_, ?_, rfl, rfl⟩
    rotate_left
    all_goals first | (simp only [↓R0, R1, simprocAttr, -Int.reduceAbs, t0]; done) | (simp only [↓R0, R1, simprocAttr, -Int.reduceAbs, t0]; rfl) | skip
    clear t0 t5 t6 t31 t32 t33 kc kc2 ac ac2
    rintro q tm hp3 nx ⟨i, hni, t0, t11, t116, t117, rfl, hnx⟩
    rw [hnx]
    clear hnx nx
    by_cases c2 : i < vs.length
    case neg =>
      have e' : i = vs.length := by omega
      subst e'
      have c2' : ((vs.length : Int) < (vs.length : Int)) = False := eq_false (by omega)
      simp only [↓R0, R1, simprocAttr, -Int.reduceAbs, rdS, fx, t0, t11, t116, t117, c2', Fin, isEnd, resL, res1]
      exact ⟨_, rfl, rfl, xH2⟩
    have c2' : ((i : Int) < (vs.length : Int)) = True := eq_true (by omega)
    have w1 : IntKind.i64.wrap ((i : Int) + 1) = ((i + 1 : Nat) : Int) := by rw [i64_in _ (by omega)]; omega
    obtain ⟨k1, f1, B1, rfl, b1, q1, q2⟩ := rq_at (ext_rats hN hv xH2) c2
    obtain ⟨k2, f2, B2, rfl, b2, q3, q4⟩ := rq_at hV2 c2
    have cq : spQCmp [.agg ⟨(rqAt VS i).cells⟩, .agg ⟨(rqAt vs i).cells⟩] = some (.int .i64 (qsV VS i - qsV vs i).num.sign) := if_pos ⟨by have := (so c2).1; omega, by have := (so c2).2; omega, by have := (vok i c2).1; omega, by have := (vok i c2).2; omega⟩
    rw [o4 i c2, Rat.sub_self] at cq
    have cq : spQCmp [.agg ⟨(rqAt VS i).cells⟩, .agg ⟨(rqAt vs i).cells⟩] = some (.int .i64 0) := cq
    have ql : ∀ q : RQ, q.cells.length = 3 := fun _ => rfl
    have qo : ∀ q : RQ, q.cells.all okCell = true := fun _ => rfl
    have ql1 := ql (rqAt vs i)
    have ql2 := ql (rqAt VS i)
    have qo1 := qo (rqAt vs i)
    have qo2 := qo (rqAt VS i)
    generalize (rqAt vs i).cells = P1 at *
    generalize (rqAt VS i).cells = P2 at *
    simp only [↓R0, R1, simprocAttr, -Int.reduceAbs, rdS, t0, t11, t116, t117, c2, c2', b1, b2, q1, q2, q3, q4, ql1, ql2, qo1, qo2, cq, dn, w1, Bool.not_false, Bool.not_true]
    exact ⟨q - 1, by omega, i + 1, by omega, rfl⟩
end Go.Eng
end
section
set_option linter.unusedVariables false
set_option linter.unusedSimpArgs false
set_option linter.unusedSectionVars false
namespace Go.Eng.K
open Go.Eng
inductive Ki where
  | b | i (k : IntKind) | s
def kiFs (ty : TypeId → Option (List Ki)) (P : Program) : List Field → Nat → Option (List Ki)
  | [], _ => some []
  | f :: r, off =>
    if f.name ≠ "_" ∧ f.offset = off then
      match ty f.type, szOf P f.type with
      | some ks, some n => if ks.length = n then (kiFs ty P r (off + n)).map (ks ++ ·) else none
      | _, _ => none
    else none
def kiTy (P : Program) : Nat → TypeId → Option (List Ki)
  | 0, _ => none
  | d + 1, t =>
    match P.underlying t with
    | some .bool => some [.b]
    | some (.int k) => some [.i k]
    | some .string => some [.s]
    | some (.struct fs) => if P.stoodInHeld t then none else kiFs (kiTy P d) P fs.toList 0
    | some (.array len e) => match kiTy P d e, szOf P e with
      | some ks, some n => if ks.length = n then some (List.replicate len ks).flatten else none
      | _, _ => none
    | _ => none
def kmatch : List Ki → List Value → Prop
  | [], [] => True
  | .b :: ks, .bool _ :: r => kmatch ks r
  | .i k :: ks, .int k' n :: r => (k' = k ∧ (Lit.int k n).wf = true) ∧ kmatch ks r
  | .s :: ks, .string s :: r => s.size ≤ maxLen ∧ kmatch ks r
  | _, _ => False
theorem kmatch_append : ∀ {ks ks' : List Ki} {cs cs' : List Value}, kmatch ks cs → kmatch ks' cs' → kmatch (ks ++ ks') (cs ++ cs')
  | [], _, [], _, _, h => h
  | [], _, _ :: _, _, h, _ => h.elim
  | .b :: ks, ks', cs, cs', h, h' => by
    match cs, h with
    | .bool _ :: r, h => exact kmatch_append (ks := ks) h h'
  | .i k :: ks, ks', cs, cs', h, h' => by
    match cs, h with
    | .int _ _ :: r, h => exact ⟨h.1, kmatch_append (ks := ks) h.2 h'⟩
  | .s :: ks, ks', cs, cs', h, h' => by
    match cs, h with
    | .string _ :: r, h => exact ⟨h.1, kmatch_append (ks := ks) h.2 h'⟩
section
variable {H : Type} {enc : TypeId × Value → H} {P : Program}
theorem cellsOf_sz {t : TypeId} {n : Nat} (h : szOf P t = some n) : P.cellsOf t = n := by
  unfold Program.cellsOf; unfold szOf at h; rw [h]; rfl
def Plain (P : Program) (enc : TypeId × Value → H) (fuel : Nat) (t : TypeId) (ks : List Ki) : Prop :=
  ∀ (w : World) (base : Nat) (spare : Nat → Bool) (held : Bool) (cs : List Value) (x : DataW H × List MemPlace), DataW.trod enc P w base spare held fuel t cs = some x →
    kmatch ks cs ∧ x.2 = [] ∧ ∀ w' base' spare' held', DataW.trod enc P w' base' spare' held' fuel t cs = some x
theorem plain_fields {fuel : Nat} {ty : TypeId → Option (List Ki)} (hty : ∀ t ks n, ty t = some ks → szOf P t = some n → ks.length = n → Plain P enc fuel t ks) :
    ∀ (fs : List Field) (off : Nat) (ks : List Ki), kiFs ty P fs off = some ks → ∀ (w : World) (base : Nat) (spare : Nat → Bool) (held : Bool) (cs : List Value) (xs : List (DataW H × List MemPlace)),
      (fs.mapM fun f => DataW.trod enc P w base spare held fuel f.type ((cs.drop f.offset).take (P.cellsOf f.type))) = some xs → cs.length = off + ks.length →
      kmatch ks (cs.drop off) ∧ xs.flatMap (·.2) = [] ∧ ∀ w' base' spare' held', (fs.mapM fun f => DataW.trod enc P w' base' spare' held' fuel f.type ((cs.drop f.offset).take (P.cellsOf f.type))) = some xs
  | [], off, ks, h, w, base, spare, held, cs, xs, hm, hl => by
    simp only [kiFs, Option.some.injEq] at h
    subst h
    simp only [List.mapM_nil, Option.pure_def, Option.some.injEq] at hm
    subst hm
    simp only [List.length_nil, Nat.add_zero] at hl
    rw [List.drop_eq_nil_of_le (by omega)]
    exact ⟨trivial, rfl, fun _ _ _ _ => rfl⟩
  | f :: r, off, ks, h, w, base, spare, held, cs, xs, hm, hl => by
    simp only [kiFs] at h
    split at h
    case isFalse => cases h
    rename_i hc
    obtain ⟨_, hoff⟩ := hc
    split at h
    case h_2 => cases h
    rename_i ks0 n hk hn
    split at h
    case isFalse => cases h
    rename_i hlen
    rw [Option.map_eq_some_iff] at h
    obtain ⟨ks1, h1, rfl⟩ := h
    have hsz := cellsOf_sz hn
    simp only [List.mapM_cons, Option.bind_eq_bind, Option.bind_eq_some_iff, Option.pure_def, Option.some.injEq] at hm
    obtain ⟨y, hy, ys, hys, rfl⟩ := hm
    have hp := hty f.type ks0 n hk hn hlen w base spare held _ y hy
    obtain ⟨p1, p2, p3⟩ := hp
    simp only [List.length_append] at hl
    obtain ⟨q1, q2, q3⟩ := plain_fields hty r (off + n) ks1 h1 w base spare held cs ys hys (by omega)
    rw [hoff, hsz] at p1
    refine ⟨?_, ?_, ?_⟩
    · have e : cs.drop off = (cs.drop off).take n ++ cs.drop (off + n) := by
        rw [← List.drop_drop, List.take_append_drop]
      rw [e]
      exact kmatch_append p1 q1
    · simp only [List.flatMap_cons, p2, q2, List.nil_append]
    · intro w' base' spare' held'
      simp only [List.mapM_cons, Option.bind_eq_bind, Option.bind_eq_some_iff, Option.pure_def, Option.some.injEq]
      exact ⟨y, p3 w' base' spare' held', ys, q3 w' base' spare' held', rfl⟩
theorem plain_elems {fuel : Nat} {e : TypeId} {ks : List Ki} {n : Nat} (hn : szOf P e = some n) (hl : ks.length = n) (he : Plain P enc fuel e ks) :
    ∀ (m i0 : Nat) (w : World) (base : Nat) (spare : Nat → Bool) (held : Bool) (cs : List Value) (xs : List (DataW H × List MemPlace)),
      ((List.range' i0 m).mapM fun i => DataW.trod enc P w base spare held fuel e ((cs.drop (i * P.cellsOf e)).take (P.cellsOf e))) = some xs → cs.length = (i0 + m) * n →
      kmatch (List.replicate m ks).flatten (cs.drop (i0 * n)) ∧ xs.flatMap (·.2) = [] ∧ ∀ w' base' spare' held', ((List.range' i0 m).mapM fun i => DataW.trod enc P w' base' spare' held' fuel e ((cs.drop (i * P.cellsOf e)).take (P.cellsOf e))) = some xs
  | 0, i0, w, base, spare, held, cs, xs, hm, hlen => by
    simp only [List.range'_zero, List.mapM_nil, Option.pure_def, Option.some.injEq] at hm
    subst hm
    simp only [Nat.add_zero] at hlen
    rw [List.drop_eq_nil_of_le (by omega)]
    exact ⟨trivial, rfl, fun _ _ _ _ => by simp⟩
  | m + 1, i0, w, base, spare, held, cs, xs, hm, hlen => by
    have hsz := cellsOf_sz hn
    simp only [List.range'_succ, List.mapM_cons, Option.bind_eq_bind, Option.bind_eq_some_iff, Option.pure_def, Option.some.injEq] at hm
    obtain ⟨y, hy, ys, hys, rfl⟩ := hm
    obtain ⟨p1, p2, p3⟩ := he w base spare held _ y hy
    obtain ⟨q1, q2, q3⟩ := plain_elems hn hl he m (i0 + 1) w base spare held cs ys hys (by rw [hlen]; congr 1; omega)
    rw [hsz] at p1
    refine ⟨?_, ?_, ?_⟩
    · rw [List.replicate_succ, List.flatten_cons]
      have e : cs.drop (i0 * n) = (cs.drop (i0 * n)).take n ++ cs.drop ((i0 + 1) * n) := by
        rw [Nat.succ_mul, ← List.drop_drop, List.take_append_drop]
      rw [e]
      exact kmatch_append p1 q1
    · simp only [List.flatMap_cons, p2, q2, List.nil_append]
    · intro w' base' spare' held'
      simp only [List.range'_succ, List.mapM_cons, Option.bind_eq_bind, Option.bind_eq_some_iff, Option.pure_def, Option.some.injEq]
      exact ⟨y, p3 w' base' spare' held', ys, q3 w' base' spare' held', rfl⟩
theorem plain_ty : ∀ (fuel d : Nat) (t : TypeId) (ks : List Ki) (n : Nat), kiTy P d t = some ks → szOf P t = some n → ks.length = n → Plain P enc fuel t ks
  | 0, d, t, ks, n, h, hn, hl => by intro w base spare held cs x hx; simp [DataW.trod] at hx
  | fuel + 1, 0, t, ks, n, h, hn, hl => by simp [kiTy] at h
  | fuel + 1, d + 1, t, ks, n, h, hn, hl => by
    intro w base spare held cs x hx
    unfold kiTy at h
    unfold DataW.trod at hx ⊢
    split at h
    · rename_i hu
      cases h
      rw [hu] at hx ⊢
      match cs, hx with
      | [.bool b], hx => simp only [Option.some.injEq] at hx; subst hx; exact ⟨trivial, rfl, fun _ _ _ _ => rfl⟩
    · rename_i k hu
      cases h
      rw [hu] at hx ⊢
      match cs, hx with
      | [.int k' m], hx =>
        simp only at hx
        split at hx
        · rename_i hc
          simp only [Option.some.injEq] at hx; subst hx
          exact ⟨⟨hc, trivial⟩, rfl, fun _ _ _ _ => by simp only; rw [if_pos hc]⟩
        · cases hx
    · rename_i hu
      cases h
      rw [hu] at hx ⊢
      match cs, hx with
      | [.string s], hx =>
        simp only at hx
        split at hx
        · rename_i hc
          simp only [Option.some.injEq] at hx; subst hx
          exact ⟨⟨hc, trivial⟩, rfl, fun _ _ _ _ => by simp only; rw [if_pos hc]⟩
        · cases hx
    · rename_i fs hu
      split at h
      · cases h
      rw [hu] at hx ⊢
      simp only at hx ⊢
      split at hx
      case isFalse => cases hx
      rename_i hlen
      rw [Option.map_eq_some_iff] at hx
      obtain ⟨xs, hxs, rfl⟩ := hx
      rw [cellsOf_sz hn, ← hl] at hlen
      obtain ⟨p1, p2, p3⟩ := plain_fields (fuel := fuel) (fun t ks n h1 h2 h3 => plain_ty fuel d t ks n h1 h2 h3) fs.toList 0 ks h w base spare held cs xs hxs (by omega)
      refine ⟨by simpa using p1, p2, fun w' base' spare' held' => ?_⟩
      rw [if_pos (by rw [cellsOf_sz hn, ← hl, hlen]), p3]; rfl
    · rename_i len e hu
      split at h
      case h_2 => cases h
      rename_i ks0 m hk hm
      split at h
      case isFalse => cases h
      rename_i hlm
      simp only [Option.some.injEq] at h
      subst h
      rw [hu] at hx ⊢
      simp only at hx ⊢
      split at hx
      case isFalse => cases hx
      rename_i hlen
      rw [Option.map_eq_some_iff] at hx
      obtain ⟨xs, hxs, rfl⟩ := hx
      rw [cellsOf_sz hn, ← hl] at hlen
      rw [List.range_eq_range'] at hxs
      have hfl : ((List.replicate len ks0).flatten).length = len * m := by rw [List.length_flatten]; simp [hlm]
      obtain ⟨p1, p2, p3⟩ := plain_elems hm hlm (plain_ty fuel d e ks0 m hk hm hlm) len 0 w base spare held cs xs hxs (by rw [hlen, hfl, Nat.zero_add])
      refine ⟨by simpa using p1, p2, fun w' base' spare' held' => ?_⟩
      rw [if_pos (by rw [cellsOf_sz hn, ← hl, hlen]), List.range_eq_range', p3]; rfl
    · cases h
end
end Go.Eng.K
end
section
set_option linter.unusedVariables false
set_option linter.unusedSimpArgs false
set_option linter.unusedSectionVars false
namespace Go.Eng.K
open Go.Eng
theorem vr_ex (β : Emb) : ∀ v : Value, ∃ a, VR β a v := by
  have key : ∀ (n : Nat) (v : Value), SizeOf.sizeOf v < n → ∃ a, VR β a v := by
    intro n
    induction n with
    | zero => intro v h; omega
    | succ n ih =>
      intro v h
      have list : ∀ l : List Value, (∀ x ∈ l, SizeOf.sizeOf x < n) → ∃ bs, VRs β bs l := by
        intro l
        induction l with
        | nil => intro _; exact ⟨[], .nil⟩
        | cons x r ihl =>
          intro hx
          obtain ⟨a, ha⟩ := ih x (hx x (List.mem_cons_self ..))
          obtain ⟨bs, hs⟩ := ihl (fun y hy => hx y (List.mem_cons_of_mem _ hy))
          exact ⟨a :: bs, .cons _ _ _ _ ha hs⟩
      by_cases ho : okCell v = true
      · exact ⟨.chan none, .junk none v ho⟩
      · match v, ho, h with
        | .agg ⟨l⟩, _, h =>
          obtain ⟨bs, hs⟩ := list l (fun x hx => by
            have := List.sizeOf_lt_of_mem hx
            simp only [Value.agg.sizeOf_spec, Array.mk.sizeOf_spec] at h
            omega)
          exact ⟨.agg ⟨bs⟩, .agg _ _ hs⟩
        | .tuple ⟨l⟩, _, h =>
          obtain ⟨bs, hs⟩ := list l (fun x hx => by
            have := List.sizeOf_lt_of_mem hx
            simp only [Value.tuple.sizeOf_spec, Array.mk.sizeOf_spec] at h
            omega)
          exact ⟨.tuple ⟨bs⟩, .tup _ _ hs⟩
  exact fun v => key (SizeOf.sizeOf v + 1) v (Nat.lt_succ_self _)
def mirE (W : World) : Emb := fun k => if k < W.heap.size then some ⟨k, 0, []⟩ else none
open Classical in
noncomputable def absV (W : World) (v : Value) : Value :=
  match v with
  | .slice (some a) len cap =>
    if len = 0 then .slice (some ⟨0, 0, some 1⟩) 0 0
    else if a.spot = none ∧ a.block < W.heap.size then .slice (some a) len cap
    else Classical.choose (vr_ex (mirE W) (.slice (some a) len cap))
  | v => if isBase v = true then v else Classical.choose (vr_ex (mirE W) v)
theorem absV_vr (W : World) (v : Value) : VR (mirE W) (absV W v) v := by
  unfold absV
  split
  · rename_i a len cap
    split
    · rename_i h; subst h; exact .sle _ _
    · split
      · rename_i h
        obtain ⟨b, off, s⟩ := a
        obtain ⟨h1, h2⟩ := h
        simp only at h1 h2
        subst h1
        exact VR.sl b off len cap ⟨b, 0, []⟩ (by unfold mirE; rw [if_pos h2])
      · exact Classical.choose_spec (vr_ex (mirE W) _)
  · split
    · rename_i h; exact .base _ h
    · exact Classical.choose_spec (vr_ex (mirE W) _)
theorem absV_base {W : World} {v : Value} (h : isBase v = true) : absV W v = v := by
  unfold absV
  split
  · simp [isBase] at h
  · rw [if_pos h]
theorem absV_map (W : World) : ∀ l : List Value, VRs (mirE W) (l.map (absV W)) l
  | [] => .nil
  | v :: r => .cons _ _ _ _ (absV_vr W v) (absV_map W r)
theorem absV_bases {W : World} : ∀ {l : List Value}, l.all isBase = true → l.map (absV W) = l
  | [], _ => rfl
  | v :: r, h => by
    simp only [List.all_cons, Bool.and_eq_true] at h
    rw [List.map_cons, absV_base h.1, absV_bases h.2]
noncomputable def mirB (W : World) (b : Nat) : Option Blk :=
  match W.heap[b]? with
  | some (.cells c elem _) => some ⟨elem, 0, true, c.toList.map (absV W)⟩
  | _ => none
noncomputable def mirror (W : World) : Heap := (List.range W.heap.size).map fun b => (b, mirB W b)
theorem hget_map {f : Nat → Option Blk} {k : Nat} : ∀ (l : List Nat), hget (l.map fun b => (b, f b)) k = if k ∈ l then f k else none
  | [] => rfl
  | b :: r => by
    simp only [List.map_cons, hget]
    by_cases e : b = k
    · subst e; simp
    · rw [if_neg e, hget_map r]
      simp [Ne.symm e]
theorem mir_get (W : World) (k : Nat) : hget (mirror W) k = mirB W k := by
  unfold mirror
  rw [hget_map]
  by_cases h : k < W.heap.size
  · rw [if_pos (List.mem_range.2 h)]
  · rw [if_neg (by simpa using h)]
    unfold mirB
    rw [Array.getElem?_eq_none (by omega)]
theorem mir_blk {W : World} {k : Nat} {blk : Blk} (h : hget (mirror W) k = some blk) : k < W.heap.size ∧ ∃ C fr, W.heap[k]? = some (.cells ⟨C⟩ blk.elem fr) ∧ blk.sz = 0 ∧ blk.cells = C.map (absV W) := by
  rw [mir_get] at h
  unfold mirB at h
  split at h
  · rename_i c elem fr hk
    cases h
    refine ⟨?_, c.toList, fr, hk, rfl, rfl⟩
    rcases Nat.lt_or_ge k W.heap.size with h | h
    · exact h
    · rw [Array.getElem?_eq_none h] at hk; cases hk
  · cases h
theorem mir_wr {W : World} {k : Nat} : ¬ wr (mirror W) k := fun ⟨blk, h1, h2⟩ => by
  obtain ⟨_, C, fr, _, h3, _⟩ := mir_blk h1
  exact h2 h3
theorem mir_rel (W : World) : Rel (mirE W) (mirror W) W := by
  refine ⟨fun k blk hk => ?_, fun k k' L L' _ b => absurd b mir_wr, fun k L h => ?_⟩
  · obtain ⟨h1, C, fr, h2, h3, h4⟩ := mir_blk hk
    refine ⟨⟨k, 0, []⟩, C, fr, by unfold mirE; rw [if_pos h1], by simpa using h2, fun h => absurd h3 h, by rw [h4]; exact absV_map W C, by simp, fun _ => rfl⟩
  · unfold mirE at h
    split at h
    · rename_i hk; cases h; exact hk
    · cases h
theorem mir_calls {P : Program} {f : Nat} {S : List Value → Heap → Nat → Option Out} (hS : SpecOK P f S) {W : World} {aargs args : List Value} {v : Value} (h : S aargs (mirror W) W.heap.size = some (v, [], 0))
    (ha : VRs (mirE W) aargs args) (hv : isBase v = true) :
    Calls P f ⟨args⟩ W fun e W' => e = .returned v ∧ W'.os = W.os ∧ W'.output = W.output ∧ ∀ b, b < W.heap.size → W'.heap[b]? = W.heap[b]? := by
  have h := hS.ok aargs (mirror W) W.heap.size (v, [], 0) h (mirE W) W args ha (mir_rel W) (fun k h1 h2 => by simp only at h2; omega)
    ⟨W.heap.size, fun k hk => by
      rcases Nat.lt_or_ge k W.heap.size with h | h
      · exact h
      · exact absurd (by unfold mirE; rw [if_neg (by omega)]) hk⟩
  refine h.mono ?_
  rintro e W' ⟨β', v', he, hvr, hrel, hfr, _⟩
  exact ⟨by rw [he, hvr.base_left hv], hfr.os, hfr.out, fun b hb => hfr.keep b hb (fun k L hk => absurd hk mir_wr)⟩
theorem kept_of {W W' : World} (h1 : W'.os = W.os) (h2 : W'.output = W.output) (h3 : ∀ b, b < W.heap.size → W'.heap[b]? = W.heap[b]?) : W.keptBut W' (fun _ => False) := by
  refine ⟨h1, h2, fun i hi => ?_⟩
  rw [h3 i hi]
  cases W.heap[i]? with
  | none => rfl
  | some o =>
    cases o with
    | cells c t fr => exact ⟨rfl, rfl, rfl, fun _ _ => rfl⟩
    | map es cl => exact .inr ⟨rfl, rfl⟩
    | _ => rfl
section
variable {H : Type} {enc : TypeId × Value → H} {P : Program}
theorem trodAll_old {W W' : World} (hs : ∀ b, b < W.heap.size → W'.heap[b]? = W.heap[b]?) {base : Nat} {sp : Nat → Bool} {held : Bool} :
    ∀ {ts : List TypeId} {vs : List Value} {ds : List (DataW H)} {ps : List MemPlace}, DataW.TrodAll enc P W base sp held ts vs ds ps → DataW.TrodAll enc P W' base sp held ts vs ds ps
  | [], [], [], _, h => h
  | t :: ts, v :: vs, d :: ds, ps, ⟨p, q, ⟨n, h1⟩, h2, e⟩ => by
    have lt := DataW.trod_lt n _ _ _ h1
    refine ⟨p, q, ⟨n, DataW.trod_carry n _ _ _ h1 (fun x hx => ?_)⟩, trodAll_old hs h2, e⟩
    have hb := lt x hx
    cases x with
    | cell b off => simp only [MemPlace.block] at hb; simp only [World.sameAt, World.cell?, hs b hb]
    | map b => simp only [MemPlace.block] at hb; simp only [World.sameAt, hs b hb]
  | [], [], _ :: _, _, h => h.elim
  | [], _ :: _, _, _, h => by cases h
  | _ :: _, [], _, _, h => by cases h
  | _ :: _, _ :: _, [], _, h => by cases h
theorem args_again {W W' : World} (hl : laidOutB P = true) (hm : mapsRowed P = true) (hz : ((List.range P.types.size).all fun t => match P.underlying t with | some (.slice e) => decide (0 < P.cellsOf e) | _ => true) = true)
    (hs : ∀ b, b < W.heap.size → W'.heap[b]? = W.heap[b]?) {ts : List TypeId} (ht : ts.all (fun t => decide (t < P.types.size)) = true) {vs : List Value} {ds : List (DataW H)} {ps : List MemPlace} (h : DataW.TrodAll enc P W 0 (fun _ => true) true ts vs ds ps) :
    DataW.TrodAll enc P W' 0 (fun b => decide (b < W.heap.size)) true ts vs ds ps := by
  refine DataW.TrodAll.respare (kids_rows hl hm) (slices_full_of P hz) (fun t h => of_decide_eq_true (List.all_eq_true.1 ht t h)) (trodAll_old hs h) (fun p hp => ?_)
  exact decide_eq_true (DataW.TrodAll.lt h p hp)
theorem mir_at {W : World} {a : Addr} {n : Nat} {cs : List Value} (hn : 0 < n) (h : W.cells? 0 a n = some cs) :
    a.spot = none ∧ a.block < W.heap.size ∧ ∃ blk, hget (mirror W) a.block = some blk ∧ a.off + n ≤ blk.cells.length ∧ (blk.cells.drop a.off).take n = cs.map (absV W) := by
  obtain ⟨_, hlen, hc⟩ := World.cells?_some h
  have h0 := hc 0 hn
  rw [List.getElem?_eq_getElem (by omega)] at h0
  have e0 : a.add 0 = a := rfl
  rw [e0] at h0
  unfold World.cell? at h0
  split at h0
  case h_2 => cases h0
  rename_i c elem fr hk
  split at h0
  case isTrue => cases h0
  rename_i hsp
  have hspot : a.spot = none := by cases h : a.spot with | none => rfl | some s => rw [h] at hsp; simp at hsp
  have hlt : a.block < W.heap.size := by
    rcases Nat.lt_or_ge a.block W.heap.size with h | h
    · exact h
    · rw [Array.getElem?_eq_none h] at hk; cases hk
  have cell : ∀ i, i < n → c.toList[a.off + i]? = cs[i]? := fun i hi => by
    have := hc i hi
    rw [← this]
    have ea : a.add i = ⟨a.block, a.off + i, none⟩ := by
      unfold Addr.add
      split
      · rename_i h0; subst h0; cases a; simp_all
      · rfl
    rw [ea]
    simp only [World.cell?, hk]
    simp
  have hle : a.off + n ≤ c.toList.length := by
    have := cell (n - 1) (by omega)
    rw [List.getElem?_eq_getElem (by omega : n - 1 < cs.length)] at this
    have := (List.getElem?_eq_some_iff.1 this).1
    omega
  refine ⟨hspot, hlt, ⟨elem, 0, true, c.toList.map (absV W)⟩, ?_, by simpa using hle, ?_⟩
  · rw [mir_get]; unfold mirB; rw [hk]
  · refine List.ext_getElem? fun i => ?_
    rw [List.getElem?_take]
    by_cases hi : i < n
    · rw [if_pos hi, List.getElem?_drop, List.getElem?_map, List.getElem?_map, cell i hi]
    · rw [if_neg hi, List.getElem?_eq_none (by simp; omega)]
theorem many_ex {α : Type} {sz : Nat} {dec : List Value → Option α} : ∀ (l : Nat) (cs : List Value), (∀ i, i < l → ∃ x, dec ((cs.drop (i * sz)).take sz) = some x) → ∃ xs, many sz dec l cs = some xs
  | 0, cs, _ => ⟨[], rfl⟩
  | l + 1, cs, h => by
    obtain ⟨x, hx⟩ := h 0 (by omega)
    simp only [Nat.zero_mul, List.drop_zero] at hx
    obtain ⟨xs, hxs⟩ := many_ex l (cs.drop sz) (fun i hi => by
      obtain ⟨y, hy⟩ := h (i + 1) (by omega)
      refine ⟨y, ?_⟩
      rw [List.drop_drop, ← hy, Nat.succ_mul, Nat.add_comm (i * sz) sz])
    refine ⟨x :: xs, ?_⟩
    unfold many
    simp only [hx, hxs]
theorem mir_list {W : World} {α : Type} {dec : List Value → Option α} {t e : TypeId} {n fuel : Nat} {held : Bool} {sv : Value} {x : DataW H × List MemPlace} (ht : P.underlying t = some (.slice e)) (hsz : P.cellsOf e = n) (hn : 0 < n)
    (h : DataW.trod enc P W 0 (fun _ => true) held fuel t [sv] = some x)
    (hdec : ∀ (m : Nat) (cs : List Value) (y : DataW H × List MemPlace), DataW.trod enc P W 0 (fun _ => true) held m e cs = some y → ∃ z, dec (cs.map (absV W)) = some z) :
    ∃ xs, listAt n dec (mirror W) (absV W sv) = some xs ∧ xs.length ≤ maxLen := by
  rcases Go.Deep.open_slice ht h with ⟨h1, _⟩ | ⟨a, len, cap, m, k, D, Pl, h1, _, hl, hm, hmm, _, hx⟩
  · simp only [List.cons.injEq, and_true] at h1
    subst h1
    exact ⟨[], by rw [absV_base rfl]; rfl, by simp⟩
  · simp only [List.cons.injEq, and_true] at h1
    subst h1
    simp only [if_true] at hmm
    subst hmm
    rw [hsz] at hx
    by_cases h0 : len = 0
    · subst h0
      exact ⟨[], by unfold absV; simp only [if_true]; rfl, by simp⟩
    · obtain ⟨c0, hc0, _⟩ := hx 0 (by omega)
      rw [Nat.zero_mul] at hc0
      obtain ⟨s1, s2, blk, s3, _, _⟩ := mir_at hn hc0
      have ev : absV W (.slice (some a) len m) = .slice (some a) len m := by unfold absV; simp only; rw [if_neg h0, if_pos ⟨s1, s2⟩]
      obtain ⟨b, off, sp⟩ := a
      replace s1 : sp = none := s1
      replace s3 : hget (mirror W) b = some blk := s3
      subst s1
      have cell : ∀ i, i < len → ∃ cs, off + i * n + n ≤ blk.cells.length ∧ (blk.cells.drop (off + i * n)).take n = cs.map (absV W) ∧ ∃ y, DataW.trod enc P W 0 (fun _ => true) held k e cs = some y := fun i hi => by
        obtain ⟨cs, hc, hy⟩ := hx i (by omega)
        obtain ⟨q1, q2, blk', q3, q4, q5⟩ := mir_at hn hc
        have ea : (⟨b, off, none⟩ : Addr).add (i * n) = ⟨b, off + i * n, none⟩ := add_none _ _ _
        rw [ea] at q3 q4 q5
        replace q3 : hget (mirror W) b = some blk' := q3
        replace q4 : off + i * n + n ≤ blk'.cells.length := q4
        replace q5 : (blk'.cells.drop (off + i * n)).take n = cs.map (absV W) := q5
        rw [s3] at q3; cases q3
        exact ⟨cs, q4, q5, _, hy⟩
      have hle : off + len * n ≤ blk.cells.length := by
        obtain ⟨_, q, _⟩ := cell (len - 1) (by omega)
        obtain ⟨l', rfl⟩ : ∃ l', len = l' + 1 := ⟨len - 1, by omega⟩
        simp only [Nat.add_sub_cancel] at q
        rw [Nat.succ_mul]; omega
      have la : lay n (mirror W) (.slice (some ⟨b, off, none⟩) len m) = some ((blk.cells.drop off).take (len * n)) := by
        obtain ⟨l', rfl⟩ : ∃ l', len = l' + 1 := ⟨len - 1, by omega⟩
        unfold lay
        simp only [s3]
        rw [if_pos ⟨hl, hle⟩]
      obtain ⟨xs, hxs⟩ := many_ex (sz := n) (dec := dec) len ((blk.cells.drop off).take (len * n)) (fun i hi => by
        obtain ⟨cs, q1, q2, y, q3⟩ := cell i hi
        obtain ⟨z, hz⟩ := hdec k cs y q3
        refine ⟨z, ?_⟩
        rw [List.drop_take, List.take_take, List.drop_drop]
        have : n ≤ len * n - i * n := by rw [← Nat.sub_mul]; exact Nat.le_mul_of_pos_left _ (by omega)
        rw [Nat.min_eq_left this, q2]
        exact hz)
      refine ⟨xs, ?_, ?_⟩
      · rw [ev]
        unfold listAt
        rw [la]
        exact hxs
      · rw [(many_get hxs).1]; omega
theorem kmatch_base : ∀ {ks : List Ki} {cs : List Value}, kmatch ks cs → cs.all isBase = true
  | [], [], _ => rfl
  | .b :: ks, cs, h => by
    match cs, h with
    | .bool _ :: r, h => simp only [List.all_cons, isBase, Bool.true_and]; exact kmatch_base (ks := ks) h
  | .i k :: ks, cs, h => by
    match cs, h with
    | .int _ _ :: r, h => simp only [List.all_cons, isBase, Bool.true_and]; exact kmatch_base (ks := ks) h.2
  | .s :: ks, cs, h => by
    match cs, h with
    | .string _ :: r, h => simp only [List.all_cons, isBase, Bool.true_and]; exact kmatch_base (ks := ks) h.2
end
end Go.Eng.K
end
section
set_option linter.unusedVariables false
set_option linter.unusedSimpArgs false
set_option linter.unusedSectionVars false
namespace Go.Eng
structure Pt where
  (s1 : Bool) (l1 : List UInt8) (s2 : Bool) (l2 : List UInt8) (s3 : Bool) (l3 : List UInt8) (s4 : Bool) (l4 : List UInt8)
deriving DecidableEq
namespace Pt
def cells (p : Pt) : List Value := [.bool p.s1, .string ⟨⟨p.l1⟩⟩, .bool p.s2, .string ⟨⟨p.l2⟩⟩, .bool p.s3, .string ⟨⟨p.l3⟩⟩, .bool p.s4, .string ⟨⟨p.l4⟩⟩]
def x (p : Pt) : Int := sv p.s1 p.l1
def y (p : Pt) : Int := sv p.s2 p.l2
def z (p : Pt) : Int := sv p.s3 p.l3
def w (p : Pt) : Int := sv p.s4 p.l4
def cmp (p q : Pt) : Int := cmp4 p.x p.y p.z p.w q.x q.y q.z q.w
def on (p q r : Pt) : Prop := flt p.x p.y p.z p.w q.x q.y q.z q.w r.x r.y r.z r.w
instance {p q r : Pt} : Decidable (on p q r) := by unfold on; infer_instance
def ok (p : Pt) : Prop := (p.l1.length ≤ 65536 ∧ p.l2.length ≤ 65536 ∧ p.l3.length ≤ 65536 ∧ p.l4.length ≤ 65536) ∧ 0 < p.w
instance {p : Pt} : Decidable p.ok := by unfold ok; infer_instance
def hi (p q : Pt) : Pt := if 0 < cmp p q then p else q
end Pt
end Go.Eng
end
section
set_option linter.unusedVariables false
set_option linter.unusedSimpArgs false
set_option linter.unusedSectionVars false
namespace Go.Eng
namespace Pt
def dflt : Pt := ⟨false, [], false, [], false, [], false, []⟩
def sz (k : Nat) (p : Pt) : Prop := p.l1.length ≤ k ∧ p.l2.length ≤ k ∧ p.l3.length ≤ k ∧ p.l4.length ≤ k
instance {k : Nat} {p : Pt} : Decidable (p.sz k) := by unfold sz; infer_instance
def c1 (p : Pt) : List Value := [.bool p.s1, .string ⟨⟨p.l1⟩⟩]
def c2 (p : Pt) : List Value := [.bool p.s2, .string ⟨⟨p.l2⟩⟩]
def c3 (p : Pt) : List Value := [.bool p.s3, .string ⟨⟨p.l3⟩⟩]
theorem g1 (p : Pt) : p.cells.take 2 = p.c1 := rfl
theorem g2 (p : Pt) : (p.cells.drop 2).take 2 = p.c2 := rfl
theorem g3 (p : Pt) : (p.cells.drop 4).take 2 = p.c3 := rfl
end Pt
def ptAt (l : List Pt) (i : Nat) : Pt := (l[i]?).getD Pt.dflt
def awx (a b : Pt) : Int := b.x * a.w - a.x * b.w
def awy (a b : Pt) : Int := b.y * a.w - a.y * b.w
def awz (a b : Pt) : Int := b.z * a.w - a.z * b.w
def lftZ (P a b x : Pt) : Int :=
  0 + P.x * (awy a b * awz a x - awz a b * awy a x) + P.y * (awz a b * awx a x - awx a b * awz a x) + P.z * (awx a b * awy a x - awy a b * awx a x)
def turnsP (P : Pt) (l : List Pt) : Prop := ∀ i, i < l.length → ∀ j, j < l.length → j ≠ i → j ≠ (i + 1) % l.length → 0 < lftZ P (ptAt l i) (ptAt l ((i + 1) % l.length)) (ptAt l j)
instance {P : Pt} {l : List Pt} : Decidable (turnsP P l) := by unfold turnsP; infer_instance
end Go.Eng
end
section
set_option linter.unusedVariables false
set_option linter.unusedSimpArgs false
set_option linter.unusedSectionVars false
namespace Go.Eng.K
open Go.Eng
section
variable {H : Type} {enc : TypeId × Value → H} {P : Program}
theorem trod_struct {w : World} {base : Nat} {spare : Nat → Bool} {held : Bool} {fuel : Nat} {t : TypeId} {cs : List Value} {x : DataW H × List MemPlace} {fs : Array Field} (hu : P.underlying t = some (.struct fs))
    (h : DataW.trod enc P w base spare held fuel t cs = some x) :
    cs.length = P.cellsOf t ∧ ∃ fuel' xs, fs.toList.mapM (fun f => DataW.trod enc P w base spare held fuel' f.type ((cs.drop f.offset).take (P.cellsOf f.type))) = some xs ∧ x = (.agg (xs.map (·.1)), xs.flatMap (·.2)) := by
  cases fuel with
  | zero => simp [DataW.trod] at h
  | succ fuel =>
    unfold DataW.trod at h
    rw [hu] at h
    simp only at h
    split at h
    case isFalse => cases h
    rename_i hl
    rw [Option.map_eq_some_iff] at h
    obtain ⟨xs, hx, rfl⟩ := h
    exact ⟨hl, fuel, xs, hx, rfl⟩
def sumL : List Nat → Nat
  | [] => 0
  | x :: r => x + sumL r
variable (bulk : DataW H → Nat) (b1 : ∀ b : List UInt8, b.length ≤ bulk (.lit (.string b))) (b2 : ∀ ps : List (DataW H), sumL (ps.map bulk) ≤ bulk (.agg ps))
include b1 b2 in
include b1 b2 in
end
end Go.Eng.K
end
section
set_option linter.unusedVariables false
set_option linter.unusedSimpArgs false
set_option linter.unusedSectionVars false
namespace Go.Eng.K
open Go.Eng Go.WideShapes
section
variable {H : Type} {enc : TypeId × Value → H} {P : Program}
theorem km_q {cs : List Value} (h : kmatch [.b, .s, .s] cs) : ∃ q : RQ, cs = q.cells := by
  match cs, h with
  | [.bool s, .string ⟨⟨n⟩⟩, .string ⟨⟨d⟩⟩], _ => exact ⟨⟨s, n, d⟩, rfl⟩
theorem km_i {k : IntKind} {cs : List Value} (h : kmatch [.i k] cs) : ∃ n, cs = [.int k n] := by
  match cs, h with
  | [.int k' n], h => obtain ⟨⟨rfl, _⟩, _⟩ := h; exact ⟨n, rfl⟩
theorem rats_trod {W : World} {fuel : Nat} {tv tq : TypeId} {sv : Value} {x : DataW H × List MemPlace} (hv : P.underlying tv = some (.slice tq)) (hq : kiTy P 20 tq = some [.b, .s, .s]) (hs : szOf P tq = some 3)
    (h : DataW.trod enc P W 0 (fun _ => true) true fuel tv [sv] = some x) : ∃ l, listAt 3 dec1 (mirror W) (absV W sv) = some l ∧ l.length ≤ maxLen :=
  mir_list (dec := dec1) (n := 3) hv (cellsOf_sz hs) (by omega) h (fun m cs y hy => by
    obtain ⟨km, _, _⟩ := plain_ty m 20 tq _ 3 hq hs rfl W 0 _ true _ y hy
    obtain ⟨q, eq⟩ := km_q km
    rw [absV_bases (kmatch_base km), eq]
    exact ⟨q, rfl⟩)
theorem open_rats {W : World} {base : Nat} {t tq : TypeId} {v : Value} {d : DataW H} {ps : List MemPlace} (hv : P.underlying t = some (.slice tq)) (hq : kiTy P 20 tq = some [.b, .s, .s]) (hs : szOf P tq = some 3)
    (hval : Value.okWide P W .any base t v) (h : DataW.Trod enc P W 0 (fun _ => true) true t v d ps) : ∃ l, listAt 3 dec1 (mirror W) (absV W v) = some l ∧ l.length ≤ maxLen := by
  obtain ⟨a, len, cap, rfl⟩ := okWide_slice hv hval
  obtain ⟨fuel, h⟩ := h
  exact rats_trod hv hq hs h
theorem five {l : List Value} (h : l.length = 5) : ∃ a b c d e, l = [a, b, c, d, e] := by
  match l, h with
  | [a, b, c, d, e], _ => exact ⟨a, b, c, d, e, rfl⟩
theorem open_eqs {W : World} {base : Nat} {t te tc tq ti : TypeId} {n1 n2 n3 g1 g2 g3 q1 q2 q3 : String} {b1 b2 b3 c1 c2 c3 : _} {v : Value} {d : DataW H} {ps : List MemPlace} (ht : P.underlying t = some (.slice te))
    (hu : P.underlying te = some (.struct #[⟨n1, tc, 0, b1, g1, q1, c1⟩, ⟨n2, tq, 1, b2, g2, q2, c2⟩, ⟨n3, ti, 4, b3, g3, q3, c3⟩])) (hce : P.cellsOf te = 5) (hv : P.underlying tc = some (.slice tq)) (hcc : P.cellsOf tc = 1)
    (hq : kiTy P 20 tq = some [.b, .s, .s]) (hs : szOf P tq = some 3) (hi : kiTy P 20 ti = some [.i .i64]) (hsi : szOf P ti = some 1)
    (hval : Value.okWide P W .any base t v) (h : DataW.Trod enc P W 0 (fun _ => true) true t v d ps) : ∃ l, decRows (mirror W) (absV W v) = some l ∧ l.length ≤ maxLen := by
  obtain ⟨a, len, cap, rfl⟩ := okWide_slice ht hval
  obtain ⟨fuel, h⟩ := h
  unfold decRows
  refine mir_list (dec := decEq (mirror W)) (n := 5) ht hce (by omega) h (fun m cs y hy => ?_)
  obtain ⟨hl, fuel', xs, hx, _⟩ := trod_struct hu hy
  rw [hce] at hl
  simp only [List.mapM_cons, List.mapM_nil, Option.bind_eq_bind, Option.bind_eq_some_iff, Option.pure_def, Option.some.injEq] at hx
  obtain ⟨y1, hy1, ys, ⟨y2, hy2, zs, ⟨y3, hy3, _⟩, _⟩, _⟩ := hx
  have e3 : P.cellsOf tq = 3 := cellsOf_sz hs
  have e1 : P.cellsOf ti = 1 := cellsOf_sz hsi
  rw [hcc] at hy1
  rw [e3] at hy2
  rw [e1] at hy3
  obtain ⟨k0, k1, k2, k3, k4, rfl⟩ := five hl
  have hy1 : DataW.trod enc P W 0 (fun _ => true) true fuel' tc [k0] = some y1 := hy1
  have hy2 : DataW.trod enc P W 0 (fun _ => true) true fuel' tq [k1, k2, k3] = some y2 := hy2
  have hy3 : DataW.trod enc P W 0 (fun _ => true) true fuel' ti [k4] = some y3 := hy3
  obtain ⟨l, hl1, _⟩ := rats_trod hv hq hs hy1
  obtain ⟨km, _, _⟩ := plain_ty fuel' 20 tq _ 3 hq hs rfl W 0 _ true _ y2 hy2
  obtain ⟨q, eq⟩ := km_q km
  obtain ⟨ki, _, _⟩ := plain_ty fuel' 20 ti _ 1 hi hsi rfl W 0 _ true _ y3 hy3
  obtain ⟨n, en⟩ := km_i ki
  simp only [RQ.cells, List.cons.injEq, and_true] at eq en
  obtain ⟨rfl, rfl, rfl⟩ := eq
  subst en
  refine ⟨⟨l, q, n⟩, ?_⟩
  simp only [List.map_cons, List.map_nil]
  rw [absV_base (v := .bool q.s) rfl, absV_base (v := .string ⟨⟨q.n⟩⟩) rfl, absV_base (v := .string ⟨⟨q.d⟩⟩) rfl, absV_base (v := .int .i64 n) rfl]
  exact decEq_of (e := ⟨l, q, n⟩) hl1
end
end Go.Eng.K
end
