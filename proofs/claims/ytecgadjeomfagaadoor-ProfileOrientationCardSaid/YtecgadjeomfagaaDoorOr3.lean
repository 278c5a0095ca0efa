/-
  A part of the proof: the machine, the contracts of the functions and the plain laws, merged from smaller texts.
-/
import Derived.Test.YtecgadjeomfagaaDoorOr2
section
set_option linter.unusedVariables false
set_option linter.unusedSimpArgs false
set_option linter.unusedSectionVars false
set_option maxRecDepth 20000
namespace Go.Eng
open Go Go.Proofs Go.IntWalk
theorem shows_new {h : Heap} {N a kb off len cap : Nat} {b : Option Blk} (hk : kb < N) : shows ((N + a, b) :: h) (.slice (some ⟨kb, off, none⟩) len cap) = shows h (.slice (some ⟨kb, off, none⟩) len cap) := by
  simp only [shows, hget, if_neg (show ¬ N + a = kb by omega)]
def spLong : List Value → Heap → Option ((Nat → Nat → Value) × Blk × Blk)
  | [vu, vd], h => match shows h vu, shows h vd with
    | some us, some ds => if uok us = true ∧ uok ds = true ∧ 2 ≤ ds.length ∧ ds.length ≤ us.length ∧ us.length ≤ 8589934592 ∧ 4294967296 ^ (ds.length - 1) ≤ ud ds then
        some (fun a b => .tuple ⟨[.slice (some ⟨a, 0, none⟩) (us.length + 1 - ds.length) (us.length + 1 - ds.length), .slice (some ⟨b, 0, none⟩) ds.length ds.length]⟩,
          ⟨83, 1, false, tb (us.length + 1 - ds.length) (lm (ud us / ud ds))⟩, ⟨83, 1, false, tb ds.length (lm (ud us % ud ds))⟩) else none
    | _, _ => none
  | _, _ => none
def c58 : ICode :=
  (.seq (.reg [qq 4 (.mv (.c (.slice none 0 0))), qq 5 (.mv (.c (.slice none 0 0)))]) (.seq (.reg [qq 15 (.mv (.t 1)), qq 16 (.mv (.t 1)), qq 17 (.lensl (.t 16)), qq 18 (.bin .sub (.t 17) (ci 1)), qq 19 (.ixsl 1 (.t 15) (.t 18)), qq 20 (.load false 1 (.t 19)), qq 21 (.call 66 [(.t 20)]), qq 6 (.mv (.t 21))]) (.seq (.reg [qq 22 (.mv (.t 1)), qq 23 (.mv (.t 6)), qq 24 (.call 67 [(.t 22), (.t 23)]), qq 25 (.mv (.t 1)), qq 26 (.lensl (.t 25)), qq 27 (.slsl 1 (.t 24) none (some (.t 26))), qq 1 (.mv (.t 27))]) (.seq (.reg [qq 28 (.mv (.t 0)), qq 29 (.mv (.t 6)), qq 30 (.call 67 [(.t 28), (.t 29)]), qq 0 (.mv (.t 30))]) (.seq (.reg [qq 31 (.mv (.t 1)), qq 32 (.lensl (.t 31)), qq 7 (.mv (.t 32))]) (.seq (.reg [qq 33 (.mv (.t 1)), qq 34 (.mv (.t 7)), qq 35 (.bin .sub (.t 34) (ci 1)), qq 36 (.ixsl 1 (.t 33) (.t 35)), qq 37 (.load false 1 (.t 36)), qq 8 (.mv (.t 37))]) (.seq (.reg [qq 38 (.mv (.t 0)), qq 39 (.lensl (.t 38)), qq 40 (.mv (.t 7)), qq 41 (.bin .sub (.t 39) (.t 40)), qq 42 (.mxmn true (.t 41) (ci 0)), qq 43 (.mkslice 83 1 4 [(.int .u32 0)] (.t 42) (.t 42)), qq 9 (.mv (.t 43))]) (.seq (.seq (.reg [qq 44 (.mv (.t 9)), qq 45 (.lensl (.t 44)), qq 46 (.mv (ci 0))]) (.block 0 (.loop (.seq (.reg [qq 47 (.bin .lss (.t 46) (.t 45))]) (.seq (.cond (.t 47) .skip (.exit 0)) (.seq (.block 1 (.seq (.reg [qq 48 (.mv (.t 46)), qq 10 (.mv (.t 48))]) (.seq (.reg [qq 49 (.mv (.t 9)), qq 50 (.lensl (.t 49)), qq 51 (.bin .sub (.t 50) (ci 1)), qq 52 (.mv (.t 10)), qq 53 (.bin .sub (.t 51) (.t 52)), qq 11 (.mv (.t 53))]) (.seq (.dreg [qu 54 (.mv (.t 0)), qu 55 (.mv (.t 11)), qu 56 (.mv (.t 7)), qu 57 (.bin .add (.t 55) (.t 56)), qu 58 (.ixsl 1 (.t 54) (.t 57)), qu 59 (.load false 1 (.t 58)), qu 60 (.conv .u64 (.t 59)), qu 61 (.bin .shl (.t 60) (.c (.int .u64 32))), qu 62 (.mv (.t 0)), qu 63 (.mv (.t 11)), qu 64 (.mv (.t 7)), qu 65 (.bin .add (.t 63) (.t 64)), qu 66 (.bin .sub (.t 65) (ci 1)), qu 67 (.ixsl 1 (.t 62) (.t 66)), qu 68 (.load false 1 (.t 67)), qu 69 (.conv .u64 (.t 68)), qu 70 (.bin .or (.t 61) (.t 69)), qu 12 (.mv (.t 70))]) (.seq (.dreg [qu 71 (.mv (.t 12)), qu 72 (.mv (.t 8)), qu 73 (.conv .u64 (.t 72)), qu 74 (.bin .quo (.t 71) (.t 73)), qu 75 (.mv (.t 12)), qu 76 (.mv (.t 8)), qu 77 (.conv .u64 (.t 76)), qu 78 (.bin .rem (.t 75) (.t 77)), qu 13 (.mv (.t 74)), qu 14 (.mv (.t 78))]) (.seq (.block 2 (.loop (.seq (.seq (.dreg [qu 79 (.mv (.t 13)), qu 80 (.bin .gtr (.t 79) (.c (.int .u64 4294967295))), qu 81 (.mv (.t 80)), ⟨(some 82), (some (81, false)), [], (.mv (.t 13))⟩, ⟨(some 83), (some (81, false)), [], (.mv (.t 1))⟩, ⟨(some 84), (some (81, false)), [], (.mv (.t 7))⟩, ⟨(some 85), (some (81, false)), [], (.bin .sub (.t 84) (ci 2))⟩, ⟨(some 86), (some (81, false)), [], (.ixsl 1 (.t 83) (.t 85))⟩, ⟨(some 87), (some (81, false)), [], (.load false 1 (.t 86))⟩, ⟨(some 88), (some (81, false)), [], (.conv .u64 (.t 87))⟩, ⟨(some 89), (some (81, false)), [], (.bin .mul (.t 82) (.t 88))⟩, ⟨(some 90), (some (81, false)), [], (.mv (.t 14))⟩, ⟨(some 91), (some (81, false)), [], (.bin .shl (.t 90) (.c (.int .u64 32)))⟩, ⟨(some 92), (some (81, false)), [], (.mv (.t 0))⟩, ⟨(some 93), (some (81, false)), [], (.mv (.t 11))⟩, ⟨(some 94), (some (81, false)), [], (.mv (.t 7))⟩, ⟨(some 95), (some (81, false)), [], (.bin .add (.t 93) (.t 94))⟩, ⟨(some 96), (some (81, false)), [], (.bin .sub (.t 95) (ci 2))⟩, ⟨(some 97), (some (81, false)), [], (.ixsl 1 (.t 92) (.t 96))⟩, ⟨(some 98), (some (81, false)), [], (.load false 1 (.t 97))⟩, ⟨(some 99), (some (81, false)), [], (.conv .u64 (.t 98))⟩, ⟨(some 100), (some (81, false)), [], (.bin .or (.t 91) (.t 99))⟩, ⟨(some 101), (some (81, false)), [], (.bin .gtr (.t 89) (.t 100))⟩, qu 102 (.pick (.t 81) (.c (.bool true)) (.t 101))]) (.cond (.t 102) .skip (.exit 2))) (.block 3 (.seq (.reg [qq 103 (.mv (.t 13)), qq 104 (.bin .sub (.t 103) (.c (.int .u64 1))), qq 105 (.mv (.t 14)), qq 106 (.mv (.t 8)), qq 107 (.conv .u64 (.t 106)), qq 108 (.bin .add (.t 105) (.t 107)), qq 13 (.mv (.t 104)), qq 14 (.mv (.t 108))]) (.seq (.reg [qq 109 (.mv (.t 14)), qq 110 (.bin .gtr (.t 109) (.c (.int .u64 4294967295)))]) (.cond (.t 110) (.exit 2) .skip))))))) (.seq (.seq (.reg [qq 111 (.mv (.t 0)), qq 112 (.mv (.t 11)), qq 113 (.mv (.t 11)), qq 114 (.mv (.t 7)), qq 115 (.bin .add (.t 113) (.t 114)), qq 116 (.bin .add (.t 115) (ci 1)), qq 117 (.slsl 1 (.t 111) (some (.t 112)) (some (.t 116))), qq 118 (.mv (.t 1)), qq 119 (.mv (.t 13)), qq 120 (.conv .u32 (.t 119)), qq 121 (.call 68 [(.t 117), (.t 118), (.t 120)])]) (.cond (.t 121) (.reg [qq 122 (.mv (.t 13)), qq 123 (.bin .sub (.t 122) (.c (.int .u64 1))), qq 13 (.mv (.t 123))]) .skip)) (.reg [qq 124 (.mv (.t 9)), qq 125 (.mv (.t 11)), qq 126 (.mv (.t 13)), qq 127 (.conv .u32 (.t 126)), qq 128 (.ixsl 1 (.t 124) (.t 125)), qn (.store 1 (.t 128) (.t 127))])))))))) (.reg [qq 129 (.bin .add (.t 46) (ci 1)), qq 46 (.mv (.t 129))]))))))) (.seq (.reg [qq 130 (.mv (.t 9)), qq 131 (.mv (.t 0)), qq 132 (.mv (.t 7)), qq 133 (.slsl 1 (.t 131) none (some (.t 132))), qq 134 (.mv (.t 6)), qq 135 (.call 69 [(.t 133), (.t 134)]), qq 4 (.mv (.t 130)), qq 5 (.mv (.t 135))]) .ret)))))))))
theorem tr58 : trFun Tryd.prog 58 = some ⟨136, [.t 4, .t 5], c58⟩ := by kernel_rfl
theorem lm_lt_int (n j : Nat) : ((lm n j : Nat) : Int) < 4294967296 := by have := lm_lt n j; omega
theorem vr2_sl (l1 c1 l2 c2 : Nat) : vr2 fun a b => .tuple ⟨[.slice (some ⟨a, 0, none⟩) l1 c1, .slice (some ⟨b, 0, none⟩) l2 c2]⟩ :=
  fun β i j i' j' h h' => .tup _ _ (.cons _ _ _ _ (.sl i 0 l1 c1 ⟨j, 0, []⟩ h) (.cons _ _ _ _ (.sl i' 0 l2 c2 ⟨j', 0, []⟩ h') .nil))
theorem lz_fits {D p : Nat} (hD : D < 4294967296 ^ (p + 2)) (h1 : 4294967296 ^ (p + 1) ≤ D) : 32 - l32 (lm D (p + 1)) < 32 ∧ D * 2 ^ (32 - l32 (lm D (p + 1))) < 4294967296 ^ (p + 2) := by
  have ht : 1 ≤ lm D (p + 1) := by
    rw [lm_top (j := p + 1) hD]
    exact (Nat.le_div_iff_mul_le (pB _)).2 (by rw [Nat.one_mul]; exact h1)
  have hlt := lm_lt D (p + 1)
  have hp := l32_pos (n := lm D (p + 1)) (by omega) hlt
  have hle := l32_le hlt
  have hl := l32_lt hlt
  refine ⟨by omega, ?_⟩
  have hd : D < (lm D (p + 1) + 1) * 4294967296 ^ (p + 1) := by
    rw [lm_top (j := p + 1) hD, Nat.mul_comm]
    exact Nat.lt_mul_div_succ _ (pB _)
  have h2 : (lm D (p + 1) + 1) * 4294967296 ^ (p + 1) ≤ 2 ^ l32 (lm D (p + 1)) * 4294967296 ^ (p + 1) := Nat.mul_le_mul_right _ hl
  have h3 : D * 2 ^ (32 - l32 (lm D (p + 1))) < 2 ^ l32 (lm D (p + 1)) * 4294967296 ^ (p + 1) * 2 ^ (32 - l32 (lm D (p + 1))) :=
    Nat.mul_lt_mul_of_pos_right (by omega) (Nat.pow_pos (by omega))
  have e : 2 ^ l32 (lm D (p + 1)) * 4294967296 ^ (p + 1) * 2 ^ (32 - l32 (lm D (p + 1))) = 4294967296 ^ (p + 2) := by
    rw [Nat.mul_right_comm, ← Nat.pow_add, show l32 (lm D (p + 1)) + (32 - l32 (lm D (p + 1))) = 32 by omega, show p + 2 = p + 1 + 1 by omega, Nat.pow_succ 4294967296 (p + 1), Nat.mul_comm]
  omega
theorem spLz32_nat {n : Nat} (h : (n : Int) < 4294967296) : spLz32 [.int .u32 (n : Nat)] = some (.int .i64 ((32 - l32 n : Nat) : Int)) := by
  unfold spLz32
  simp only [Int.toNat_natCast]
  rw [if_pos ⟨Int.natCast_nonneg _, h⟩]
theorem lz_all {U D p lu : Nat} (hU : U < 4294967296 ^ lu) (hD : D < 4294967296 ^ (p + 2)) (hD1 : 4294967296 ^ (p + 1) ≤ D) (hmu : p + 2 ≤ lu) :
    32 - l32 (lm D (p + 1)) < 32 ∧ D * 2 ^ (32 - l32 (lm D (p + 1))) < 4294967296 ^ (p + 2) ∧ spLz32 [.int .u32 (lm D (p + 1) : Nat)] = some (.int .i64 ((32 - l32 (lm D (p + 1)) : Nat) : Int)) ∧
    LG (U * 2 ^ (32 - l32 (lm D (p + 1)))) (D * 2 ^ (32 - l32 (lm D (p + 1)))) p (lu + 1 - (p + 2)) (lu + 1) ∧
    U * 2 ^ (32 - l32 (lm D (p + 1))) / (D * 2 ^ (32 - l32 (lm D (p + 1)))) = U / D ∧
    U * 2 ^ (32 - l32 (lm D (p + 1))) % (D * 2 ^ (32 - l32 (lm D (p + 1)))) / 2 ^ (32 - l32 (lm D (p + 1))) = U % D := by
  obtain ⟨hs, hDs⟩ := lz_fits hD hD1
  refine ⟨hs, hDs, ?_, ?_⟩
  · exact spLz32_nat (lm_lt_int _ _)
  generalize 32 - l32 (lm D (p + 1)) = s at *
  have h2 : 0 < 2 ^ s := Nat.pow_pos (by omega)
  refine ⟨⟨hDs, Nat.le_trans hD1 (Nat.le_mul_of_pos_right _ h2), ?_, ?_⟩, Nat.mul_div_mul_right _ _ h2, by rw [Nat.mul_mod_mul_right, Nat.mul_div_cancel _ h2]⟩
  · have h1 : U * 2 ^ s < 4294967296 ^ lu * 2 ^ s := Nat.mul_lt_mul_of_pos_right hU h2
    have h3 : 4294967296 ^ lu * 2 ^ s = 4294967296 ^ (p + 1) * 2 ^ s * 4294967296 ^ (lu + 1 - (p + 2)) := by
      rw [Nat.mul_right_comm, ← Nat.pow_add, show p + 1 + (lu + 1 - (p + 2)) = lu by omega]
    rw [h3] at h1
    exact Nat.lt_of_lt_of_le h1 (Nat.mul_le_mul_right _ (Nat.mul_le_mul_right _ hD1))
  · rw [Nat.pow_succ]
    have : 2 ^ s ≤ 2 ^ 32 := Nat.pow_le_pow_right (by omega) (by omega)
    exact Nat.mul_lt_mul_of_lt_of_le hU this (by omega)
theorem bv_or64 {x c : Nat} (hx : x < 4294967296) (hc : c < 4294967296) : IntKind.u64.wrap ((BitVec.ofInt IntKind.u64.bits ((c * 2 ^ 32 : Nat) : Int) ||| BitVec.ofInt IntKind.u64.bits (x : Int)).toNat : Int) = ((w2 c x : Nat) : Int) := by
  unfold w2
  have h := or_u64 (x := x) (c := c) (s := 32) (by omega) (by omega)
  rw [BitVec.or_comm, h]; omega
set_option maxHeartbeats 4000000 in
theorem nlong_wp {h : Heap} {N ku ou lu cu kd od p cd s dtop Uv Dv K : Nat} {blkd : Blk}
    (hbd : hget h kd = some blkd) (hcell1 : blkd.cells[od + (p + 1)]? = some (.int .u32 (dtop : Nat)))
    (hz : spLz32 [.int .u32 (dtop : Nat)] = some (.int .i64 (s : Nat)))
    (hd : spShift [.slice (some ⟨kd, od, none⟩) (p + 2) cd, .int .i64 (s : Nat)] h = some (fun k => .slice (some ⟨k, 0, none⟩) (p + 2 + 1) (p + 2 + 1), ⟨83, 1, false, tb (p + 2 + 1) (lm Dv)⟩))
    (hu : ∀ x, spShift [.slice (some ⟨ku, ou, none⟩) lu cu, .int .i64 (s : Nat)] ((N + 0, x) :: h) = some (fun k => .slice (some ⟨k, 0, none⟩) (lu + 1) (lu + 1), ⟨83, 1, false, tb (lu + 1) (lm Uv)⟩))
    (hs : s < 32) (g : LG Uv Dv p K (lu + 1)) (hK : K + (p + 2) = lu + 1) (hmu : p + 2 ≤ lu) (hku : lu ≤ 8589934592) :
    wpI (mkEnv [(66, flat spLz32), (67, nwS spShift), (69, nwS spUnshift), (68, upS spTake)]) c58
      (Fin2 [.t 4, .t 5] (fun a b => .tuple ⟨[.slice (some ⟨a, 0, none⟩) K K, .slice (some ⟨b, 0, none⟩) (p + 2) (p + 2)]⟩) ⟨83, 1, false, tb K (lm (Uv / Dv))⟩ ⟨83, 1, false, tb (p + 2) (lm (Uv % Dv / 2 ^ s))⟩ h N)
      ⟨initT [.slice (some ⟨ku, ou, none⟩) lu cu, .slice (some ⟨kd, od, none⟩) (p + 2) cd], h, N + 0⟩ := by
  have e1 : IntKind.i64.wrap (((p + 2 : Nat) : Int) - 1) = ((p + 1 : Nat) : Int) := by rw [i64_in _ (by omega)]; omega
  have c1 : p + 1 < p + 2 := by omega
  have c2 : p + 2 ≤ p + 2 + 1 := by omega
  have c3 : p + 1 ≤ p + 2 := by omega
  have e7 : IntKind.i64.wrap (((lu + 1 : Nat) : Int) - ((p + 2 : Nat) : Int)) = (K : Int) := by rw [i64_in _ (by omega)]; omega
  have e8 : (if (K : Int) < 0 then (0 : Int) else (K : Int)) = (K : Int) := by rw [if_neg (by omega)]
  have e9 : p + 2 - 0 = p + 2 := rfl
  obtain ⟨top, htop⟩ : ∃ top, lm Dv (p + 1) = top := ⟨_, rfl⟩
  have ktop : (tb (p + 2 + 1) (lm Dv))[p + 1]? = some (.int .u32 (top : Nat)) := by rw [tb_get' (lm Dv) (show p + 1 < p + 2 + 1 by omega), htop]
  have e10 : 4 * (K : Int) ≤ 281474976710656 := by omega
  have e11 : (K : Int) ≤ 9223372036854775807 := by omega
  simp only [c58, G0, Nat.reduceAdd]
  simp only [↓R0, R1, simprocAttr, -Int.reduceAbs, e1, c1, c2, c3, hbd, hcell1, hz, nwS, hd, hu, mkSl, e7, e8, Nat.sub_zero, ktop, e9, e10, e11, tb_rep]
  clear hbd hcell1 hz hd hu e1 c3 e7 e8 e9 ktop e10 e11
  refine lp_parts (fun M tm hp nx => ∃ (i : Nat) (f : Nat → Nat), M + i = K ∧ tmget tm 0 = .slice (some ⟨N + 1, 0, none⟩) (lu + 1) (lu + 1) ∧ tmget tm 1 = .slice (some ⟨N + 0, 0, none⟩) (p + 2) (p + 2 + 1) ∧
      tmget tm 6 = .int .i64 s ∧ tmget tm 7 = .int .i64 (p + 2 : Nat) ∧ tmget tm 8 = .int .u32 top ∧ tmget tm 9 = .slice (some ⟨N + 2, 0, none⟩) K K ∧ tmget tm 45 = .int .i64 K ∧ tmget tm 46 = .int .i64 i ∧
      hget hp (N + 0) = some ⟨83, 1, false, tb (p + 2 + 1) (lm Dv)⟩ ∧ hget hp (N + 1) = some ⟨83, 1, false, tb (lu + 1) (lm (lgR Uv Dv M))⟩ ∧ hget hp (N + 2) = some ⟨83, 1, false, tb K f⟩ ∧
      (∀ j, M ≤ j → j < K → f j = lm (Uv / Dv) j) ∧ (∀ q, q < N → hget hp q = hget h q) ∧ nx = N + 3) ?_ K
    ⟨0, fun _ => 0, by omega, ?_, ?_, ?_, ?_, ?_, ?_, ?_, ?_, ?_, ?_, ?_, fun j hj hj2 => by omega, ?_, rfl⟩
  · intro M tm hp nx ⟨i, f, hM, h0, h1, h6, h7, h8, h9, h45, h46, hb0, hb1, hb2, hf, hh, hnx⟩
    subst hnx
    by_cases c4 : i < K
    · obtain ⟨k, rfl⟩ : ∃ k, M = k + 1 := ⟨M - 1, by omega⟩
      obtain ⟨t2, t1, t0, top', d2, qd, X, g1, g2, g3, g4, g5, g6, gX, b2, b1, b0, bt, bd, ht, bq, bX, hI0, hI1, hI2, hI3, hI4, hcells⟩ := lg_step2 g (show k < K by omega) (show k + (p + 2) < lu + 1 by omega)
      rw [htop] at g4
      subst g4
      have e1 : IntKind.i64.wrap ((K : Int) - 1) = ((K - 1 : Nat) : Int) := by rw [i64_in _ (by omega)]; omega
      have e2 : IntKind.i64.wrap (((K - 1 : Nat) : Int) - (i : Int)) = (k : Int) := by rw [i64_in _ (by omega)]; omega
      have e3 : IntKind.i64.wrap ((k : Int) + ((p + 2 : Nat) : Int)) = ((k + (p + 2) : Nat) : Int) := by rw [i64_in _ (by omega)]; omega
      have e4 : IntKind.i64.wrap (((k + (p + 2) : Nat) : Int) - 1) = ((k + (p + 1) : Nat) : Int) := by rw [i64_in _ (by omega)]; omega
      have e5 : IntKind.i64.wrap (((p + 2 : Nat) : Int) - 2) = (p : Int) := by rw [i64_in _ (by omega)]; omega
      have e6 : IntKind.i64.wrap (((k + (p + 2) : Nat) : Int) - 2) = ((k + p : Nat) : Int) := by rw [i64_in _ (by omega)]; omega
      have e7 : IntKind.i64.wrap (((k + (p + 2) : Nat) : Int) + 1) = ((k + (p + 2) + 1 : Nat) : Int) := by rw [i64_in _ (by omega)]; omega
      have e8 : IntKind.i64.wrap ((i : Int) + 1) = ((i + 1 : Nat) : Int) := by rw [i64_in _ (by omega)]; omega
      have k2 : (tb (lu + 1) (lm (lgR Uv Dv (k + 1))))[k + (p + 2)]? = some (.int .u32 (t2 : Nat)) := by rw [tb_get' _ (by omega), g1]
      have k1 : (tb (lu + 1) (lm (lgR Uv Dv (k + 1))))[k + (p + 1)]? = some (.int .u32 (t1 : Nat)) := by rw [tb_get' _ (by omega), g2]
      have k0 : (tb (lu + 1) (lm (lgR Uv Dv (k + 1))))[k + p]? = some (.int .u32 (t0 : Nat)) := by rw [tb_get' _ (by omega), g3]
      have kd2 : (tb (p + 2 + 1) (lm Dv))[p]? = some (.int .u32 (d2 : Nat)) := by rw [tb_get' _ (by omega), g5]
      have a1 : k + (p + 2) < lu + 1 := by omega
      have a2 : k + (p + 1) < lu + 1 := by omega
      have a3 : k + p < lu + 1 := by omega
      have a4 : p < p + 2 := by omega
      have a5 : k < K := by omega
      have a5' : k + 1 ≤ K := by omega
      have a6 : ¬ (lu + 1 = k) := by omega
      have a7 : k + (p + 2) + 1 ≤ lu + 1 := by omega
      have a8 : k + (p + 2) ≤ lu := by omega
      have a9 : k ≤ k + (p + 2) + 1 := by omega
      have a10 : k + (p + 2) + 1 - k = p + 2 + 1 := by omega
      have x2 := u64_nat (n := t2) (by omega)
      have x1 := u64_nat (n := t1) (by omega)
      have x0 := u64_nat (n := t0) (by omega)
      have xd := u64_nat (n := d2) (by omega)
      have xt := u64_nat (n := top) (by omega)
      have s2 : IntKind.u64.wrap ((t2 : Int) * 2 ^ min 32 IntKind.u64.bits) = ((t2 * 2 ^ 32 : Nat) : Int) := shl64 (c := t2) (s := 32) (by omega) (by omega)
      have o2 := bv_or64 b1 b2
      rw [gX] at o2
      clear g1 g2 g3 g5 gX
      have z1 : ¬ ((top : Int) = 0) := by omega
      have z2 : ¬ (top = 0) := by omega
      have q1 : (X : Int).tdiv (top : Int) = ((X / top : Nat) : Int) := by rw [Int.tdiv_eq_ediv_of_nonneg (by omega)]; rfl
      have q2 : (X : Int).tmod (top : Int) = ((X % top : Nat) : Int) := by rw [Int.tmod_eq_emod_of_nonneg (by omega)]; rfl
      have hml := Nat.mod_lt X (show top > 0 by omega)
      have q3 := u64_nat (n := X / top) (Nat.lt_of_le_of_lt (hI4 _ _ hI0) bX)
      have hr0 : X % top < 4294967296 := by omega
      simp only [↓R0, R1, simprocAttr, -Int.reduceAbs, h0, h1, h6, h7, h8, h9, h45, h46, hb0, hb1, hb2, c4, e1, e2, e3, e4, k2, k1, a1, a2, x2, x1, xt, s2, o2, z1, z2, q1, q2, q3]
      refine lp_parts (fun m2 tm hp nx => ∃ (r : Nat), LI X top qd m2 r ∧ r < 4294967296 ∧ tmget tm 0 = .slice (some ⟨N + 1, 0, none⟩) (lu + 1) (lu + 1) ∧ tmget tm 1 = .slice (some ⟨N + 0, 0, none⟩) (p + 2) (p + 2 + 1) ∧
        tmget tm 6 = .int .i64 s ∧ tmget tm 7 = .int .i64 (p + 2 : Nat) ∧ tmget tm 8 = .int .u32 top ∧ tmget tm 9 = .slice (some ⟨N + 2, 0, none⟩) K K ∧ tmget tm 45 = .int .i64 K ∧ tmget tm 46 = .int .i64 i ∧
        tmget tm 11 = .int .i64 k ∧ tmget tm 13 = .int .u64 m2 ∧ tmget tm 14 = .int .u64 r ∧
        hget hp (N + 0) = some ⟨83, 1, false, tb (p + 2 + 1) (lm Dv)⟩ ∧ hget hp (N + 1) = some ⟨83, 1, false, tb (lu + 1) (lm (lgR Uv Dv (k + 1)))⟩ ∧ hget hp (N + 2) = some ⟨83, 1, false, tb K f⟩ ∧
        (∀ q, q < N → hget hp q = hget h q) ∧ nx = N + 3) ?_ (X / top)
        ⟨X % top, hI0, hr0, ?_, ?_, ?_, ?_, ?_, ?_, ?_, ?_, ?_, ?_, ?_, hb0, hb1, hb2, hh, rfl⟩
      · clear h0 h1 h6 h7 h8 h9 h45 h46 hb0 hb1 hb2 hh q1 q2 q3 hml hr0 hI0
        clear tm hp
        intro q tm hp nx ⟨r, hI, hr, h0, h1, h6, h7, h8, h9, h45, h46, h11, h13, h14, hb0, hb1, hb2, hh, hnx⟩
        subst hnx
        have htake : ∀ q' : Nat, qd ≤ q' → q' ≤ qd + 1 → q' < 4294967296 → spTake [.slice (some ⟨N + 1, k, none⟩) (p + 2 + 1) (lu + 1 - k), .slice (some ⟨N + 0, 0, none⟩) (p + 2) (p + 2 + 1), .int .u32 (q' : Nat)] hp = some (.bool (Nat.beq q' (qd + 1)), N + 1, ⟨83, 1, false, tb (lu + 1) (lm (lgR Uv Dv k))⟩) := by
          intro q' l1 l2 l3
          obtain ⟨t1, t2⟩ := hcells q' l1 l2
          have hsh : shows hp (.slice (some ⟨N + 0, 0, none⟩) (p + 2) (p + 2 + 1)) = some (tb (p + 2) (lm Dv)) := by
            simp only [shows, hb0, tb_length, Nat.zero_add]
            rw [if_pos (by omega), List.drop_zero, tb_take _ (by omega)]
          unfold spTake
          simp only [hb1, hsh]
          rw [if_pos ⟨uok_lm _ _, uok_lm _ _, trivial, by rw [tb_length]; omega, by omega, by omega, by omega, by omega, by decide⟩]
          rw [Int.toNat_natCast, lg_ud g, lg_dv g, tb_length, t1, t2]
        by_cases c5 : q < 4294967296
        · have n1 : ¬ ((q : Int) > 4294967295) := by omega
          have hqd2 : q * d2 ≤ 4294967295 * 4294967295 := Nat.mul_le_mul (by omega) (by omega)
          have n2 : IntKind.u64.wrap ((q : Int) * (d2 : Int)) = ((q * d2 : Nat) : Int) := by rw [← Int.natCast_mul, u64_nat (by omega)]
          have n3 : IntKind.u64.wrap ((r : Int) * 2 ^ min 32 IntKind.u64.bits) = ((r * 2 ^ 32 : Nat) : Int) := shl64 (c := r) (s := 32) (by omega) (by omega)
          have n4 := bv_or64 b0 hr
          by_cases c7 : w2 r t0 < q * d2
          · have hcond : 4294967296 ≤ q ∨ w2 r t0 < q * d2 := .inr c7
            have n5 : ((q * d2 : Nat) : Int) > ((w2 r t0 : Nat) : Int) := by omega
            obtain ⟨y1, y2⟩ := hI1 q r hI hcond
            have hqX := hI4 q r hI
            have u1 : IntKind.u64.wrap ((q : Int) - 1) = ((q - 1 : Nat) : Int) := by rw [u64_in _ (by omega)]; omega
            have u2 : IntKind.u64.wrap ((r : Int) + (top : Int)) = ((r + top : Nat) : Int) := by rw [u64_in _ (by omega)]; omega
            by_cases c6 : r + top < 4294967296
            · have u3 : ¬ (((r + top : Nat) : Int) > 4294967295) := by omega
              simp only [↓R0, R1, simprocAttr, -Int.reduceAbs, h0, h1, h6, h7, h8, h9, h45, h46, h11, h13, h14, hb0, hb1, hb2, e5, e3, e6, a3, a4, k0, kd2, x0, xd, xt, u1, u2, u3, n1, n2, n3, n4, n5]
              exact ⟨q - 1, by omega, r + top, y2, c6, rfl, rfl, hh⟩
            · obtain ⟨f1', f2', f3⟩ := hI3 (q - 1) (r + top) y2 (by omega)
              have u3 : ((r + top : Nat) : Int) > 4294967295 := by omega
              simp only [↓R0, R1, simprocAttr, -Int.reduceAbs, h0, h1, h6, h7, h8, h9, h45, h46, h11, h13, h14, hb0, hb1, hb2, e5, e3, e6, a3, a4, k0, kd2, x0, xd, xt, u1, u2, u3, n1, n2, n3, n4, n5]
              have f1 := u32_nat f3
              have f4 := htake (q - 1) f1' f2' f3
              have f5 : IntKind.u32.wrap (qd : Int) = (qd : Int) := u32_nat bq
              by_cases fq : (q - 1) = qd + 1
              · have f6 : Nat.beq (q - 1) (qd + 1) = true := by rw [Nat.beq_eq]; exact fq
                have f7 : IntKind.u64.wrap ((((q - 1) : Nat) : Int) - 1) = (qd : Int) := by rw [u64_in _ (by omega)]; omega
                rw [f6] at f4
                simp only [↓R0, R1, simprocAttr, -Int.reduceAbs, h0, h1, h6, h7, h8, h9, h45, h46, h11, h13, h14, hb0, hb1, hb2, c4, e2, e3, e4, e5, e6, e7, e8, a4, a5, a5', a6, a7, a8, a9, a10, mkSl, upS, f1, f4, f5, f7, tb_length, tb_set, u3]
                refine ⟨k, by omega, i + 1, _, by omega, rfl, rfl, rfl, fun j hj hj2 => ?_, ?_⟩
                · by_cases gj : j = k
                  · rw [if_pos gj, gj, g6]
                  · rw [if_neg gj]; exact hf j (by omega) hj2
                · intro q hq
                  simp only [if_neg (show ¬ N + 2 = q by omega), if_neg (show ¬ N + 1 = q by omega)]
                  exact hh q hq
              · have f6 : Nat.beq (q - 1) (qd + 1) = false := by
                  cases hb : Nat.beq (q - 1) (qd + 1) with
                  | false => rfl
                  | true => rw [Nat.beq_eq] at hb; exact absurd hb fq
                have f8 : (q - 1) = qd := by omega
                rw [f6] at f4
                simp only [↓R0, R1, simprocAttr, -Int.reduceAbs, h0, h1, h6, h7, h8, h9, h45, h46, h11, h13, h14, hb0, hb1, hb2, c4, e2, e3, e4, e5, e6, e7, e8, a4, a5, a5', a6, a7, a8, a9, a10, mkSl, upS, f1, f4, tb_length, tb_set, u3]
                refine ⟨k, by omega, i + 1, _, by omega, rfl, rfl, rfl, fun j hj hj2 => ?_, ?_⟩
                · by_cases gj : j = k
                  · rw [if_pos gj, gj, g6, f8]
                  · rw [if_neg gj]; exact hf j (by omega) hj2
                · intro q hq
                  simp only [if_neg (show ¬ N + 2 = q by omega), if_neg (show ¬ N + 1 = q by omega)]
                  exact hh q hq
          · obtain ⟨f1', f2', f3⟩ := hI2 q r hI c5 (by omega)
            have n5 : ¬ (((q * d2 : Nat) : Int) > ((w2 r t0 : Nat) : Int)) := by omega
            simp only [↓R0, R1, simprocAttr, -Int.reduceAbs, h0, h1, h6, h7, h8, h9, h45, h46, h11, h13, h14, hb0, hb1, hb2, e5, e3, e6, a3, a4, k0, kd2, x0, xd, xt, n1, n2, n3, n4, n5]
            have f1 := u32_nat f3
            have f4 := htake q f1' f2' f3
            have f5 : IntKind.u32.wrap (qd : Int) = (qd : Int) := u32_nat bq
            by_cases fq : q = qd + 1
            · have f6 : Nat.beq q (qd + 1) = true := by rw [Nat.beq_eq]; exact fq
              have f7 : IntKind.u64.wrap (((q : Nat) : Int) - 1) = (qd : Int) := by rw [u64_in _ (by omega)]; omega
              rw [f6] at f4
              simp only [↓R0, R1, simprocAttr, -Int.reduceAbs, h0, h1, h6, h7, h8, h9, h45, h46, h11, h13, h14, hb0, hb1, hb2, c4, e2, e3, e4, e5, e6, e7, e8, a4, a5, a5', a6, a7, a8, a9, a10, mkSl, upS, f1, f4, f5, f7, tb_length, tb_set, n1]
              refine ⟨k, by omega, i + 1, _, by omega, rfl, rfl, rfl, fun j hj hj2 => ?_, ?_⟩
              · by_cases gj : j = k
                · rw [if_pos gj, gj, g6]
                · rw [if_neg gj]; exact hf j (by omega) hj2
              · intro q hq
                simp only [if_neg (show ¬ N + 2 = q by omega), if_neg (show ¬ N + 1 = q by omega)]
                exact hh q hq
            · have f6 : Nat.beq q (qd + 1) = false := by
                cases hb : Nat.beq q (qd + 1) with
                | false => rfl
                | true => rw [Nat.beq_eq] at hb; exact absurd hb fq
              have f8 : q = qd := by omega
              rw [f6] at f4
              simp only [↓R0, R1, simprocAttr, -Int.reduceAbs, h0, h1, h6, h7, h8, h9, h45, h46, h11, h13, h14, hb0, hb1, hb2, c4, e2, e3, e4, e5, e6, e7, e8, a4, a5, a5', a6, a7, a8, a9, a10, mkSl, upS, f1, f4, tb_length, tb_set, n1]
              refine ⟨k, by omega, i + 1, _, by omega, rfl, rfl, rfl, fun j hj hj2 => ?_, ?_⟩
              · by_cases gj : j = k
                · rw [if_pos gj, gj, g6, f8]
                · rw [if_neg gj]; exact hf j (by omega) hj2
              · intro q hq
                simp only [if_neg (show ¬ N + 2 = q by omega), if_neg (show ¬ N + 1 = q by omega)]
                exact hh q hq
        · have n1 : (q : Int) > 4294967295 := by omega
          have hcond : 4294967296 ≤ q ∨ w2 r t0 < q * d2 := .inl (by omega)
          obtain ⟨y1, y2⟩ := hI1 q r hI hcond
          have hqX := hI4 q r hI
          have u1 : IntKind.u64.wrap ((q : Int) - 1) = ((q - 1 : Nat) : Int) := by rw [u64_in _ (by omega)]; omega
          have u2 : IntKind.u64.wrap ((r : Int) + (top : Int)) = ((r + top : Nat) : Int) := by rw [u64_in _ (by omega)]; omega
          by_cases c6 : r + top < 4294967296
          · have u3 : ¬ (((r + top : Nat) : Int) > 4294967295) := by omega
            simp only [↓R0, R1, simprocAttr, -Int.reduceAbs, h0, h1, h6, h7, h8, h9, h45, h46, h11, h13, h14, hb0, hb1, hb2, e5, e3, e6, a3, a4, k0, kd2, x0, xd, xt, u1, u2, u3, n1]
            exact ⟨q - 1, by omega, r + top, y2, c6, rfl, rfl, hh⟩
          · obtain ⟨f1', f2', f3⟩ := hI3 (q - 1) (r + top) y2 (by omega)
            have u3 : ((r + top : Nat) : Int) > 4294967295 := by omega
            simp only [↓R0, R1, simprocAttr, -Int.reduceAbs, h0, h1, h6, h7, h8, h9, h45, h46, h11, h13, h14, hb0, hb1, hb2, e5, e3, e6, a3, a4, k0, kd2, x0, xd, xt, u1, u2, u3, n1]
            have f1 := u32_nat f3
            have f4 := htake (q - 1) f1' f2' f3
            have f5 : IntKind.u32.wrap (qd : Int) = (qd : Int) := u32_nat bq
            by_cases fq : (q - 1) = qd + 1
            · have f6 : Nat.beq (q - 1) (qd + 1) = true := by rw [Nat.beq_eq]; exact fq
              have f7 : IntKind.u64.wrap ((((q - 1) : Nat) : Int) - 1) = (qd : Int) := by rw [u64_in _ (by omega)]; omega
              rw [f6] at f4
              simp only [↓R0, R1, simprocAttr, -Int.reduceAbs, h0, h1, h6, h7, h8, h9, h45, h46, h11, h13, h14, hb0, hb1, hb2, c4, e2, e3, e4, e5, e6, e7, e8, a4, a5, a5', a6, a7, a8, a9, a10, mkSl, upS, f1, f4, f5, f7, tb_length, tb_set, u3]
              refine ⟨k, by omega, i + 1, _, by omega, rfl, rfl, rfl, fun j hj hj2 => ?_, ?_⟩
              · by_cases gj : j = k
                · rw [if_pos gj, gj, g6]
                · rw [if_neg gj]; exact hf j (by omega) hj2
              · intro q hq
                simp only [if_neg (show ¬ N + 2 = q by omega), if_neg (show ¬ N + 1 = q by omega)]
                exact hh q hq
            · have f6 : Nat.beq (q - 1) (qd + 1) = false := by
                cases hb : Nat.beq (q - 1) (qd + 1) with
                | false => rfl
                | true => rw [Nat.beq_eq] at hb; exact absurd hb fq
              have f8 : (q - 1) = qd := by omega
              rw [f6] at f4
              simp only [↓R0, R1, simprocAttr, -Int.reduceAbs, h0, h1, h6, h7, h8, h9, h45, h46, h11, h13, h14, hb0, hb1, hb2, c4, e2, e3, e4, e5, e6, e7, e8, a4, a5, a5', a6, a7, a8, a9, a10, mkSl, upS, f1, f4, tb_length, tb_set, u3]
              refine ⟨k, by omega, i + 1, _, by omega, rfl, rfl, rfl, fun j hj hj2 => ?_, ?_⟩
              · by_cases gj : j = k
                · rw [if_pos gj, gj, g6, f8]
                · rw [if_neg gj]; exact hf j (by omega) hj2
              · intro q hq
                simp only [if_neg (show ¬ N + 2 = q by omega), if_neg (show ¬ N + 1 = q by omega)]
                exact hh q hq
      · (first | (simp only [↓R0, R1, simprocAttr, -Int.reduceAbs, h0]; done) | (simp only [↓R0, R1, simprocAttr, -Int.reduceAbs, h0]; rfl) | rfl)
      · (first | (simp only [↓R0, R1, simprocAttr, -Int.reduceAbs, h1]; done) | (simp only [↓R0, R1, simprocAttr, -Int.reduceAbs, h1]; rfl) | rfl)
      · (first | (simp only [↓R0, R1, simprocAttr, -Int.reduceAbs, h6]; done) | (simp only [↓R0, R1, simprocAttr, -Int.reduceAbs, h6]; rfl) | rfl)
      · (first | (simp only [↓R0, R1, simprocAttr, -Int.reduceAbs, h7]; done) | (simp only [↓R0, R1, simprocAttr, -Int.reduceAbs, h7]; rfl) | rfl)
      · (first | (simp only [↓R0, R1, simprocAttr, -Int.reduceAbs, h8]; done) | (simp only [↓R0, R1, simprocAttr, -Int.reduceAbs, h8]; rfl) | rfl)
      · (first | (simp only [↓R0, R1, simprocAttr, -Int.reduceAbs, h9]; done) | (simp only [↓R0, R1, simprocAttr, -Int.reduceAbs, h9]; rfl) | rfl)
      · (first | (simp only [↓R0, R1, simprocAttr, -Int.reduceAbs, h45]; done) | (simp only [↓R0, R1, simprocAttr, -Int.reduceAbs, h45]; rfl) | rfl)
      · (first | (simp only [↓R0, R1, simprocAttr, -Int.reduceAbs, h46]; done) | (simp only [↓R0, R1, simprocAttr, -Int.reduceAbs, h46]; rfl) | rfl)
      · (first | (simp only [↓R0, R1, simprocAttr, -Int.reduceAbs]; done) | (simp only [↓R0, R1, simprocAttr, -Int.reduceAbs]; rfl) | rfl)
      · (first | (simp only [↓R0, R1, simprocAttr, -Int.reduceAbs]; done) | (simp only [↓R0, R1, simprocAttr, -Int.reduceAbs]; rfl) | rfl)
      · (first | (simp only [↓R0, R1, simprocAttr, -Int.reduceAbs]; done) | (simp only [↓R0, R1, simprocAttr, -Int.reduceAbs]; rfl) | rfl)
    · have ei : i = K := by omega
      have em : M = 0 := by omega
      subst em
      subst ei
      have hun : spUnshift [.slice (some ⟨N + 1, 0, none⟩) (p + 2) (lu + 1), .int .i64 (s : Nat)] hp = some (fun k => .slice (some ⟨k, 0, none⟩) (p + 2) (p + 2), ⟨83, 1, false, tb (p + 2) (lm (Uv % Dv / 2 ^ s))⟩) := by
        have hsh : shows hp (.slice (some ⟨N + 1, 0, none⟩) (p + 2) (lu + 1)) = some (tb (p + 2) (lm (lgR Uv Dv 0))) := by
          simp only [shows, hb1, tb_length, Nat.zero_add]
          rw [if_pos (by omega), List.drop_zero, tb_take _ (by omega)]
        unfold spUnshift
        simp only [hsh]
        rw [if_pos ⟨uok_lm _ _, by rw [tb_length]; omega, by omega, by omega⟩]
        rw [Int.toNat_natCast, lg_end g, tb_length]
      have htb : tb i f = tb i (lm (Uv / Dv)) := tb_congr fun j hj => hf j (by omega) hj
      have a6 : ¬ (lu + 1 = 0) := by omega
      have a7 : p + 2 ≤ lu + 1 := by omega
      have a8 : p + 1 ≤ lu := by omega
      have a9 : p + 2 - 0 = p + 2 := rfl
      have a10 : lu + 1 - 0 = lu + 1 := rfl
      simp only [↓R0, R1, simprocAttr, -Int.reduceAbs, h0, h1, h6, h7, h8, h9, h45, h46, hb0, hb1, hb2, c4, mkSl, a6, a7, a8, a9, a10, nwS, hun]
      refine ⟨trivial, _, N + 2, N + 3, false, false, rfl, ?_, by omega, by omega, by omega, ?_, ?_, ?_⟩
      · (first | (simp only [↓R0, R1, simprocAttr, -Int.reduceAbs, one]; done) | (simp only [↓R0, R1, simprocAttr, -Int.reduceAbs, one]; rfl) | rfl)
      · simp only [↓R0, R1, simprocAttr, -Int.reduceAbs, hb2, htb]
      · simp only [↓R0, R1, simprocAttr, -Int.reduceAbs]
      · intro q hq
        simp only [↓R0, R1, simprocAttr, -Int.reduceAbs, hget_new hq]
        exact hh q hq
  · (first | (simp only [↓R0, R1, simprocAttr, -Int.reduceAbs]; done) | (simp only [↓R0, R1, simprocAttr, -Int.reduceAbs]; rfl) | rfl)
  · (first | (simp only [↓R0, R1, simprocAttr, -Int.reduceAbs]; done) | (simp only [↓R0, R1, simprocAttr, -Int.reduceAbs]; rfl) | rfl)
  · (first | (simp only [↓R0, R1, simprocAttr, -Int.reduceAbs]; done) | (simp only [↓R0, R1, simprocAttr, -Int.reduceAbs]; rfl) | rfl)
  · (first | (simp only [↓R0, R1, simprocAttr, -Int.reduceAbs]; done) | (simp only [↓R0, R1, simprocAttr, -Int.reduceAbs]; rfl) | rfl)
  · (first | (simp only [↓R0, R1, simprocAttr, -Int.reduceAbs]; done) | (simp only [↓R0, R1, simprocAttr, -Int.reduceAbs]; rfl) | rfl)
  · (first | (simp only [↓R0, R1, simprocAttr, -Int.reduceAbs]; done) | (simp only [↓R0, R1, simprocAttr, -Int.reduceAbs]; rfl) | rfl)
  · (first | (simp only [↓R0, R1, simprocAttr, -Int.reduceAbs]; done) | (simp only [↓R0, R1, simprocAttr, -Int.reduceAbs]; rfl) | rfl)
  · (first | (simp only [↓R0, R1, simprocAttr, -Int.reduceAbs]; done) | (simp only [↓R0, R1, simprocAttr, -Int.reduceAbs]; rfl) | rfl)
  · (first | (simp only [↓R0, R1, simprocAttr, -Int.reduceAbs]; done) | (simp only [↓R0, R1, simprocAttr, -Int.reduceAbs]; rfl) | rfl)
  · (first | (simp only [↓R0, R1, simprocAttr, -Int.reduceAbs, lgR_top g]; done) | (simp only [↓R0, R1, simprocAttr, -Int.reduceAbs, lgR_top g]; rfl) | rfl)
  · (first | (simp only [↓R0, R1, simprocAttr, -Int.reduceAbs]; done) | (simp only [↓R0, R1, simprocAttr, -Int.reduceAbs]; rfl) | rfl)
  · intro q hq
    simp only [↓R0, R1, simprocAttr, -Int.reduceAbs, hget_new hq]
theorem ok_nlong : SpecOK Tryd.prog 58 (nw2S spLong) := by
  refine nw2_run (env_cons ok_lz32 (env_cons ok_nshift (env_cons ok_nunshift (env_cons ok_ntake (env_nil _))))) mixed tr58 ?_ ?_
  · intro args h h' v hle e
    unfold spLong at e ⊢
    split at e
    · split at e
      · rename_i us ds hcu hcd
        simp only [shows_mono hle hcu, shows_mono hle hcd]; exact e
      · cases e
    · cases e
  intro args vf b b' h N hG hN
  unfold spLong at hG
  split at hG
  case h_2 => cases hG
  rename_i _ vu vd
  split at hG
  case h_2 => cases hG
  rename_i us ds hcu hcd
  split at hG
  case isFalse => cases hG
  rename_i hl
  obtain ⟨huu, hud, hm2, hmu, hku, hD1⟩ := hl
  cases hG
  refine ⟨rfl, rfl, tb_base _ _, tb_base _ _, vr2_sl _ _ _ _, by simp, ?_⟩
  obtain ⟨ku, ou, lu, cu, blku, rfl, hbu, hleu, hcellu, hU, hlenu⟩ := shows_tb hcu huu
  obtain ⟨kd, od, m, cd, blkd, rfl, hbd, hled, hcelld, hD, hlend⟩ := shows_tb hcd hud
  have hku' := hN _ _ hbu
  have hkd' := hN _ _ hbd
  rw [hlenu] at hmu hku ⊢
  rw [hlend] at hm2 hmu hD1 ⊢
  obtain ⟨p, rfl⟩ : ∃ p, m = p + 2 := ⟨m - 2, by omega⟩
  rw [show p + 2 - 1 = p + 1 by omega] at hD1
  have hcell1 := hcelld (p + 1) (by omega)
  obtain ⟨hs, hDs, hz, g, hdiv, hmod⟩ := lz_all hU hD hD1 hmu
  generalize 32 - l32 (lm (ud ds) (p + 1)) = s at *
  have hd : spShift [.slice (some ⟨kd, od, none⟩) (p + 2) cd, .int .i64 (s : Nat)] h = some (fun k => .slice (some ⟨k, 0, none⟩) (p + 2 + 1) (p + 2 + 1), ⟨83, 1, false, tb (p + 2 + 1) (lm (ud ds * 2 ^ s))⟩) := by
    unfold spShift
    simp only [hcd]
    rw [if_pos ⟨hud, by rw [hlend]; omega, by omega, by omega⟩, Int.toNat_natCast, hlend]
  have hu : ∀ x, spShift [.slice (some ⟨ku, ou, none⟩) lu cu, .int .i64 (s : Nat)] ((N + 0, x) :: h) = some (fun k => .slice (some ⟨k, 0, none⟩) (lu + 1) (lu + 1), ⟨83, 1, false, tb (lu + 1) (lm (ud us * 2 ^ s))⟩) := by
    intro x
    unfold spShift
    simp only [shows_new hku', hcu]
    rw [if_pos ⟨huu, by rw [hlenu]; omega, by omega, by omega⟩, Int.toNat_natCast, hlenu]
  have := nlong_wp hbd hcell1 hz hd hu hs g (by omega) hmu hku
  rw [hdiv, hmod] at this
  exact this
end Go.Eng
end
section
set_option linter.unusedVariables false
set_option linter.unusedSimpArgs false
set_option linter.unusedSectionVars false
set_option maxRecDepth 4000
namespace Go.Eng
open Go Go.Proofs Go.IntWalk
def spNDiv : List Value → Option Value
  | [.string ⟨⟨l⟩⟩, .string ⟨⟨m⟩⟩] => if l.length ≤ 34359738368 ∧ m.length ≤ 34359738368 then
      (if nl m = 0 then some (.tuple ⟨[.string ⟨⟨[]⟩⟩, .string ⟨⟨[]⟩⟩, .bool false]⟩) else some (.tuple ⟨[.string ⟨⟨bl (nl l / nl m)⟩⟩, .string ⟨⟨bl (nl l % nl m)⟩⟩, .bool true]⟩)) else none
  | _ => none
def c46 : ICode :=
  (.seq (.reg [qq 4 (.mv (.c e0)), qq 5 (.mv (.c e0)), qq 6 (.mv (.c (.bool false)))]) (.seq (.reg [qq 12 (.mv (.t 1)), qq 13 (.call 54 [(.t 12)]), qq 7 (.mv (.t 13))]) (.seq (.block 0 (.seq (.reg [qq 15 (.mv (.t 7)), qq 16 (.lensl (.t 15)), qq 17 (.bin .eql (.t 16) (ci 0)), qq 14 (.mv (.t 17))]) (.cond (.t 14) (.seq (.reg [qq 4 (.mv (.c e0)), qq 5 (.mv (.c e0)), qq 6 (.mv (.c (.bool false)))]) .ret) (.seq (.reg [qq 19 (.mv (.t 0)), qq 20 (.mv (.t 1)), qq 21 (.call 55 [(.t 19), (.t 20)]), qq 22 (.bin .lss (.t 21) (ci 0)), qq 18 (.mv (.t 22))]) (.cond (.t 18) (.seq (.reg [qq 23 (.mv (.t 0)), qq 24 (.call 40 [(.t 23)]), qq 4 (.mv (.c e0)), qq 5 (.mv (.t 24)), qq 6 (.mv (.c (.bool true)))]) .ret) (.seq (.reg [qq 26 (.mv (.t 7)), qq 27 (.lensl (.t 26)), qq 28 (.bin .eql (.t 27) (ci 1)), qq 25 (.mv (.t 28))]) (.cond (.t 25) (.seq (.dreg [qu 30 (.mv (.t 0)), qu 31 (.call 54 [(.t 30)]), qu 32 (.mv (.t 7)), qu 33 (.ixsl 1 (.t 32) (ci 0)), qv 34 [1] (.load false 1 (.t 33)), qu 35 (.call 56 [(.t 31), (.t 34)]), qu 29 (.mv (.t 35)), qu 36 (.ext (.t 29) 0), qu 37 (.ext (.t 29) 1), qu 8 (.mv (.t 36)), qu 9 (.mv (.t 37))]) (.seq (.reg [qq 38 (.mv (.t 8)), qq 39 (.call 57 [(.t 38)]), qq 40 (.mv (.t 9)), qq 41 (.conv .u64 (.t 40)), qq 42 (.call 48 [(.t 41)]), qq 4 (.mv (.t 39)), qq 5 (.mv (.t 42)), qq 6 (.mv (.c (.bool true)))]) .ret)) .skip))))))) (.seq (.reg [qq 44 (.mv (.t 0)), qq 45 (.call 54 [(.t 44)]), qq 46 (.mv (.t 7)), qq 47 (.call 58 [(.t 45), (.t 46)]), qq 43 (.mv (.t 47)), qq 48 (.ext (.t 43) 0), qq 49 (.ext (.t 43) 1), qq 10 (.mv (.t 48)), qq 11 (.mv (.t 49))]) (.seq (.reg [qq 50 (.mv (.t 10)), qq 51 (.call 57 [(.t 50)]), qq 52 (.mv (.t 11)), qq 53 (.call 57 [(.t 52)]), qq 4 (.mv (.t 51)), qq 5 (.mv (.t 53)), qq 6 (.mv (.c (.bool true)))]) .ret)))))
theorem tr46 : trFun Tryd.prog 46 = some ⟨54, [.t 4, .t 5, .t 6], c46⟩ := by kernel_rfl
theorem lk_low {n : Nat} (h : n ≠ 0) : 4294967296 ^ (lk n - 1) ≤ n := by
  have h0 : lk n ≠ 0 := fun e => h (lk_zero.1 e)
  exact lk_top (k := lk n - 1) (by omega)
theorem lk_mono {a b : Nat} (h : a ≤ b) : lk a ≤ lk b := by
  have := bl_length_mono h
  unfold lk; omega
theorem short_at {h : Heap} {N a b : Nat} (hb0 : b ≠ 0) (hb1 : lk b = 1) (ha : lk a ≤ 8589934592) :
    spShort [.slice (some ⟨N + 1, 0, none⟩) (lk a) (lk a), .int .u32 (b : Nat)] ((N + 1, some ⟨83, 1, false, tb (lk a) (lm a)⟩) :: (N + 0, some ⟨83, 1, false, tb 1 (lm b)⟩) :: h) =
      some (fun k => .tuple ⟨[.slice (some ⟨k, 0, none⟩) (lk a) (lk a), .int .u32 (a % b : Nat)]⟩, ⟨83, 1, false, tb (lk a) (lm (a / b))⟩) := by
  have hb : b < 4294967296 := by have := lk_lt b; rw [hb1] at this; omega
  unfold spShort
  simp only [shows, hget, if_true, tb_length, Nat.zero_add, Nat.le_refl, List.drop_zero, tb_all]
  rw [if_pos ⟨uok_lm _ _, by omega, by omega, by omega⟩, Int.toNat_natCast, ud_tb, Nat.mod_eq_of_lt (lk_lt a)]
theorem long_at {h : Heap} {N a b : Nat} (hb1 : 2 ≤ lk b) (hab : b ≤ a) (ha : lk a ≤ 8589934592) :
    spLong [.slice (some ⟨N + 1, 0, none⟩) (lk a) (lk a), .slice (some ⟨N + 0, 0, none⟩) (lk b) (lk b)] ((N + 1, some ⟨83, 1, false, tb (lk a) (lm a)⟩) :: (N + 0, some ⟨83, 1, false, tb (lk b) (lm b)⟩) :: h) =
      some (fun x y => .tuple ⟨[.slice (some ⟨x, 0, none⟩) (lk a + 1 - lk b) (lk a + 1 - lk b), .slice (some ⟨y, 0, none⟩) (lk b) (lk b)]⟩, ⟨83, 1, false, tb (lk a + 1 - lk b) (lm (a / b))⟩, ⟨83, 1, false, tb (lk b) (lm (a % b))⟩) := by
  have hb0 : b ≠ 0 := fun e => by rw [lk_zero.2 e] at hb1; omega
  unfold spLong
  simp only [shows, hget, if_true, if_neg (show ¬ N + 1 = N + 0 by omega), tb_length, Nat.zero_add, Nat.le_refl, List.drop_zero, tb_all]
  have ea : ud (tb (lk a) (lm a)) = a := by rw [ud_tb, Nat.mod_eq_of_lt (lk_lt a)]
  have eb : ud (tb (lk b) (lm b)) = b := by rw [ud_tb, Nat.mod_eq_of_lt (lk_lt b)]
  rw [ea, eb, if_pos ⟨uok_lm _ _, uok_lm _ _, hb1, lk_mono hab, ha, lk_low hb0⟩]
theorem mag_quo {a b : Nat} (hb0 : b ≠ 0) (hab : b ≤ a) : a / b < 4294967296 ^ (lk a + 1 - lk b) := by
  have h1 := lk_low hb0
  have h2 := lk_lt a
  have h3 := lk_mono hab
  have h0 : lk b ≠ 0 := fun e => hb0 (lk_zero.1 e)
  refine (Nat.div_lt_iff_lt_mul (by omega)).2 ?_
  have e : 4294967296 ^ lk a = 4294967296 ^ (lk a + 1 - lk b) * 4294967296 ^ (lk b - 1) := by rw [← Nat.pow_add]; congr 1; omega
  rw [e] at h2
  exact Nat.lt_of_lt_of_le h2 (Nat.mul_le_mul_left _ h1)
set_option maxHeartbeats 1000000 in
theorem ok_nDiv : SpecOK Tryd.prog 46 (flat spNDiv) := by
  refine flat_run (env_cons ok_nlimbs (env_cons ok_nCmp (env_cons ok_nNorm (env_cons ok_nshort (env_cons ok_nmag (env_cons ok_nFU64 (env_cons ok_nlong (env_nil _)))))))) mixed tr46 ?_
  intro args v h N hG
  unfold spNDiv at hG
  split at hG
  case h_2 => cases hG
  rename_i l m
  split at hG
  case isFalse => cases hG
  rename_i hl
  obtain ⟨hl, hm⟩ := hl
  have hl' : l.length ≤ 1099511627776 := by omega
  have hm' : m.length ≤ 1099511627776 := by omega
  have hL : lk (nl l) ≤ 8589934592 := lk_len (Nat.le_trans (bl_length_nl l) (by omega))
  have hM : lk (nl m) ≤ 8589934592 := lk_len (Nat.le_trans (bl_length_nl m) (by omega))
  split at hG
  · rename_i h0
    cases hG
    refine ⟨rfl, by simp, ?_⟩
    have hk : lk 0 = 0 := lk_zero.2 rfl
    simp only [c46, G0, Nat.reduceAdd]
    simp only [↓R0, R1, simprocAttr, -Int.reduceAbs, nwS, spLimbs, hl', hm', h0, hk, Int.natCast_zero, Fin, isEnd, resL, res1, iE, rE]
    exact ⟨_, rfl, rfl, fun k hk => by simp only [ne_nb hk, if_false]⟩
  rename_i h0
  cases hG
  refine ⟨rfl, by simp, ?_⟩
  simp only [c46, G0, Nat.reduceAdd]
  generalize ha : nl l = a at *
  generalize hb : nl m = b at *
  have hk0 : ¬ (lk b = 0) := fun e => h0 (lk_zero.1 e)
  have hk0' : ¬ (((lk b : Nat) : Int) = 0) := by omega
  by_cases hlt : a < b
  · rw [Nat.div_eq_of_lt hlt, Nat.mod_eq_of_lt hlt, bl_zero]
    simp only [↓R0, R1, simprocAttr, -Int.reduceAbs, nwS, spLimbs, hl', hm', ha, hb, hk0, hk0', spNCmp, cmpN_neg, hlt, spNNorm, Fin, isEnd, resL, res1, iE, rE]
    exact ⟨_, rfl, rfl, fun k hk => by simp only [ne_nb hk, if_false]⟩
  by_cases hk1 : lk b = 1
  · have hb1 : b < 4294967296 := by have := lk_lt b; rw [hk1] at this; omega
    have t0 : (tb 1 (lm b))[0]? = some (.int .u32 (b : Nat)) := by rw [tb_get' _ (by omega), lm_zero, Nat.mod_eq_of_lt hb1]
    have hr := Nat.mod_lt a (show b > 0 by omega)
    have w1 := u64_nat (n := a % b) (by omega)
    have w2 : ((a % b : Nat) : Int) < 18446744073709551616 := by omega
    have hq : ud (tb (lk a) (lm (a / b))) = a / b := by rw [ud_tb, Nat.mod_eq_of_lt (Nat.lt_of_le_of_lt (Nat.div_le_self _ _) (lk_lt a))]
    have c5 : lk a ≤ 34359738368 := by omega
    have ss := fun h => short_at (h := h) (N := N) h0 hk1 hL
    simp only [↓R0, R1, simprocAttr, -Int.reduceAbs, nwS, spLimbs, hl', hm', ha, hb, hk0, hk0', spNCmp, cmpN_neg, hlt, hk1, t0, ss, rdS, spMag, shows, tb_all, uok_lm, tb_length, c5, hq, w1, w2, spFU64, Fin, isEnd, resL, res1, iE, rE]
    exact ⟨_, rfl, rfl, fun k hk => by simp only [ne_nb hk, if_false]⟩
  · have hk2 : 2 ≤ lk b := by omega
    have hk1' : ¬ (((lk b : Nat) : Int) = 1) := by omega
    have nn : ¬ (N = N + 1) := by omega
    have ss := fun h => long_at (h := h) (N := N) hk2 (show b ≤ a by omega) hL
    have hq : ud (tb (lk a + 1 - lk b) (lm (a / b))) = a / b := by rw [ud_tb, Nat.mod_eq_of_lt (mag_quo h0 (by omega))]
    have hr : ud (tb (lk b) (lm (a % b))) = a % b := by rw [ud_tb, Nat.mod_eq_of_lt (Nat.lt_trans (Nat.mod_lt a (by omega)) (lk_lt b))]
    have c5 : lk a + 1 - lk b ≤ 34359738368 := by omega
    have c6 : lk b ≤ 34359738368 := by omega
    simp only [↓R0, R1, simprocAttr, -Int.reduceAbs, nwS, spLimbs, hl', hm', ha, hb, hk0, hk0', spNCmp, cmpN_neg, hlt, hk1, hk1', nn, ss, nw2S, a_call2, rdS, spMag, shows, tb_all, uok_lm, tb_length, c5, c6, hq, hr, Fin, isEnd, resL, res1, iE, rE]
    exact ⟨_, rfl, rfl, fun k hk => by simp only [ne_nb hk, if_false]; rw [if_neg (by omega)]⟩
def spNGcd : List Value → Option Value
  | [.string ⟨⟨l⟩⟩, .string ⟨⟨m⟩⟩] => if l.length ≤ 34359738368 ∧ m.length ≤ 34359738368 then some (.string ⟨⟨bl (Nat.gcd (nl l) (nl m))⟩⟩) else none
  | _ => none
def c44 : ICode :=
  (.seq (.reg [qq 4 (.mv (.c e0))]) (.seq (.block 0 (.loop (.seq (.seq (.reg [qq 12 (.mv (.t 1)), qq 13 (.call 40 [(.t 12)]), qq 14 (.bin .neq (.t 13) (.c e0))]) (.cond (.t 14) .skip (.exit 0))) (.block 1 (.seq (.reg [qq 16 (.mv (.t 0)), qq 17 (.call 53 [(.t 16)]), qq 15 (.mv (.t 17)), qq 18 (.ext (.t 15) 0), qq 19 (.ext (.t 15) 1), qq 5 (.mv (.t 18)), qq 6 (.mv (.t 19))]) (.seq (.reg [qq 21 (.mv (.t 1)), qq 22 (.call 53 [(.t 21)]), qq 20 (.mv (.t 22)), qq 23 (.ext (.t 20) 0), qq 24 (.ext (.t 20) 1), qq 7 (.mv (.t 23)), qq 8 (.mv (.t 24))]) (.seq (.seq (.reg [qq 25 (.mv (.t 6)), qq 26 (.mv (.t 25)), ⟨(some 27), (some (26, true)), (.mv (.t 8))⟩, qq 28 (.pick (.t 26) (.t 27) (.c (.bool false)))]) (.cond (.t 28) (.seq (.block 2 (.loop (.seq (.seq (.reg [qq 29 (.mv (.t 7)), qq 30 (.bin .neq (.t 29) (.c (.int .u64 0)))]) (.cond (.t 30) .skip (.exit 2))) (.block 3 (.dreg [qu 31 (.mv (.t 7)), qu 32 (.mv (.t 5)), qu 33 (.mv (.t 7)), qu 34 (.bin .rem (.t 32) (.t 33)), qu 5 (.mv (.t 31)), qu 7 (.mv (.t 34))]))))) (.seq (.reg [qq 35 (.mv (.t 5)), qq 36 (.call 48 [(.t 35)]), qq 4 (.mv (.t 36))]) .ret)) .skip)) (.seq (.reg [qq 38 (.mv (.t 0)), qq 39 (.mv (.t 1)), qq 40 (.call 46 [(.t 38), (.t 39)]), qq 37 (.mv (.t 40)), qq 41 (.ext (.t 37) 0), qq 42 (.ext (.t 37) 1), qq 43 (.ext (.t 37) 2), qq 9 (.mv (.t 41)), qq 10 (.mv (.t 42)), qq 11 (.mv (.t 43))]) (.reg [qq 44 (.mv (.t 1)), qq 45 (.mv (.t 10)), qq 0 (.mv (.t 44)), qq 1 (.mv (.t 45))]))))))))) (.seq (.reg [qq 46 (.mv (.t 0)), qq 47 (.call 40 [(.t 46)]), qq 4 (.mv (.t 47))]) .ret)))
theorem tr44 : trFun Tryd.prog 44 = some ⟨48, [.t 4], c44⟩ := by kernel_rfl
theorem gcd_len {a b k : Nat} (hb : b ≠ 0) (h : (bl b).length ≤ k) : (bl (a % b)).length ≤ k :=
  Nat.le_trans (bl_length_mono (Nat.le_of_lt (Nat.mod_lt _ (by omega)))) h
set_option maxHeartbeats 1000000 in
theorem ok_nGcd : SpecOK Tryd.prog 44 (flat spNGcd) := by
  refine flat_run (env_cons ok_nNorm (env_cons ok_nU64 (env_cons ok_nFU64 (env_cons ok_nDiv (env_nil _))))) mixed tr44 ?_
  intro args v h N hG
  unfold spNGcd at hG
  split at hG
  case h_2 => cases hG
  rename_i l m
  split at hG
  case isFalse => cases hG
  rename_i hl
  obtain ⟨hl, hm⟩ := hl
  cases hG
  refine ⟨rfl, by simp, ?_⟩
  simp only [c44, G0, Nat.reduceAdd]
  simp only [↓R0, R1, simprocAttr, -Int.reduceAbs]
  refine lp_parts (fun n tm hp nx => ∃ (l' m' : List UInt8), n = nl m' ∧ tmget tm 0 = .string ⟨⟨l'⟩⟩ ∧ tmget tm 1 = .string ⟨⟨m'⟩⟩ ∧ l'.length ≤ 34359738368 ∧ m'.length ≤ 34359738368 ∧ Nat.gcd (nl l') (nl m') = Nat.gcd (nl l) (nl m) ∧
      hp = h ∧ nx = N + 0) ?_ (nl m) ⟨l, m, rfl, ?_, ?_, hl, hm, rfl, rfl, rfl⟩
  · intro n tm hp nx ⟨l', m', hn, h0, h1, hl1, hm1, hg, hh, hnx⟩
    rw [hnx, hh]
    clear hnx hh
    rw [← hg]
    have hl' : l'.length ≤ 1099511627776 := by omega
    have hm' : m'.length ≤ 1099511627776 := by omega
    by_cases hb0 : nl m' = 0
    · rw [hb0, Nat.gcd_zero_right]
      simp only [↓R0, R1, simprocAttr, -Int.reduceAbs, h0, h1, spNNorm, hl', hm', hb0, bl_zero, Fin, isEnd, resL, res1, iE, rE]
      exact ⟨_, rfl, rfl, fun k hk => by simp only [ne_nb hk, if_false]⟩
    · have hbn : ¬ (bl (nl m') = []) := fun e => hb0 (bl_eq_nil.1 e)
      by_cases hs : nl l' < 18446744073709551616 ∧ nl m' < 18446744073709551616
      · obtain ⟨hs1, hs2⟩ := hs
        simp only [↓R0, R1, simprocAttr, -Int.reduceAbs, h0, h1, spNNorm, hl', hm', hbn, spU64, hs1, hs2]
        generalize nl l' = a at *
        generalize nl m' = b at *
        refine lp_parts (fun n tm hp nx => ∃ (x : Nat), x < 18446744073709551616 ∧ n < 18446744073709551616 ∧ tmget tm 5 = .int .u64 x ∧ tmget tm 7 = .int .u64 n ∧ Nat.gcd x n = Nat.gcd a b ∧ hp = h ∧ nx = N + 0) ?_ b ⟨a, hs1, hs2, ?_, ?_, rfl, rfl, rfl⟩
        · clear h0 h1
          clear tm hp
          intro y tm hp nx ⟨x, hx, hy, h5, h7, hxy, hh, hnx⟩
          rw [hnx, hh]
          clear hnx hh
          by_cases y0 : y = 0
          · subst y0
            rw [Nat.gcd_zero_right] at hxy
            rw [← hxy]
            have f1 : ((x : Nat) : Int) < 18446744073709551616 := by omega
            simp only [↓R0, R1, simprocAttr, -Int.reduceAbs, h5, h7, spFU64, f1, Int.natCast_zero, Fin, isEnd, resL, res1, iE, rE]
            exact ⟨_, rfl, rfl, fun k hk => by simp only [ne_nb hk, if_false]⟩
          · have y1 : ¬ ((y : Int) = 0) := by omega
            have e1 : (x : Int).tmod (y : Int) = ((x % y : Nat) : Int) := by rw [Int.tmod_eq_emod_of_nonneg (by omega)]; rfl
            have hmod := Nat.mod_lt x (show y > 0 by omega)
            simp only [↓R0, R1, simprocAttr, -Int.reduceAbs, h5, h7, y0, y1, e1]
            refine ⟨x % y, hmod, y, hy, by omega, rfl, rfl, ?_⟩
            rw [← hxy, Nat.gcd_comm x y, Nat.gcd_rec y x, Nat.gcd_comm]
        · (first | (simp only [↓R0, R1, simprocAttr, -Int.reduceAbs]; done) | (simp only [↓R0, R1, simprocAttr, -Int.reduceAbs]; rfl) | rfl)
        · (first | (simp only [↓R0, R1, simprocAttr, -Int.reduceAbs]; done) | (simp only [↓R0, R1, simprocAttr, -Int.reduceAbs]; rfl) | rfl)
      · have next : ∃ n', n' < n ∧ n' = nl (bl (nl l' % nl m')) := ⟨_, by rw [nl_bl, hn]; exact Nat.mod_lt _ (by omega), rfl⟩
        have hgg : Nat.gcd (nl m') (nl (bl (nl l' % nl m'))) = Nat.gcd (nl l') (nl m') := by
          rw [nl_bl, Nat.gcd_comm (nl l') (nl m'), Nat.gcd_rec (nl m') (nl l'), Nat.gcd_comm]
        have hlen : (bl (nl l' % nl m')).length ≤ 34359738368 := gcd_len hb0 (Nat.le_trans (bl_length_nl m') hm1)
        obtain ⟨n', hn1, hn2⟩ := next
        by_cases hs1 : nl l' < 18446744073709551616
        · have hs2 : ¬ (nl m' < 18446744073709551616) := fun e => hs ⟨hs1, e⟩
          simp only [↓R0, R1, simprocAttr, -Int.reduceAbs, h0, h1, spNNorm, hl', hm', hbn, spU64, hs1, hs2, spNDiv, hl1, hm1, hb0]
          refine ⟨n', hn1, m', bl (nl l' % nl m'), hn2, rfl, rfl, hm1, hlen, hgg⟩
        · by_cases hs2 : nl m' < 18446744073709551616
          · have := hs
            simp only [↓R0, R1, simprocAttr, -Int.reduceAbs, h0, h1, spNNorm, hl', hm', hbn, spU64, hs1, hs2, spNDiv, hl1, hm1, hb0]
            refine ⟨n', hn1, m', bl (nl l' % nl m'), hn2, rfl, rfl, hm1, hlen, hgg⟩
          · have := hs
            simp only [↓R0, R1, simprocAttr, -Int.reduceAbs, h0, h1, spNNorm, hl', hm', hbn, spU64, hs1, hs2, spNDiv, hl1, hm1, hb0]
            refine ⟨n', hn1, m', bl (nl l' % nl m'), hn2, rfl, rfl, hm1, hlen, hgg⟩
  · (first | (simp only [↓R0, R1, simprocAttr, -Int.reduceAbs]; done) | (simp only [↓R0, R1, simprocAttr, -Int.reduceAbs]; rfl) | rfl)
  · (first | (simp only [↓R0, R1, simprocAttr, -Int.reduceAbs]; done) | (simp only [↓R0, R1, simprocAttr, -Int.reduceAbs]; rfl) | rfl)
end Go.Eng
end
section
set_option linter.unusedVariables false
set_option linter.unusedSimpArgs false
set_option linter.unusedSectionVars false
set_option maxRecDepth 4000
namespace Go.Eng
open Go Go.Proofs Go.IntWalk
end Go.Eng
end
section
set_option linter.unusedVariables false
set_option linter.unusedSimpArgs false
set_option linter.unusedSectionVars false
set_option maxRecDepth 4000
namespace Go.Eng
open Go Go.Proofs Go.IntWalk
end Go.Eng
end
section
set_option linter.unusedVariables false
set_option linter.unusedSimpArgs false
set_option linter.unusedSectionVars false
set_option maxRecDepth 4000
namespace Go.Eng
open Go Go.Proofs Go.IntWalk
theorem sv_mul (s t : Bool) (l m : List UInt8) : sv (decide (s ≠ t)) (bl (nl l * nl m)) = sv s l * sv t m := by
  rw [sv_bl]
  cases s <;> cases t <;> simp [sv, Int.neg_mul, Int.mul_neg]
end Go.Eng
end
section
set_option linter.unusedVariables false
set_option linter.unusedSimpArgs false
set_option linter.unusedSectionVars false
set_option maxRecDepth 4000
namespace Go.Eng
open Go Go.Proofs Go.IntWalk
end Go.Eng
end
section
set_option linter.unusedVariables false
set_option linter.unusedSimpArgs false
set_option linter.unusedSectionVars false
set_option maxRecDepth 4000
namespace Go.Eng
open Go Go.Proofs Go.IntWalk
end Go.Eng
end
section
set_option linter.unusedVariables false
set_option linter.unusedSimpArgs false
set_option linter.unusedSectionVars false
set_option maxRecDepth 4000
namespace Go.Eng
open Go Go.Proofs Go.IntWalk
end Go.Eng
end
section
set_option linter.unusedVariables false
set_option linter.unusedSimpArgs false
set_option linter.unusedSectionVars false
set_option maxRecDepth 4000
namespace Go.Eng
open Go Go.Proofs Go.IntWalk
end Go.Eng
end
section
set_option linter.unusedVariables false
set_option linter.unusedSimpArgs false
set_option linter.unusedSectionVars false
set_option maxRecDepth 4000
namespace Go.Eng
open Go Go.Proofs Go.IntWalk
theorem bl_dv (d : List UInt8) : (bl (dv d).natAbs).length ≤ d.length + 1 := by
  unfold dv
  split
  · exact Nat.le_trans (bl_length_le (k := 1).2 (by decide)) (by omega)
  · exact Nat.le_trans (bl_length_nl d) (by omega)
theorem dv_nl (d : List UInt8) : ¬ (dv d).natAbs = 0 := by have := dv_pos d; omega
end Go.Eng
end
section
set_option linter.unusedVariables false
set_option linter.unusedSimpArgs false
set_option linter.unusedSectionVars false
set_option maxRecDepth 4000
namespace Go.Eng
open Go Go.Proofs Go.IntWalk
theorem len_mul {a b : Int} {j k : Nat} (ha : (bl a.natAbs).length ≤ j) (hb : (bl b.natAbs).length ≤ k) : (bl (a * b).natAbs).length ≤ j + k := by
  rw [Int.natAbs_mul]; exact Nat.le_trans (bl_length_mul _ _) (by omega)
theorem len_add {a b : Int} {k : Nat} (ha : (bl a.natAbs).length ≤ k) (hb : (bl b.natAbs).length ≤ k) : (bl (a + b).natAbs).length ≤ k + 1 :=
  Nat.le_trans (bl_length_mono (Int.natAbs_add_le a b)) (bl_length_add ha hb)
theorem len_sv {s : Bool} {n : List UInt8} {k : Nat} (h : n.length ≤ k) : (bl (sv s n).natAbs).length ≤ k := by rw [sv_natAbs]; exact Nat.le_trans (bl_length_nl n) h
theorem len_dv {d : List UInt8} {k : Nat} (h : d.length + 1 ≤ k) : (bl (dv d).natAbs).length ≤ k := Nat.le_trans (bl_dv d) h
end Go.Eng
end
section
set_option linter.unusedVariables false
set_option linter.unusedSimpArgs false
set_option linter.unusedSectionVars false
set_option maxRecDepth 4000
namespace Go.Eng
open Go Go.Proofs Go.IntWalk
end Go.Eng
end
section
set_option linter.unusedVariables false
set_option linter.unusedSimpArgs false
set_option linter.unusedSectionVars false
set_option maxRecDepth 4000
namespace Go.Eng
open Go Go.Proofs Go.IntWalk
theorem len_rneg (q : Rat) : (-q).num.natAbs = q.num.natAbs ∧ (-q).den = q.den := by
  constructor
  · rw [Rat.neg_num]; simp
  · rw [Rat.neg_den]
theorem len_den (q : Rat) {k : Nat} (h : (bl q.den).length ≤ k) : (if q.den = 1 then ([] : List UInt8) else bl q.den).length ≤ k := by
  split
  · simp
  · exact h
theorem divInt_le {N D : Int} (hD : 0 < D) : (Rat.divInt N D).num.natAbs ≤ N.natAbs ∧ (Rat.divInt N D).den ≤ D.natAbs := by
  obtain ⟨h1, h2, _⟩ := divInt_cells (N := N) (D := D) (by omega)
  rw [h1, h2]
  exact ⟨Nat.div_le_self _ _, Nat.div_le_self _ _⟩
end Go.Eng
end
section
set_option linter.unusedVariables false
set_option linter.unusedSimpArgs false
set_option linter.unusedSectionVars false
set_option maxRecDepth 4000
namespace Go.Eng
open Go Go.Proofs Go.IntWalk
end Go.Eng
end
section
set_option linter.unusedVariables false
set_option linter.unusedSimpArgs false
set_option linter.unusedSectionVars false
set_option maxRecDepth 4000
namespace Go.Eng
open Go Go.Proofs Go.IntWalk
def spIof : List Value → Option Value
  | [.bool s, .string ⟨⟨l⟩⟩] => if bl (nl l) = l then some (.agg ⟨iE (sv s l)⟩) else none
  | _ => none
def c42 : ICode :=
  (.seq (.reg [qq 4 (.alloc 51 2 [(.bool false), e0])]) (.seq (.reg [qq 5 (.mv (.t 0)), qq 6 (.mv (.t 5)), ⟨(some 7), (some (6, true)), (.mv (.t 1))⟩, ⟨(some 8), (some (6, true)), (.bin .neq (.t 7) (.c e0))⟩, qq 9 (.pick (.t 6) (.t 8) (.c (.bool false))), qq 10 (.mv (.t 1)), qq 11 (.build [(.bool false), e0] [(0, 1, (.t 9)), (1, 1, (.t 10))]), qn (.store 2 (.t 4) (.t 11))]) .ret))
theorem tr42 : trFun Tryd.prog 42 = some ⟨12, [.cell 4 true 2], c42⟩ := by kernel_rfl
theorem ok_iof : SpecOK Tryd.prog 42 (flat spIof) := by
  refine flat_run (env_nil _) mixed tr42 ?_
  intro args v h N hG
  unfold spIof at hG
  split at hG
  case h_2 => cases hG
  rename_i s l
  split at hG
  case isFalse => cases hG
  rename_i hl
  cases hG
  refine ⟨rfl, by simp, ?_⟩
  rw [iE_sv, hl]
  simp only [c42, G0, Nat.reduceAdd]
  cases s
  · simp only [↓R0, R1, simprocAttr, -Int.reduceAbs, Bool.false_and, Fin, isEnd, resL, res1, iE, rE]
    exact ⟨_, rfl, rfl, fun k hk => by simp only [ne_nb hk, if_false]⟩
  · simp only [↓R0, R1, simprocAttr, -Int.reduceAbs, Bool.true_and, Fin, isEnd, resL, res1, iE, rE]
    exact ⟨_, rfl, rfl, fun k hk => by simp only [ne_nb hk, if_false]⟩
def spINorm : List Value → Option Value
  | [.agg ⟨[.bool s, .string ⟨⟨l⟩⟩]⟩] => if l.length ≤ 1099511627776 then some (.agg ⟨iE (sv s l)⟩) else none
  | _ => none
def c41 : ICode :=
  (.seq (.reg [qq 1 (.box 51 2 (.t 0)), qq 2 (.alloc 51 2 [(.bool false), e0])]) (.seq (.dreg [qu 3 (.faddr 0 (.t 1)), qu 4 (.load false 1 (.t 3)), qu 5 (.faddr 1 (.t 1)), qu 6 (.load false 1 (.t 5)), qu 7 (.call 40 [(.t 6)]), qu 8 (.call 42 [(.t 4), (.t 7)]), qm (.store 2 (.t 2) (.t 8))]) .ret))
theorem tr41 : trFun Tryd.prog 41 = some ⟨9, [.cell 2 true 2], c41⟩ := by kernel_rfl
theorem sv_nl (s : Bool) (l : List UInt8) : sv s (bl (nl l)) = sv s l := by cases s <;> simp [sv, nl_bl]
theorem ok_iNorm : SpecOK Tryd.prog 41 (flat spINorm) := by
  refine flat_run (env_cons ok_iof (env_cons ok_nNorm (env_nil _))) mixed tr41 ?_
  intro args v h N hG
  unfold spINorm at hG
  split at hG
  case h_2 => cases hG
  rename_i s l
  split at hG
  case isFalse => cases hG
  rename_i hl
  cases hG
  refine ⟨rfl, by simp, ?_⟩
  simp only [c41, G0, Nat.reduceAdd]
  simp only [↓R0, R1, simprocAttr, -Int.reduceAbs, spNNorm, spIof, hl, nl_bl, sv_nl, Fin, isEnd, resL, res1, iE, rE]
  exact ⟨_, rfl, rfl, fun k hk => by simp only [ne_nb hk, if_false]⟩
def spISign : List Value → Option Value
  | [.agg ⟨[.bool s, .string ⟨⟨l⟩⟩]⟩] => if l.length ≤ 1099511627776 then some (.int .i64 (sv s l).sign) else none
  | _ => none
def c27 : ICode :=
  (.seq (.reg [qq 1 (.box 51 2 (.t 0)), qq 2 (.mv (ci 0))]) (.seq (.seq (.reg [qq 3 (.load true 2 (.t 1)), qq 4 (.call 41 [(.t 3)]), qn (.store 2 (.t 1) (.t 4))]) (.block 0 (.seq (.reg [qq 6 (.faddr 0 (.t 1)), qq 7 (.load false 1 (.t 6)), qq 5 (.mv (.t 7))]) (.cond (.t 5) (.seq (.reg [qq 2 (.mv (ci (-1)))]) .ret) (.seq (.reg [qq 9 (.faddr 1 (.t 1)), qq 10 (.load false 1 (.t 9)), qq 11 (.bin .neq (.t 10) (.c e0)), qq 8 (.mv (.t 11))]) (.cond (.t 8) (.seq (.reg [qq 2 (.mv (ci 1))]) .ret) .skip)))))) (.seq (.reg [qq 2 (.mv (ci 0))]) .ret)))
theorem tr27 : trFun Tryd.prog 27 = some ⟨12, [.t 2], c27⟩ := by kernel_rfl
theorem ok_iSign : SpecOK Tryd.prog 27 (flat spISign) := by
  refine flat_run (env_cons ok_iNorm (env_nil _)) mixed tr27 ?_
  intro args v h N hG
  unfold spISign at hG
  split at hG
  case h_2 => cases hG
  rename_i s l
  split at hG
  case isFalse => cases hG
  rename_i hl
  cases hG
  refine ⟨rfl, by simp, ?_⟩
  simp only [c27, G0, Nat.reduceAdd]
  simp only [↓R0, R1, simprocAttr, -Int.reduceAbs, spINorm, hl, iE]
  generalize sv s l = z
  rcases Int.lt_trichotomy z 0 with hz | hz | hz
  · rw [Int.sign_eq_neg_one_of_neg hz]
    simp only [↓R0, R1, simprocAttr, -Int.reduceAbs, hz, Fin, isEnd, resL, res1, iE, rE]
    exact ⟨_, rfl, rfl, fun k hk => by simp only [ne_nb hk, if_false]⟩
  · subst hz
    have z0 : bl (Int.natAbs 0) = [] := bl_zero
    simp only [↓R0, R1, simprocAttr, -Int.reduceAbs, z0, Int.lt_irrefl, Int.sign_zero, Fin, isEnd, resL, res1, iE, rE]
    exact ⟨_, rfl, rfl, fun k hk => by simp only [ne_nb hk, if_false]⟩
  · rw [Int.sign_eq_one_of_pos hz]
    have z1 : ¬ (z < 0) := by omega
    have z2 : ¬ (bl z.natAbs = []) := fun e => by have := bl_eq_nil.1 e; omega
    simp only [↓R0, R1, simprocAttr, -Int.reduceAbs, z1, z2, Fin, isEnd, resL, res1, iE, rE]
    exact ⟨_, rfl, rfl, fun k hk => by simp only [ne_nb hk, if_false]⟩
def spINeg : List Value → Option Value
  | [.agg ⟨[.bool s, .string ⟨⟨l⟩⟩]⟩] => if l.length ≤ 1099511627776 then some (.agg ⟨iE (- sv s l)⟩) else none
  | _ => none
def c29 : ICode :=
  (.seq (.reg [qq 1 (.box 51 2 (.t 0)), qq 2 (.alloc 51 2 [(.bool false), e0])]) (.seq (.reg [qq 3 (.load true 2 (.t 1)), qq 4 (.call 41 [(.t 3)]), qn (.store 2 (.t 1) (.t 4))]) (.seq (.reg [qq 5 (.faddr 0 (.t 1)), qq 6 (.load false 1 (.t 5)), qq 7 (.un .not (.t 6)), qq 8 (.faddr 1 (.t 1)), qq 9 (.load false 1 (.t 8)), qq 10 (.call 42 [(.t 7), (.t 9)]), qn (.store 2 (.t 2) (.t 10))]) .ret)))
theorem tr29 : trFun Tryd.prog 29 = some ⟨11, [.cell 2 true 2], c29⟩ := by kernel_rfl
theorem ok_iNeg : SpecOK Tryd.prog 29 (flat spINeg) := by
  refine flat_run (env_cons ok_iof (env_cons ok_iNorm (env_nil _))) mixed tr29 ?_
  intro args v h N hG
  unfold spINeg at hG
  split at hG
  case h_2 => cases hG
  rename_i s l
  split at hG
  case isFalse => cases hG
  rename_i hl
  cases hG
  refine ⟨rfl, by simp, ?_⟩
  have hz : sv (!decide (sv s l < 0)) (bl (sv s l).natAbs) = - sv s l := by rw [sv_neg, sv_can]
  simp only [c29, G0, Nat.reduceAdd]
  simp only [↓R0, R1, simprocAttr, -Int.reduceAbs, spINorm, spIof, hl, nl_bl, hz, Fin, isEnd, resL, res1, iE, rE]
  exact ⟨_, rfl, rfl, fun k hk => by simp only [ne_nb hk, if_false]⟩
def spIFrom : List Value → Option Value
  | [.int .i64 n] => if -9223372036854775808 ≤ n ∧ n ≤ 9223372036854775807 then some (.agg ⟨iE n⟩) else none
  | _ => none
def c34 : ICode :=
  (.seq (.reg [qq 2 (.alloc 51 2 [(.bool false), e0])]) (.seq (.seq (.reg [qq 3 (.mv (.t 0)), qq 4 (.bin .lss (.t 3) (ci 0))]) (.cond (.t 4) (.seq (.reg [qq 5 (.mv (.t 0)), qq 6 (.bin .add (.t 5) (ci 1)), qq 7 (.un .neg (.t 6)), qq 8 (.conv .u64 (.t 7)), qq 9 (.bin .add (.t 8) (.c (.int .u64 1))), qq 10 (.call 48 [(.t 9)]), qq 11 (.call 42 [(.c (.bool true)), (.t 10)]), qn (.store 2 (.t 2) (.t 11))]) .ret) .skip)) (.seq (.reg [qq 12 (.mv (.t 0)), qq 13 (.conv .u64 (.t 12)), qq 14 (.call 48 [(.t 13)]), qq 15 (.call 42 [(.c (.bool false)), (.t 14)]), qn (.store 2 (.t 2) (.t 15))]) .ret)))
theorem tr34 : trFun Tryd.prog 34 = some ⟨16, [.cell 2 true 2], c34⟩ := by kernel_rfl
theorem ok_iFrom : SpecOK Tryd.prog 34 (flat spIFrom) := by
  refine flat_run (env_cons ok_iof (env_cons ok_nFU64 (env_nil _))) mixed tr34 ?_
  intro args v h N hG
  unfold spIFrom at hG
  split at hG
  case h_2 => cases hG
  rename_i n
  split at hG
  case isFalse => cases hG
  rename_i hl
  cases hG
  refine ⟨rfl, by simp, ?_⟩
  simp only [c34, G0, Nat.reduceAdd]
  simp only [↓R0, R1, simprocAttr, -Int.reduceAbs]
  refine cd_case (fun hb => ?_) (fun hb => ?_)
  · have hn : n < 0 := by simpa using hb
    have hz : sv true (bl n.natAbs) = n := by rw [sv_true, nl_bl]; omega
    have e1 : IntKind.i64.wrap (n + 1) = n + 1 := by rw [i64_in _ (by omega)]
    have e2 : IntKind.i64.wrap (0 - (n + 1)) = (n.natAbs : Int) - 1 := by rw [i64_in _ (by omega)]; omega
    have e3 : IntKind.u64.wrap ((n.natAbs : Int) - 1) = (n.natAbs : Int) - 1 := by rw [u64_in _ (by omega)]
    have e4 : IntKind.u64.wrap ((n.natAbs : Int) - 1 + 1) = (n.natAbs : Int) := by rw [u64_in _ (by omega)]; omega
    have e5 : (n.natAbs : Int) < 18446744073709551616 := by omega
    simp only [↓R0, R1, simprocAttr, -Int.reduceAbs, e1, e2, e3, e4, e5, spFU64, spIof, nl_bl, hz, Fin, isEnd, resL, res1, iE, rE]
    exact ⟨_, rfl, rfl, fun k hk => by simp only [ne_nb hk, if_false]⟩
  · have hn : 0 ≤ n := by simpa using hb
    have hz : sv false (bl n.natAbs) = n := by rw [sv_false, nl_bl]; omega
    have e3 : IntKind.u64.wrap n = (n.natAbs : Int) := by rw [u64_in _ (by omega)]; omega
    have e5 : (n.natAbs : Int) < 18446744073709551616 := by omega
    simp only [↓R0, R1, simprocAttr, -Int.reduceAbs, e3, e5, spFU64, spIof, nl_bl, hz, Fin, isEnd, resL, res1, iE, rE]
    exact ⟨_, rfl, rfl, fun k hk => by simp only [ne_nb hk, if_false]⟩
def spIAdd : List Value → Option Value
  | [.agg ⟨[.bool s, .string ⟨⟨l⟩⟩]⟩, .agg ⟨[.bool t, .string ⟨⟨m⟩⟩]⟩] => if l.length ≤ 68719476736 ∧ m.length ≤ 68719476736 then some (.agg ⟨iE (sv s l + sv t m)⟩) else none
  | _ => none
def c35 : ICode :=
  (.seq (.reg [qq 2 (.box 51 2 (.t 0)), qq 3 (.box 51 2 (.t 1)), qq 4 (.alloc 51 2 [(.bool false), e0])]) (.seq (.dreg [qu 9 (.load true 2 (.t 2)), qu 10 (.call 41 [(.t 9)]), qv 11 [1] (.load true 2 (.t 3)), qu 12 (.call 41 [(.t 11)]), qm (.store 2 (.t 2) (.t 10)), qm (.store 2 (.t 3) (.t 12))]) (.seq (.seq (.reg [qq 13 (.faddr 0 (.t 2)), qq 14 (.load false 1 (.t 13)), qq 15 (.faddr 0 (.t 3)), qq 16 (.load false 1 (.t 15)), qq 17 (.eqb false (.t 14) (.t 16))]) (.cond (.t 17) (.seq (.dreg [qu 18 (.faddr 0 (.t 2)), qu 19 (.load false 1 (.t 18)), qu 20 (.faddr 1 (.t 2)), qu 21 (.load false 1 (.t 20)), qu 22 (.faddr 1 (.t 3)), qu 23 (.load false 1 (.t 22)), qu 24 (.call 49 [(.t 21), (.t 23)]), qu 25 (.call 42 [(.t 19), (.t 24)]), qm (.store 2 (.t 4) (.t 25))]) .ret) .skip)) (.seq (.seq (.reg [qq 27 (.faddr 1 (.t 2)), qq 28 (.load false 1 (.t 27)), qq 29 (.faddr 1 (.t 3)), qq 30 (.load false 1 (.t 29)), qq 31 (.call 50 [(.t 28), (.t 30)]), qq 26 (.mv (.t 31)), qq 32 (.ext (.t 26) 0), qq 33 (.ext (.t 26) 1), qq 5 (.mv (.t 32)), qq 6 (.mv (.t 33))]) (.seq (.reg [qq 34 (.mv (.t 6))]) (.cond (.t 34) (.seq (.reg [qq 35 (.faddr 0 (.t 2)), qq 36 (.load false 1 (.t 35)), qq 37 (.mv (.t 5)), qq 38 (.call 42 [(.t 36), (.t 37)]), qn (.store 2 (.t 4) (.t 38))]) .ret) .skip))) (.seq (.reg [qq 40 (.faddr 1 (.t 3)), qq 41 (.load false 1 (.t 40)), qq 42 (.faddr 1 (.t 2)), qq 43 (.load false 1 (.t 42)), qq 44 (.call 50 [(.t 41), (.t 43)]), qq 39 (.mv (.t 44)), qq 45 (.ext (.t 39) 0), qq 46 (.ext (.t 39) 1), qq 7 (.mv (.t 45)), qq 8 (.mv (.t 46))]) (.seq (.reg [qq 47 (.faddr 0 (.t 3)), qq 48 (.load false 1 (.t 47)), qq 49 (.mv (.t 7)), qq 50 (.call 42 [(.t 48), (.t 49)]), qn (.store 2 (.t 4) (.t 50))]) .ret))))))
theorem tr35 : trFun Tryd.prog 35 = some ⟨51, [.cell 4 true 2], c35⟩ := by kernel_rfl
theorem iadd_same {x y : Int} (h : decide (x < 0) = decide (y < 0)) : sv (decide (y < 0)) (bl (x.natAbs + y.natAbs)) = x + y := by
  rw [sv_bl]
  by_cases hx : x < 0
  · have hy : y < 0 := by simpa [hx] using h
    simp [hy]; omega
  · have hy : ¬ y < 0 := by simpa [hx] using h
    simp [hy]; omega
theorem iadd_diff {x y : Int} (h : ¬ decide (x < 0) = decide (y < 0)) :
    (x.natAbs < y.natAbs → sv (decide (y < 0)) (bl (y.natAbs - x.natAbs)) = x + y) ∧ (¬ x.natAbs < y.natAbs → sv (decide (x < 0)) (bl (x.natAbs - y.natAbs)) = x + y) := by
  rw [sv_bl, sv_bl]
  by_cases hx : x < 0
  · have hy : ¬ y < 0 := by simpa [hx] using h
    constructor
    · intro g; simp [hy]; omega
    · intro g; simp [hx]; omega
  · have hy : y < 0 := by simpa [hx] using h
    constructor
    · intro g; simp [hy]; omega
    · intro g; simp [hx]; omega
theorem ok_iAdd : SpecOK Tryd.prog 35 (flat spIAdd) := by
  refine flat_run (env_cons ok_iof (env_cons ok_iNorm (env_cons ok_nAdd (env_cons ok_nSub (env_nil _))))) mixed tr35 ?_
  intro args v h N hG
  unfold spIAdd at hG
  split at hG
  case h_2 => cases hG
  rename_i s l t m
  split at hG
  case isFalse => cases hG
  rename_i hl
  obtain ⟨hl, hm⟩ := hl
  cases hG
  refine ⟨rfl, by simp, ?_⟩
  have hl' : l.length ≤ 1099511627776 := by omega
  have hm' : m.length ≤ 1099511627776 := by omega
  have n1 := len_sv (s := s) hl
  have n2 := len_sv (s := t) hm
  simp only [c35, G0, Nat.reduceAdd]
  simp only [↓R0, R1, simprocAttr, -Int.reduceAbs, spINorm, hl', hm', iE]
  generalize sv s l = x at *
  generalize sv t m = y at *
  by_cases hst : decide (x < 0) = decide (y < 0)
  · have hz := iadd_same hst
    simp only [↓R0, R1, simprocAttr, -Int.reduceAbs, hst, spNAdd, n1, n2, nl_bl, spIof, hz, Fin, isEnd, resL, res1, iE, rE]
    exact ⟨_, rfl, rfl, fun k hk => by simp only [ne_nb hk, if_false]⟩
  · obtain ⟨d1, d2⟩ := iadd_diff hst
    by_cases hlt : x.natAbs < y.natAbs
    · have hlt2 : ¬ y.natAbs < x.natAbs := by omega
      have hz := d1 hlt
      simp only [↓R0, R1, simprocAttr, -Int.reduceAbs, hst, spNSub, n1, n2, nl_bl, hlt, hlt2, spIof, hz, Fin, isEnd, resL, res1, iE, rE]
      exact ⟨_, rfl, rfl, fun k hk => by simp only [ne_nb hk, if_false]⟩
    · have hz := d2 hlt
      simp only [↓R0, R1, simprocAttr, -Int.reduceAbs, hst, spNSub, n1, n2, nl_bl, hlt, spIof, hz, Fin, isEnd, resL, res1, iE, rE]
      exact ⟨_, rfl, rfl, fun k hk => by simp only [ne_nb hk, if_false]⟩
def spISub : List Value → Option Value
  | [.agg ⟨[.bool s, .string ⟨⟨l⟩⟩]⟩, .agg ⟨[.bool t, .string ⟨⟨m⟩⟩]⟩] => if l.length ≤ 68719476736 ∧ m.length ≤ 68719476736 then some (.agg ⟨iE (sv s l - sv t m)⟩) else none
  | _ => none
def c52 : ICode :=
  (.seq (.reg [qq 2 (.box 51 2 (.t 0)), qq 3 (.box 51 2 (.t 1)), qq 4 (.alloc 51 2 [(.bool false), e0])]) (.seq (.dreg [qu 5 (.load true 2 (.t 2)), qu 6 (.load true 2 (.t 3)), qu 7 (.call 29 [(.t 6)]), qu 8 (.call 35 [(.t 5), (.t 7)]), qm (.store 2 (.t 4) (.t 8))]) .ret))
theorem tr52 : trFun Tryd.prog 52 = some ⟨9, [.cell 4 true 2], c52⟩ := by kernel_rfl
theorem ok_iSub : SpecOK Tryd.prog 52 (flat spISub) := by
  refine flat_run (env_cons ok_iNeg (env_cons ok_iAdd (env_nil _))) mixed tr52 ?_
  intro args v h N hG
  unfold spISub at hG
  split at hG
  case h_2 => cases hG
  rename_i s l t m
  split at hG
  case isFalse => cases hG
  rename_i hl
  obtain ⟨hl, hm⟩ := hl
  cases hG
  refine ⟨rfl, by simp, ?_⟩
  have hm' : m.length ≤ 1099511627776 := by omega
  have n2 : (bl (-sv t m).natAbs).length ≤ 68719476736 := by rw [Int.natAbs_neg]; exact len_sv hm
  rw [Int.sub_eq_add_neg]
  simp only [c52, G0, Nat.reduceAdd]
  simp only [↓R0, R1, simprocAttr, -Int.reduceAbs, spINeg, spIAdd, hl, hm', n2, Fin, isEnd, resL, res1, iE, rE]
  exact ⟨_, rfl, rfl, fun k hk => by simp only [ne_nb hk, if_false]⟩
def spICmp : List Value → Option Value
  | [.agg ⟨[.bool s, .string ⟨⟨l⟩⟩]⟩, .agg ⟨[.bool t, .string ⟨⟨m⟩⟩]⟩] => if l.length ≤ 68719476736 ∧ m.length ≤ 68719476736 then some (.int .i64 (sv s l - sv t m).sign) else none
  | _ => none
def c43 : ICode :=
  (.seq (.reg [qq 2 (.box 51 2 (.t 0)), qq 3 (.box 51 2 (.t 1)), qq 4 (.mv (ci 0))]) (.seq (.reg [qq 5 (.load true 2 (.t 2)), qq 6 (.load true 2 (.t 3)), qq 7 (.call 52 [(.t 5), (.t 6)]), qq 8 (.call 27 [(.t 7)]), qq 4 (.mv (.t 8))]) .ret))
theorem tr43 : trFun Tryd.prog 43 = some ⟨9, [.t 4], c43⟩ := by kernel_rfl
theorem ok_iCmp : SpecOK Tryd.prog 43 (flat spICmp) := by
  refine flat_run (env_cons ok_iSub (env_cons ok_iSign (env_nil _))) mixed tr43 ?_
  intro args v h N hG
  unfold spICmp at hG
  split at hG
  case h_2 => cases hG
  rename_i s l t m
  split at hG
  case isFalse => cases hG
  rename_i hl
  obtain ⟨hl, hm⟩ := hl
  cases hG
  refine ⟨rfl, by simp, ?_⟩
  have n2 : (bl (-sv t m).natAbs).length ≤ 68719476736 := by rw [Int.natAbs_neg]; exact len_sv hm
  have n3 : (bl (sv s l - sv t m).natAbs).length ≤ 1099511627776 := by rw [Int.sub_eq_add_neg]; exact Nat.le_trans (len_add (len_sv hl) n2) (by omega)
  simp only [c43, G0, Nat.reduceAdd]
  simp only [↓R0, R1, simprocAttr, -Int.reduceAbs, spISub, spISign, hl, hm, n3, Fin, isEnd, resL, res1, iE, rE]
  exact ⟨_, rfl, rfl, fun k hk => by simp only [ne_nb hk, if_false]⟩
def spIMul : List Value → Option Value
  | [.agg ⟨[.bool s, .string ⟨⟨l⟩⟩]⟩, .agg ⟨[.bool t, .string ⟨⟨m⟩⟩]⟩] => if l.length ≤ 34359738368 ∧ m.length ≤ 34359738368 then some (.agg ⟨iE (sv s l * sv t m)⟩) else none
  | _ => none
def c33 : ICode :=
  (.seq (.reg [qq 2 (.box 51 2 (.t 0)), qq 3 (.box 51 2 (.t 1)), qq 4 (.alloc 51 2 [(.bool false), e0])]) (.seq (.dreg [qu 5 (.load true 2 (.t 2)), qu 6 (.call 41 [(.t 5)]), qv 7 [1] (.load true 2 (.t 3)), qu 8 (.call 41 [(.t 7)]), qm (.store 2 (.t 2) (.t 6)), qm (.store 2 (.t 3) (.t 8))]) (.seq (.dreg [qu 9 (.faddr 0 (.t 2)), qu 10 (.load false 1 (.t 9)), qu 11 (.faddr 0 (.t 3)), qu 12 (.load false 1 (.t 11)), qu 13 (.eqb true (.t 10) (.t 12)), qu 14 (.faddr 1 (.t 2)), qu 15 (.load false 1 (.t 14)), qu 16 (.faddr 1 (.t 3)), qu 17 (.load false 1 (.t 16)), qu 18 (.call 47 [(.t 15), (.t 17)]), qu 19 (.call 42 [(.t 13), (.t 18)]), qm (.store 2 (.t 4) (.t 19))]) .ret)))
theorem tr33 : trFun Tryd.prog 33 = some ⟨20, [.cell 4 true 2], c33⟩ := by kernel_rfl
theorem imul_sv (x y : Int) : sv (decide (¬ decide (x < 0) = decide (y < 0))) (bl (x.natAbs * y.natAbs)) = x * y := by
  have := sv_mul (decide (x < 0)) (decide (y < 0)) (bl x.natAbs) (bl y.natAbs)
  rw [sv_can, sv_can, nl_bl, nl_bl] at this
  exact this
theorem ok_iMul : SpecOK Tryd.prog 33 (flat spIMul) := by
  refine flat_run (env_cons ok_iof (env_cons ok_iNorm (env_cons ok_nMul (env_nil _)))) mixed tr33 ?_
  intro args v h N hG
  unfold spIMul at hG
  split at hG
  case h_2 => cases hG
  rename_i s l t m
  split at hG
  case isFalse => cases hG
  rename_i hl
  obtain ⟨hl, hm⟩ := hl
  cases hG
  refine ⟨rfl, by simp, ?_⟩
  have hl' : l.length ≤ 1099511627776 := by omega
  have hm' : m.length ≤ 1099511627776 := by omega
  have n1 := len_sv (s := s) hl
  have n2 := len_sv (s := t) hm
  have hz := imul_sv (sv s l) (sv t m)
  simp only [c33, G0, Nat.reduceAdd]
  simp only [↓R0, R1, simprocAttr, -Int.reduceAbs, spINorm, spNMul, spIof, hl', hm', n1, n2, nl_bl, hz, Fin, isEnd, resL, res1, iE, rE]
  exact ⟨_, rfl, rfl, fun k hk => by simp only [ne_nb hk, if_false]⟩
end Go.Eng
end
section
set_option linter.unusedVariables false
set_option linter.unusedSimpArgs false
set_option linter.unusedSectionVars false
set_option maxRecDepth 4000
namespace Go.Eng
open Go Go.Proofs Go.IntWalk
end Go.Eng
end
section
set_option linter.unusedVariables false
set_option linter.unusedSimpArgs false
set_option linter.unusedSectionVars false
set_option maxRecDepth 8000
namespace Go.Eng
open Go Go.Proofs Go.IntWalk
def spQParts : List Value → Option Value
  | [.agg ⟨[.bool s, .string ⟨⟨n⟩⟩, .string ⟨⟨d⟩⟩]⟩] => if n.length ≤ 1099511627776 ∧ d.length ≤ 1099511627776 then some (.tuple ⟨[.agg ⟨iE (sv s n)⟩, .agg ⟨iE (dv d)⟩]⟩) else none
  | _ => none
def c26 : ICode :=
  (.seq (.reg [qq 1 (.box 24 3 (.t 0)), qq 2 (.alloc 51 2 [(.bool false), e0]), qq 3 (.alloc 51 2 [(.bool false), e0])]) (.seq (.reg [qq 5 (.faddr 2 (.t 1)), qq 6 (.load false 1 (.t 5)), qq 7 (.call 40 [(.t 6)]), qq 8 (.build [(.bool false), e0] [(1, 1, (.t 7))]), qq 4 (.alloc 51 2 [(.bool false), e0]), qn (.store 2 (.t 4) (.t 8))]) (.seq (.seq (.reg [qq 9 (.faddr 1 (.t 4)), qq 10 (.load false 1 (.t 9)), qq 11 (.bin .eql (.t 10) (.c e0))]) (.cond (.t 11) (.reg [qq 12 (.call 34 [(ci 1)]), qn (.store 2 (.t 4) (.t 12))]) .skip)) (.seq (.dreg [qu 13 (.faddr 0 (.t 1)), qu 14 (.load false 1 (.t 13)), qu 15 (.faddr 1 (.t 1)), qu 16 (.load false 1 (.t 15)), qu 17 (.build [(.bool false), e0] [(0, 1, (.t 14)), (1, 1, (.t 16))]), qu 18 (.call 41 [(.t 17)]), qv 19 [5] (.load true 2 (.t 4)), ⟨none, none, [1006], (.store 2 (.t 2) (.t 18))⟩, qm (.store 2 (.t 3) (.t 19))]) .ret))))
theorem tr26 : trFun Tryd.prog 26 = some ⟨20, [.cell 2 true 2, .cell 3 true 2], c26⟩ := by kernel_rfl
theorem ok_qParts : SpecOK Tryd.prog 26 (flat spQParts) := by
  refine flat_run (env_cons ok_nNorm (env_cons ok_iFrom (env_cons ok_iNorm (env_nil _)))) mixed tr26 ?_
  intro args v h N hG
  unfold spQParts at hG
  split at hG
  case h_2 => cases hG
  rename_i s n d
  split at hG
  case isFalse => cases hG
  rename_i hl
  obtain ⟨h1, h2⟩ := hl
  cases hG
  refine ⟨rfl, by simp, ?_⟩
  by_cases h0 : nl d = 0
  · have e1 : bl (nl d) = [] := by rw [h0, bl_zero]
    have e2 : dv d = 1 := by unfold dv; rw [if_pos h0]
    simp only [c26, G0, Nat.reduceAdd]
    simp only [↓R0, R1, simprocAttr, -Int.reduceAbs, spNNorm, h1, h2, e1, e2, spIFrom, spINorm, iE, Fin, isEnd, resL, res1, iE, rE]
    exact ⟨_, rfl, rfl, fun k hk => by simp only [ne_nb hk, if_false]⟩
  · have e1 : (bl (nl d) = []) = False := eq_false (fun e => h0 (bl_eq_nil.1 e))
    have e2 : dv d = (nl d : Int) := by unfold dv; rw [if_neg h0]
    have e3 : ¬ ((nl d : Int) < 0) := by omega
    simp only [c26, G0, Nat.reduceAdd]
    simp only [↓R0, R1, simprocAttr, -Int.reduceAbs, spNNorm, h1, h2, e1, e2, e3, spIFrom, spINorm, iE, Int.natAbs_natCast, Fin, isEnd, resL, res1, iE, rE]
    exact ⟨_, rfl, rfl, fun k hk => by simp only [ne_nb hk, if_false]⟩
def spQLeast : List Value → Heap → Option Value
  | [.string ⟨⟨l⟩⟩, .pointer (some ⟨k, 0, none⟩)], h => match hget h k with
    | some ⟨_, _, _, [.string ⟨⟨m⟩⟩]⟩ => if l.length ≤ 34359738368 ∧ m.length ≤ 34359738368 ∧ nl m ≠ 0 then some (.string ⟨⟨bl (nl l / nl m)⟩⟩) else none
    | _ => none
  | _, _ => none
def c45 : ICode :=
  (.seq (.reg [qq 3 (.mv (.c e0))]) (.seq (.reg [qq 8 (.mv (.t 0)), qq 9 (.load false 1 (.t 1)), qq 10 (.call 46 [(.t 8), (.t 9)]), qq 7 (.mv (.t 10)), qq 11 (.ext (.t 7) 0), qq 12 (.ext (.t 7) 1), qq 13 (.ext (.t 7) 2), qq 4 (.mv (.t 11)), qq 5 (.mv (.t 12)), qq 6 (.mv (.t 13))]) (.seq (.reg [qq 14 (.mv (.t 4)), qq 3 (.mv (.t 14))]) .ret)))
theorem tr45 : trFun Tryd.prog 45 = some ⟨15, [.t 3], c45⟩ := by kernel_rfl
theorem ok_qLeast : SpecOK Tryd.prog 45 (rdS spQLeast) := by
  refine rd_run (env_cons ok_nDiv (env_nil _)) mixed tr45 ?_ ?_
  · intro args h h' v hle e
    unfold spQLeast at e ⊢
    split at e
    · split at e
      · rename_i b1
        simp only [hle _ _ b1]; exact e
      · cases e
    · cases e
  intro args v h N hG hN
  unfold spQLeast at hG
  split at hG
  case h_2 => cases hG
  rename_i l k
  split at hG
  case h_2 => cases hG
  rename_i e1 z1 x1 m hb1
  split at hG
  case isFalse => cases hG
  rename_i hl
  obtain ⟨h1, h2, h3⟩ := hl
  have h4 := eq_false h3
  cases hG
  refine ⟨rfl, by simp, ?_⟩
  simp only [c45, G0, Nat.reduceAdd]
  simp only [↓R0, R1, simprocAttr, -Int.reduceAbs, hb1, spNDiv, h1, h2, h4, Fin, isEnd, resL, res1, iE, rE]
  exact ⟨_, rfl, rfl, fun k hk => by simp only [ne_nb hk, if_false]⟩
def spQMake : List Value → Option Value
  | [.agg ⟨[.bool s, .string ⟨⟨l⟩⟩]⟩, .agg ⟨[.bool t, .string ⟨⟨m⟩⟩]⟩] => if l.length ≤ 34359738368 ∧ m.length ≤ 34359738368 then
      (if nl m = 0 then some (.tuple ⟨[.agg ⟨[.bool false, .string ⟨⟨[]⟩⟩, .string ⟨⟨[]⟩⟩]⟩, .bool false]⟩) else
        some (.tuple ⟨[.agg ⟨rE (Rat.divInt (sv s l) (sv t m))⟩, .bool true]⟩)) else none
  | _ => none
def c32 : ICode :=
  (.seq (.reg [qq 2 (.box 51 2 (.t 0)), qq 3 (.box 51 2 (.t 1)), qq 4 (.alloc 24 3 [(.bool false), e0, e0]), qq 5 (.mv (.c (.bool false)))]) (.seq (.seq (.reg [qq 9 (.load true 2 (.t 3)), qq 10 (.call 27 [(.t 9)]), qq 11 (.bin .eql (.t 10) (ci 0))]) (.cond (.t 11) (.seq (.reg [qq 12 (.build [(.bool false), e0, e0] []), qn (.store 3 (.t 4) (.t 12)), qq 5 (.mv (.c (.bool false)))]) .ret) .skip)) (.seq (.seq (.reg [qq 13 (.load true 2 (.t 2)), qq 14 (.call 27 [(.t 13)]), qq 15 (.bin .eql (.t 14) (ci 0))]) (.cond (.t 15) (.seq (.reg [qq 16 (.build [(.bool false), e0, e0] []), qn (.store 3 (.t 4) (.t 16)), qq 5 (.mv (.c (.bool true)))]) .ret) .skip)) (.seq (.reg [qq 17 (.faddr 1 (.t 2)), qq 18 (.load false 1 (.t 17)), qq 19 (.faddr 1 (.t 3)), qq 20 (.load false 1 (.t 19)), qq 21 (.call 44 [(.t 18), (.t 20)]), qq 6 (.alloc 9 1 [e0]), qn (.store 1 (.t 6) (.t 21))]) (.seq (.reg [qq 22 (.mkfn 45 [(.t 6)]), qq 7 (.mv (.t 22))]) (.seq (.dreg [qu 23 (.faddr 0 (.t 2)), qu 24 (.load false 1 (.t 23)), qu 25 (.faddr 0 (.t 3)), qu 26 (.load false 1 (.t 25)), qu 27 (.eqb true (.t 24) (.t 26)), qu 28 (.mv (.t 7)), qu 29 (.faddr 1 (.t 2)), qu 30 (.load false 1 (.t 29)), qu 31 (.callv (.t 28) [(.t 30)]), qu 32 (.mv (.t 7)), qu 33 (.faddr 1 (.t 3)), qv 34 [8] (.load false 1 (.t 33)), qu 35 (.callv (.t 32) [(.t 34)]), qu 36 (.build [(.bool false), e0, e0] [(0, 1, (.t 27)), (1, 1, (.t 31)), (2, 1, (.t 35))]), qu 8 (.alloc 24 3 [(.bool false), e0, e0]), qm (.store 3 (.t 8) (.t 36))]) (.seq (.seq (.reg [qq 37 (.faddr 2 (.t 8)), qq 38 (.load false 1 (.t 37)), qq 39 (.bin .eql (.t 38) (.c (.string ⟨⟨[1]⟩⟩)))]) (.cond (.t 39) (.reg [qq 40 (.faddr 2 (.t 8)), qn (.store 1 (.t 40) (.c e0))]) .skip)) (.seq (.reg [qq 41 (.load true 3 (.t 8)), qn (.store 3 (.t 4) (.t 41)), qq 5 (.mv (.c (.bool true)))]) .ret))))))))
theorem tr32 : trFun Tryd.prog 32 = some ⟨42, [.cell 4 true 3, .t 5], c32⟩ := by kernel_rfl
theorem sv_neg_iff {s : Bool} {l : List UInt8} (h : nl l ≠ 0) : decide (sv s l < 0) = s := by
  unfold sv; cases s <;> simp <;> omega
set_option maxHeartbeats 1000000 in
theorem ok_qMake : SpecOK Tryd.prog 32 (flat spQMake) := by
  refine flat_run (env_cons ok_iSign (env_cons ok_nGcd (env_cons ok_qLeast (env_nil _)))) mixed tr32 ?_
  intro args v h N hG
  unfold spQMake at hG
  split at hG
  case h_2 => cases hG
  rename_i s l t m
  split at hG
  case isFalse => cases hG
  rename_i hl
  obtain ⟨hl, hm⟩ := hl
  have l2 : l.length ≤ 1099511627776 := by omega
  have m2 : m.length ≤ 1099511627776 := by omega
  split at hG
  · rename_i h0
    have e0 : sv t m = 0 := (sv_eq_zero t m).2 h0
    cases hG
    refine ⟨rfl, by simp, ?_⟩
    simp only [c32, G0, Nat.reduceAdd]
    simp only [↓R0, R1, simprocAttr, -Int.reduceAbs, spISign, l2, m2, e0, Int.sign_zero, Fin, isEnd, resL, res1, iE, rE]
    exact ⟨_, rfl, rfl, fun k hk => by simp only [ne_nb hk, if_false]⟩
  rename_i h0
  have hD : sv t m ≠ 0 := fun e => h0 ((sv_eq_zero t m).1 e)
  have hD' : ((sv t m).sign = 0) = False := eq_false (fun e => hD (Int.sign_eq_zero_iff_zero.1 e))
  by_cases hn : nl l = 0
  · have e0 : sv s l = 0 := (sv_eq_zero s l).2 hn
    have rz : rE 0 = [.bool false, .string ⟨⟨[]⟩⟩, .string ⟨⟨[]⟩⟩] := by simp [rE, bl_zero]
    rw [e0, Rat.zero_divInt, rz] at hG
    cases hG
    refine ⟨rfl, by simp, ?_⟩
    simp only [c32, G0, Nat.reduceAdd]
    simp only [↓R0, R1, simprocAttr, -Int.reduceAbs, spISign, l2, m2, e0, hD', Int.sign_zero, Fin, isEnd, resL, res1, iE, rE]
    exact ⟨_, rfl, rfl, fun k hk => by simp only [ne_nb hk, if_false]⟩
  have hN : sv s l ≠ 0 := fun e => hn ((sv_eq_zero s l).1 e)
  have hN' : ((sv s l).sign = 0) = False := eq_false (fun e => hN (Int.sign_eq_zero_iff_zero.1 e))
  cases hG
  refine ⟨rfl, by simp, ?_⟩
  obtain ⟨d1, d2, d3⟩ := divInt_cells (N := sv s l) hD
  rw [sv_natAbs, sv_natAbs] at d1 d2
  have hst : decide ((Rat.divInt (sv s l) (sv t m)).num < 0) = decide (s ≠ t) := by
    rw [Bool.eq_iff_iff]
    simp only [decide_eq_true_eq, d3, sv_neg_iff hn, sv_neg_iff h0, and_iff_left hN]
  unfold rE
  rw [hst, d1, d2]
  clear hst d1 d2 d3
  have hG0 : 0 < (nl l).gcd (nl m) := Nat.gcd_pos_of_pos_right _ (by omega)
  have lG : (bl ((nl l).gcd (nl m))).length ≤ 34359738368 := Nat.le_trans (bl_length_mono (Nat.gcd_le_right _ (by omega))) (Nat.le_trans (bl_length_nl m) hm)
  generalize hGG : (nl l).gcd (nl m) = G at *
  have f2 : ¬ (G = 0) := by omega
  have f10 : (bl (nl m / G) = [1]) = (nl m / G = 1) := propext ⟨fun e => bl_inj (e.trans (by decide +kernel : ([1] : List UInt8) = bl 1)), fun e => by rw [e]; decide +kernel⟩
  simp only [c32, G0, Nat.reduceAdd]
  simp only [↓R0, R1, simprocAttr, -Int.reduceAbs, spISign, l2, m2, hD', hN', spNGcd, hl, hm, hGG, rdS, callF, spQLeast, nl_bl, lG, f2, f10]
  by_cases c3 : nl m / G = 1
  · simp only [↓R0, R1, simprocAttr, -Int.reduceAbs, c3, Fin, isEnd, resL, res1, iE, rE]
    exact ⟨_, rfl, rfl, fun k hk => by simp only [ne_nb hk, if_false]⟩
  · simp only [↓R0, R1, simprocAttr, -Int.reduceAbs, c3, Fin, isEnd, resL, res1, iE, rE]
    exact ⟨_, rfl, rfl, fun k hk => by simp only [ne_nb hk, if_false]⟩
def c28 : ICode :=
  (.seq (.reg [qq 2 (.box 51 2 (.t 0)), qq 3 (.box 51 2 (.t 1)), qq 4 (.alloc 24 3 [(.bool false), e0, e0])]) (.seq (.reg [qq 8 (.load true 2 (.t 2)), qq 9 (.load true 2 (.t 3)), qq 10 (.call 32 [(.t 8), (.t 9)]), qq 7 (.mv (.t 10)), qq 11 (.ext (.t 7) 0), qq 12 (.ext (.t 7) 1), qq 5 (.alloc 24 3 [(.bool false), e0, e0]), qn (.store 3 (.t 5) (.t 11)), qq 6 (.mv (.t 12))]) (.seq (.reg [qq 13 (.load true 3 (.t 5)), qn (.store 3 (.t 4) (.t 13))]) .ret)))
theorem tr28 : trFun Tryd.prog 28 = some ⟨14, [.cell 4 true 3], c28⟩ := by kernel_rfl
def spQMade : List Value → Option Value
  | [.agg ⟨[.bool s, .string ⟨⟨l⟩⟩]⟩, .agg ⟨[.bool t, .string ⟨⟨m⟩⟩]⟩] => if l.length ≤ 34359738368 ∧ m.length ≤ 34359738368 ∧ nl m ≠ 0 then
      some (.agg ⟨rE (Rat.divInt (sv s l) (sv t m))⟩) else none
  | _ => none
theorem ok_qMade : SpecOK Tryd.prog 28 (flat spQMade) := by
  refine flat_run (env_cons ok_qMake (env_nil _)) mixed tr28 ?_
  intro args v h N hG
  unfold spQMade at hG
  split at hG
  case h_2 => cases hG
  rename_i s l t m
  split at hG
  case isFalse => cases hG
  rename_i hl
  obtain ⟨h1, h2, h3⟩ := hl
  have h4 := eq_false h3
  cases hG
  refine ⟨rfl, by simp, ?_⟩
  simp only [c28, G0, Nat.reduceAdd]
  simp only [↓R0, R1, simprocAttr, -Int.reduceAbs, spQMake, h1, h2, h4, Fin, isEnd, resL, res1, iE, rE]
  exact ⟨_, rfl, rfl, fun k hk => by simp only [ne_nb hk, if_false]⟩
def spQNorm : List Value → Option Value
  | [.agg ⟨[.bool s, .string ⟨⟨n⟩⟩, .string ⟨⟨d⟩⟩]⟩] => if n.length ≤ 17179869184 ∧ d.length ≤ 17179869184 then some (.agg ⟨rE (rv s n d)⟩) else none
  | _ => none
def c22 : ICode :=
  (.seq (.reg [qq 1 (.box 24 3 (.t 0)), qq 2 (.alloc 24 3 [(.bool false), e0, e0])]) (.seq (.reg [qq 3 (.load true 3 (.t 1)), qq 4 (.call 26 [(.t 3)]), qq 5 (.ext (.t 4) 0), qq 6 (.ext (.t 4) 1), qq 7 (.call 28 [(.t 5), (.t 6)]), qn (.store 3 (.t 2) (.t 7))]) .ret))
theorem tr22 : trFun Tryd.prog 22 = some ⟨8, [.cell 2 true 3], c22⟩ := by kernel_rfl
theorem ok_qNorm : SpecOK Tryd.prog 22 (flat spQNorm) := by
  refine flat_run (env_cons ok_qParts (env_cons ok_qMade (env_nil _))) mixed tr22 ?_
  intro args v h N hG
  unfold spQNorm at hG
  split at hG
  case h_2 => cases hG
  rename_i s n d
  split at hG
  case isFalse => cases hG
  rename_i hl
  obtain ⟨h1, h2⟩ := hl
  cases hG
  refine ⟨rfl, by simp, ?_⟩
  have n2 : n.length ≤ 1099511627776 := by omega
  have d2 : d.length ≤ 1099511627776 := by omega
  have n3 : (bl (sv s n).natAbs).length ≤ 34359738368 := by rw [sv_natAbs]; exact Nat.le_trans (bl_length_nl n) (by omega)
  have d3 : (bl (dv d).natAbs).length ≤ 34359738368 := Nat.le_trans (bl_dv d) (by omega)
  have d4 := dv_nl d
  unfold rv
  simp only [c22, G0, Nat.reduceAdd]
  simp only [↓R0, R1, simprocAttr, -Int.reduceAbs, spQParts, n2, d2, spQMade, n3, d3, d4, nl_bl, Fin, isEnd, resL, res1, iE, rE]
  exact ⟨_, rfl, rfl, fun k hk => by simp only [ne_nb hk, if_false]⟩
end Go.Eng
end
section
set_option linter.unusedVariables false
set_option linter.unusedSimpArgs false
set_option linter.unusedSectionVars false
namespace Go.Eng
def RB (q : Rat) (k : Nat) : Prop := (bl q.num.natAbs).length ≤ k ∧ (bl q.den).length ≤ k
theorem divInt_RB {N D : Int} {k : Nat} (hD : D ≠ 0) (h1 : (bl N.natAbs).length ≤ k) (h2 : (bl D.natAbs).length ≤ k) : RB (Rat.divInt N D) k := by
  obtain ⟨g1, g2, _⟩ := divInt_cells (N := N) (D := D) hD
  unfold RB
  rw [g1, g2]
  exact ⟨Nat.le_trans (bl_length_mono (Nat.div_le_self _ _)) h1, Nat.le_trans (bl_length_mono (Nat.div_le_self _ _)) h2⟩
theorem Lmul {a b : Int} {i j : Nat} (ha : (bl a.natAbs).length ≤ i) (hb : (bl b.natAbs).length ≤ j) : (bl (a * b).natAbs).length ≤ i + j := by
  rw [Int.natAbs_mul]; exact Nat.le_trans (bl_length_mul _ _) (by omega)
theorem Ladd {a b : Int} {k : Nat} (ha : (bl a.natAbs).length ≤ k) (hb : (bl b.natAbs).length ≤ k) : (bl (a + b).natAbs).length ≤ k + 1 :=
  Nat.le_trans (bl_length_mono (Int.natAbs_add_le a b)) (bl_length_add ha hb)
theorem RB.mul {p q : Rat} {i j k : Nat} (hp : RB p i) (hq : RB q j) (h : i + j ≤ k) : RB (p * q) k := by
  have hp0 := p.den_nz
  have hq0 := q.den_nz
  conv => lhs; rw [← Rat.num_divInt_den p, ← Rat.num_divInt_den q, Rat.divInt_mul_divInt]
  refine divInt_RB (by rw [← Int.natCast_mul]; simp [hp0, hq0]) (Nat.le_trans (Lmul hp.1 hq.1) h) ?_
  exact Nat.le_trans (Lmul (a := (p.den : Int)) (b := (q.den : Int)) hp.2 hq.2) h
theorem RB.add {p q : Rat} {i j k : Nat} (hp : RB p i) (hq : RB q j) (h : i + j + 1 ≤ k) : RB (p + q) k := by
  have hp0 := p.den_nz
  have hq0 := q.den_nz
  conv => lhs; rw [← Rat.num_divInt_den p, ← Rat.num_divInt_den q, Rat.divInt_add_divInt _ _ (by simp [hp0]) (by simp [hq0])]
  refine divInt_RB (by rw [← Int.natCast_mul]; simp [hp0, hq0]) ?_ ?_
  · refine Nat.le_trans (Ladd (k := i + j) (Lmul (b := (q.den : Int)) hp.1 hq.2) ?_) h
    exact Nat.le_trans (Lmul (b := (p.den : Int)) hq.1 hp.2) (by omega)
  · exact Nat.le_trans (Lmul (a := (p.den : Int)) (b := (q.den : Int)) hp.2 hq.2) (by omega)
theorem RB.neg {p : Rat} {i : Nat} (hp : RB p i) : RB (-p) i := by
  unfold RB; rw [Rat.neg_num, Rat.neg_den, Int.natAbs_neg]; exact hp
theorem RB.sub {p q : Rat} {i j k : Nat} (hp : RB p i) (hq : RB q j) (h : i + j + 1 ≤ k) : RB (p - q) k := by
  rw [Rat.sub_eq_add_neg]; exact hp.add hq.neg h
theorem RB.inv {p : Rat} {i : Nat} (hp : RB p i) (h1 : 1 ≤ i) : RB p⁻¹ i := by
  by_cases h : p = 0
  · subst h
    have e : ((0 : Rat)⁻¹) = 0 := by first | exact Rat.inv_zero | grind
    rw [e]; unfold RB
    refine ⟨?_, ?_⟩
    · rw [show (0 : Rat).num.natAbs = 0 from rfl, bl_zero]; exact Nat.zero_le _
    · exact Nat.le_trans (bl_length_le (k := 1).2 (by decide)) h1
  · have hn : p.num ≠ 0 := fun e => h (Rat.num_eq_zero.1 e)
    conv => lhs; rw [← Rat.num_divInt_den p, Rat.inv_divInt]
    exact divInt_RB hn hp.2 hp.1
theorem RB.div {p q : Rat} {i j k : Nat} (hp : RB p i) (hq : RB q j) (h1 : 1 ≤ j) (h : i + j ≤ k) : RB (p / q) k := by
  rw [Rat.div_def]; exact hp.mul (hq.inv h1) h
theorem RB.le {p : Rat} {i k : Nat} (hp : RB p i) (h : i ≤ k) : RB p k := ⟨Nat.le_trans hp.1 h, Nat.le_trans hp.2 h⟩
theorem RB.num {p : Rat} {i k : Nat} (hp : RB p i) (h : i ≤ k) : (bl p.num.natAbs).length ≤ k := Nat.le_trans hp.1 h
theorem RB.den {p : Rat} {i k : Nat} (hp : RB p i) (h : i ≤ k) : (if p.den = 1 then ([] : List UInt8) else bl p.den).length ≤ k := by
  split
  · simp
  · exact Nat.le_trans hp.2 h
theorem RB.raw {s : Bool} {n d : List UInt8} {k : Nat} (hn : n.length ≤ k) (hd : d.length ≤ k) : RB (rv s n d) (k + 1) := by
  unfold rv
  refine divInt_RB (by have := dv_pos d; omega) ?_ ?_
  · rw [sv_natAbs]; exact Nat.le_trans (bl_length_nl n) (by omega)
  · unfold dv; split
    · exact Nat.le_trans (bl_length_le (k := 1).2 (by decide)) (by omega)
    · rw [Int.natAbs_natCast]; exact Nat.le_trans (bl_length_nl d) (by omega)
theorem RB.int {z : Int} {k : Nat} (h : (bl z.natAbs).length ≤ k) (h1 : 1 ≤ k) : RB (z : Rat) k := by
  unfold RB; rw [Rat.num_intCast, Rat.den_intCast]
  exact ⟨h, Nat.le_trans (bl_length_le (k := 1).2 (by decide)) h1⟩
theorem divInt_one (z : Int) : Rat.divInt z 1 = (z : Rat) := by
  rw [Rat.divInt_eq_div]
  have : ((1 : Int) : Rat) = 1 := rfl
  rw [this, Rat.div_def]
  have e : (1 : Rat)⁻¹ = 1 := by grind
  rw [e, Rat.mul_one]
end Go.Eng
end
section
set_option linter.unusedVariables false
set_option linter.unusedSimpArgs false
set_option linter.unusedSectionVars false
namespace Go.Eng
end Go.Eng
end
section
set_option linter.unusedVariables false
set_option linter.unusedSimpArgs false
set_option linter.unusedSectionVars false
namespace Go.Eng
def dt3 (x1 x2 x3 y1 y2 y3 z1 z2 z3 : Int) : Int := x1 * (y2 * z3 - y3 * z2) - x2 * (y1 * z3 - y3 * z1) + x3 * (y1 * z2 - y2 * z1)
def flt (a1 a2 a3 a4 b1 b2 b3 b4 c1 c2 c3 c4 : Int) : Prop :=
  dt3 a2 a3 a4 b2 b3 b4 c2 c3 c4 = 0 ∧ dt3 a3 a1 a4 b3 b1 b4 c3 c1 c4 = 0 ∧ dt3 a1 a2 a4 b1 b2 b4 c1 c2 c4 = 0
instance {a1 a2 a3 a4 b1 b2 b3 b4 c1 c2 c3 c4 : Int} : Decidable (flt a1 a2 a3 a4 b1 b2 b3 b4 c1 c2 c3 c4) := by unfold flt; infer_instance
end Go.Eng
end
section
set_option linter.unusedVariables false
set_option linter.unusedSimpArgs false
set_option linter.unusedSectionVars false
namespace Go.Eng
theorem sign_pos_mul {k x : Int} (h : 0 < k) : (x * k).sign = x.sign := by
  rw [Int.sign_mul, Int.sign_eq_one_of_pos h, Int.mul_one]
end Go.Eng
end
section
set_option linter.unusedVariables false
set_option linter.unusedSimpArgs false
set_option linter.unusedSectionVars false
namespace Go.Eng
def lex3 (x y z : Int) : Int := if x.sign = 0 then (if y.sign = 0 then z.sign else y.sign) else x.sign
def cmp4 (a1 a2 a3 a4 b1 b2 b3 b4 : Int) : Int := lex3 (a1 * b4 - b1 * a4) (a2 * b4 - b2 * a4) (a3 * b4 - b3 * a4)
section
variable {x b a m n p : Int}
end
def btw (a1 a2 a3 a4 b1 b2 b3 b4 x1 x2 x3 x4 : Int) : Prop :=
  (¬ cmp4 a1 a2 a3 a4 x1 x2 x3 x4 = 0) ∧ cmp4 a1 a2 a3 a4 x1 x2 x3 x4 = cmp4 x1 x2 x3 x4 b1 b2 b3 b4 ∧ flt a1 a2 a3 a4 b1 b2 b3 b4 x1 x2 x3 x4
instance {a1 a2 a3 a4 b1 b2 b3 b4 x1 x2 x3 x4 : Int} : Decidable (btw a1 a2 a3 a4 b1 b2 b3 b4 x1 x2 x3 x4) := by unfold btw; infer_instance
theorem num_sign {q : Rat} {n d : Int} (h : q = Rat.divInt n d) (hd : 0 < d) : q.num.sign = n.sign := by
  have hq : 0 < (q.den : Int) := by have := q.den_pos; omega
  have e : q.num * d = n * q.den := (Rat.divInt_eq_divInt_iff (by omega) (by omega)).1 (by rw [← h]; exact Rat.num_divInt_den q)
  rw [← sign_pos_mul (x := q.num) hd, e, sign_pos_mul hq]
theorem sub_sign {a c : Int} {b d : Int} (hb : 0 < b) (hd : 0 < d) : (Rat.divInt a b - Rat.divInt c d).num.sign = (a * d - c * b).sign := by
  refine num_sign (d := b * d) ?_ (Int.mul_pos hb hd)
  have e1 : (b : Rat) ≠ 0 := fun e => by have : b = 0 := by exact_mod_cast e
                                         omega
  have e2 : (d : Rat) ≠ 0 := fun e => by have : d = 0 := by exact_mod_cast e
                                         omega
  simp only [Rat.divInt_eq_div, Rat.intCast_sub, Rat.intCast_mul]
  generalize (b : Rat) = B at *
  generalize (d : Rat) = D at *
  grind
end Go.Eng
end
section
set_option linter.unusedVariables false
set_option linter.unusedSimpArgs false
set_option linter.unusedSectionVars false
set_option maxRecDepth 8000
namespace Go.Eng
open Go Go.Proofs Go.IntWalk
theorem sv_zero' : sv false (bl 0) = 0 := by rw [sv_false, nl_bl]; rfl
theorem sv_one' : sv false (bl (Int.natAbs 1)) = 1 := by rw [sv_false, nl_bl]; rfl
def spQSign : List Value → Option Value
  | [.agg ⟨[.bool s, .string ⟨⟨n⟩⟩, .string ⟨⟨d⟩⟩]⟩] => if n.length ≤ 17179869184 ∧ d.length ≤ 17179869184 then some (.int .i64 (sv s n).sign) else none
  | _ => none
def c11 : ICode :=
  (.seq (.reg [qq 1 (.box 24 3 (.t 0)), qq 2 (.mv (ci 0))]) (.seq (.reg [qq 6 (.load true 3 (.t 1)), qq 7 (.call 26 [(.t 6)]), qq 5 (.mv (.t 7)), qq 8 (.ext (.t 5) 0), qq 9 (.ext (.t 5) 1), qq 3 (.alloc 51 2 [(.bool false), e0]), qq 4 (.alloc 51 2 [(.bool false), e0]), qn (.store 2 (.t 3) (.t 8)), qn (.store 2 (.t 4) (.t 9))]) (.seq (.reg [qq 10 (.load true 2 (.t 3)), qq 11 (.call 27 [(.t 10)]), qq 2 (.mv (.t 11))]) .ret)))
theorem tr11 : trFun Tryd.prog 11 = some ⟨12, [.t 2], c11⟩ := by kernel_rfl
theorem ok_qSign : SpecOK Tryd.prog 11 (flat spQSign) := by
  refine flat_run (env_cons ok_qParts (env_cons ok_iSign (env_nil _))) mixed tr11 ?_
  intro args v h N hG
  unfold spQSign at hG
  split at hG
  case h_2 => cases hG
  rename_i s n d
  split at hG
  case isFalse => cases hG
  rename_i hl
  obtain ⟨h1, h2⟩ := hl
  cases hG
  refine ⟨rfl, by simp, ?_⟩
  have n2 : n.length ≤ 1099511627776 := by omega
  have d2 : d.length ≤ 1099511627776 := by omega
  have n3 : (bl (sv s n).natAbs).length ≤ 1099511627776 := by rw [sv_natAbs]; exact Nat.le_trans (bl_length_nl n) (by omega)
  simp only [c11, G0, Nat.reduceAdd]
  simp only [↓R0, R1, simprocAttr, -Int.reduceAbs, spQParts, spISign, n2, d2, n3, iE, Fin, isEnd, resL, res1, iE, rE]
  exact ⟨_, rfl, rfl, fun k hk => by simp only [ne_nb hk, if_false]⟩
def spQNeg : List Value → Option Value
  | [.agg ⟨[.bool s, .string ⟨⟨n⟩⟩, .string ⟨⟨d⟩⟩]⟩] => if n.length ≤ 17179869184 ∧ d.length ≤ 17179869184 then some (.agg ⟨rE (- rv s n d)⟩) else none
  | _ => none
def c12 : ICode :=
  (.seq (.reg [qq 1 (.box 24 3 (.t 0)), qq 2 (.alloc 24 3 [(.bool false), e0, e0])]) (.seq (.reg [qq 6 (.load true 3 (.t 1)), qq 7 (.call 26 [(.t 6)]), qq 5 (.mv (.t 7)), qq 8 (.ext (.t 5) 0), qq 9 (.ext (.t 5) 1), qq 3 (.alloc 51 2 [(.bool false), e0]), qq 4 (.alloc 51 2 [(.bool false), e0]), qn (.store 2 (.t 3) (.t 8)), qn (.store 2 (.t 4) (.t 9))]) (.seq (.dreg [qu 10 (.load true 2 (.t 3)), qu 11 (.call 29 [(.t 10)]), qv 12 [1] (.load true 2 (.t 4)), qu 13 (.call 28 [(.t 11), (.t 12)]), qm (.store 3 (.t 2) (.t 13))]) .ret)))
theorem tr12 : trFun Tryd.prog 12 = some ⟨14, [.cell 2 true 3], c12⟩ := by kernel_rfl
theorem ok_qNeg : SpecOK Tryd.prog 12 (flat spQNeg) := by
  refine flat_run (env_cons ok_qParts (env_cons ok_iNeg (env_cons ok_qMade (env_nil _)))) mixed tr12 ?_
  intro args v h N hG
  unfold spQNeg at hG
  split at hG
  case h_2 => cases hG
  rename_i s n d
  split at hG
  case isFalse => cases hG
  rename_i hl
  obtain ⟨h1, h2⟩ := hl
  cases hG
  refine ⟨rfl, by simp, ?_⟩
  have n2 : n.length ≤ 1099511627776 := by omega
  have d2 : d.length ≤ 1099511627776 := by omega
  have n3 : (bl (sv s n).natAbs).length ≤ 1099511627776 := by rw [sv_natAbs]; exact Nat.le_trans (bl_length_nl n) (by omega)
  have n4 : (bl (-sv s n).natAbs).length ≤ 34359738368 := by rw [Int.natAbs_neg, sv_natAbs]; exact Nat.le_trans (bl_length_nl n) (by omega)
  have d3 : (bl (dv d).natAbs).length ≤ 34359738368 := Nat.le_trans (bl_dv d) (by omega)
  have d4 := dv_nl d
  unfold rv
  rw [Rat.neg_divInt]
  simp only [c12, G0, Nat.reduceAdd]
  simp only [↓R0, R1, simprocAttr, -Int.reduceAbs, spQParts, spINeg, spQMade, n2, d2, n3, n4, d3, d4, iE, nl_bl, Fin, isEnd, resL, res1, iE, rE]
  exact ⟨_, rfl, rfl, fun k hk => by simp only [ne_nb hk, if_false]⟩
def spQAdd : List Value → Option Value
  | [.agg ⟨[.bool s, .string ⟨⟨n⟩⟩, .string ⟨⟨d⟩⟩]⟩, .agg ⟨[.bool t, .string ⟨⟨m⟩⟩, .string ⟨⟨e⟩⟩]⟩] => if n.length ≤ 8589934592 ∧ d.length ≤ 8589934592 ∧ m.length ≤ 8589934592 ∧ e.length ≤ 8589934592 then some (.agg ⟨rE (rv s n d + rv t m e)⟩) else none
  | _ => none
def c16 : ICode :=
  (.seq (.reg [qq 2 (.box 24 3 (.t 0)), qq 3 (.box 24 3 (.t 1)), qq 4 (.alloc 24 3 [(.bool false), e0, e0])]) (.seq (.reg [qq 10 (.load true 3 (.t 2)), qq 11 (.call 26 [(.t 10)]), qq 9 (.mv (.t 11)), qq 12 (.ext (.t 9) 0), qq 13 (.ext (.t 9) 1), qq 5 (.alloc 51 2 [(.bool false), e0]), qq 6 (.alloc 51 2 [(.bool false), e0]), qn (.store 2 (.t 5) (.t 12)), qn (.store 2 (.t 6) (.t 13))]) (.seq (.reg [qq 15 (.load true 3 (.t 3)), qq 16 (.call 26 [(.t 15)]), qq 14 (.mv (.t 16)), qq 17 (.ext (.t 14) 0), qq 18 (.ext (.t 14) 1), qq 7 (.alloc 51 2 [(.bool false), e0]), qq 8 (.alloc 51 2 [(.bool false), e0]), qn (.store 2 (.t 7) (.t 17)), qn (.store 2 (.t 8) (.t 18))]) (.seq (.dreg [qu 19 (.load true 2 (.t 5)), qu 20 (.load true 2 (.t 8)), qu 21 (.call 33 [(.t 19), (.t 20)]), qv 22 [2] (.load true 2 (.t 7)), qv 23 [2] (.load true 2 (.t 6)), qu 24 (.call 33 [(.t 22), (.t 23)]), qu 25 (.call 35 [(.t 21), (.t 24)]), qv 26 [2, 5, 6] (.load true 2 (.t 6)), qv 27 [2, 5, 6] (.load true 2 (.t 8)), qu 28 (.call 33 [(.t 26), (.t 27)]), qu 29 (.call 28 [(.t 25), (.t 28)]), qm (.store 3 (.t 4) (.t 29))]) .ret))))
theorem tr16 : trFun Tryd.prog 16 = some ⟨30, [.cell 4 true 3], c16⟩ := by kernel_rfl
theorem ok_qAdd : SpecOK Tryd.prog 16 (flat spQAdd) := by
  refine flat_run (env_cons ok_qParts (env_cons ok_iMul (env_cons ok_iAdd (env_cons ok_qMade (env_nil _))))) mixed tr16 ?_
  intro args v h N hG
  unfold spQAdd at hG
  split at hG
  case h_2 => cases hG
  rename_i s n d t m e
  split at hG
  case isFalse => cases hG
  rename_i hl
  obtain ⟨h1, h2, h3, h4⟩ := hl
  have n2 : n.length ≤ 1099511627776 := by omega
  have d2 : d.length ≤ 1099511627776 := by omega
  have m2 : m.length ≤ 1099511627776 := by omega
  have e2 : e.length ≤ 1099511627776 := by omega
  have n3 := len_sv (s := s) h1
  have m3 := len_sv (s := t) h3
  have d3 : (bl (dv d).natAbs).length ≤ 8589934593 := len_dv (by omega)
  have e3 : (bl (dv e).natAbs).length ≤ 8589934593 := len_dv (by omega)
  have n4 := Nat.le_trans n3 (by omega : 8589934592 ≤ 34359738368)
  have m4 := Nat.le_trans m3 (by omega : 8589934592 ≤ 34359738368)
  have d4 := Nat.le_trans d3 (by omega : 8589934593 ≤ 34359738368)
  have e4 := Nat.le_trans e3 (by omega : 8589934593 ≤ 34359738368)
  have q1 := len_mul n3 e3
  have q2 := len_mul m3 d3
  have q3 : (bl (dv d * dv e).natAbs).length ≤ 34359738368 := Nat.le_trans (len_mul d3 e3) (by omega)
  have q4 : ¬ (dv d * dv e).natAbs = 0 := by have := Int.mul_pos (dv_pos d) (dv_pos e); omega
  have q5 : (bl (sv s n * dv e + sv t m * dv d).natAbs).length ≤ 34359738368 := Nat.le_trans (len_add q1 q2) (by omega)
  have q6 : (bl (sv s n * dv e).natAbs).length ≤ 68719476736 := Nat.le_trans q1 (by omega)
  have q7 : (bl (sv t m * dv d).natAbs).length ≤ 68719476736 := Nat.le_trans q2 (by omega)
  unfold rv at hG
  rw [Rat.divInt_add_divInt _ _ (by have := dv_pos d; omega) (by have := dv_pos e; omega)] at hG
  cases hG
  refine ⟨rfl, by simp, ?_⟩
  simp only [c16, G0, Nat.reduceAdd]
  simp only [↓R0, R1, simprocAttr, -Int.reduceAbs, spQParts, spIMul, spIAdd, spQMade, n2, d2, m2, e2, n4, m4, d4, e4, q3, q4, q5, q6, q7, nl_bl, Fin, isEnd, resL, res1, iE, rE]
  exact ⟨_, rfl, rfl, fun k hk => by simp only [ne_nb hk, if_false]⟩
def spQMul : List Value → Option Value
  | [.agg ⟨[.bool s, .string ⟨⟨n⟩⟩, .string ⟨⟨d⟩⟩]⟩, .agg ⟨[.bool t, .string ⟨⟨m⟩⟩, .string ⟨⟨e⟩⟩]⟩] => if n.length ≤ 8589934592 ∧ d.length ≤ 8589934592 ∧ m.length ≤ 8589934592 ∧ e.length ≤ 8589934592 then some (.agg ⟨rE (rv s n d * rv t m e)⟩) else none
  | _ => none
def c17 : ICode :=
  (.seq (.reg [qq 2 (.box 24 3 (.t 0)), qq 3 (.box 24 3 (.t 1)), qq 4 (.alloc 24 3 [(.bool false), e0, e0])]) (.seq (.reg [qq 10 (.load true 3 (.t 2)), qq 11 (.call 26 [(.t 10)]), qq 9 (.mv (.t 11)), qq 12 (.ext (.t 9) 0), qq 13 (.ext (.t 9) 1), qq 5 (.alloc 51 2 [(.bool false), e0]), qq 6 (.alloc 51 2 [(.bool false), e0]), qn (.store 2 (.t 5) (.t 12)), qn (.store 2 (.t 6) (.t 13))]) (.seq (.reg [qq 15 (.load true 3 (.t 3)), qq 16 (.call 26 [(.t 15)]), qq 14 (.mv (.t 16)), qq 17 (.ext (.t 14) 0), qq 18 (.ext (.t 14) 1), qq 7 (.alloc 51 2 [(.bool false), e0]), qq 8 (.alloc 51 2 [(.bool false), e0]), qn (.store 2 (.t 7) (.t 17)), qn (.store 2 (.t 8) (.t 18))]) (.seq (.dreg [qu 19 (.load true 2 (.t 5)), qu 20 (.load true 2 (.t 7)), qu 21 (.call 33 [(.t 19), (.t 20)]), qv 22 [2] (.load true 2 (.t 6)), qv 23 [2] (.load true 2 (.t 8)), qu 24 (.call 33 [(.t 22), (.t 23)]), qu 25 (.call 28 [(.t 21), (.t 24)]), qm (.store 3 (.t 4) (.t 25))]) .ret))))
theorem tr17 : trFun Tryd.prog 17 = some ⟨26, [.cell 4 true 3], c17⟩ := by kernel_rfl
theorem ok_qMul : SpecOK Tryd.prog 17 (flat spQMul) := by
  refine flat_run (env_cons ok_qParts (env_cons ok_iMul (env_cons ok_qMade (env_nil _)))) mixed tr17 ?_
  intro args v h N hG
  unfold spQMul at hG
  split at hG
  case h_2 => cases hG
  rename_i s n d t m e
  split at hG
  case isFalse => cases hG
  rename_i hl
  obtain ⟨h1, h2, h3, h4⟩ := hl
  have n2 : n.length ≤ 1099511627776 := by omega
  have d2 : d.length ≤ 1099511627776 := by omega
  have m2 : m.length ≤ 1099511627776 := by omega
  have e2 : e.length ≤ 1099511627776 := by omega
  have n3 := len_sv (s := s) h1
  have m3 := len_sv (s := t) h3
  have d3 : (bl (dv d).natAbs).length ≤ 8589934593 := len_dv (by omega)
  have e3 : (bl (dv e).natAbs).length ≤ 8589934593 := len_dv (by omega)
  have n4 := Nat.le_trans n3 (by omega : 8589934592 ≤ 34359738368)
  have m4 := Nat.le_trans m3 (by omega : 8589934592 ≤ 34359738368)
  have d4 := Nat.le_trans d3 (by omega : 8589934593 ≤ 34359738368)
  have e4 := Nat.le_trans e3 (by omega : 8589934593 ≤ 34359738368)
  have q1 : (bl (sv s n * sv t m).natAbs).length ≤ 34359738368 := Nat.le_trans (len_mul n3 m3) (by omega)
  have q3 : (bl (dv d * dv e).natAbs).length ≤ 34359738368 := Nat.le_trans (len_mul d3 e3) (by omega)
  have q4 : ¬ (dv d * dv e).natAbs = 0 := by have := Int.mul_pos (dv_pos d) (dv_pos e); omega
  unfold rv at hG
  rw [Rat.divInt_mul_divInt] at hG
  cases hG
  refine ⟨rfl, by simp, ?_⟩
  simp only [c17, G0, Nat.reduceAdd]
  simp only [↓R0, R1, simprocAttr, -Int.reduceAbs, spQParts, spIMul, spQMade, n2, d2, m2, e2, n4, m4, d4, e4, q1, q3, q4, nl_bl, Fin, isEnd, resL, res1, iE, rE]
  exact ⟨_, rfl, rfl, fun k hk => by simp only [ne_nb hk, if_false]⟩
def spQDiv : List Value → Option Value
  | [.agg ⟨[.bool s, .string ⟨⟨n⟩⟩, .string ⟨⟨d⟩⟩]⟩, .agg ⟨[.bool t, .string ⟨⟨m⟩⟩, .string ⟨⟨e⟩⟩]⟩] => if n.length ≤ 8589934592 ∧ d.length ≤ 8589934592 ∧ m.length ≤ 8589934592 ∧ e.length ≤ 8589934592 then
      (if nl m = 0 then some (.tuple ⟨[.agg ⟨[.bool false, .string ⟨⟨[]⟩⟩, .string ⟨⟨[]⟩⟩]⟩, .bool false]⟩) else some (.tuple ⟨[.agg ⟨rE (rv s n d / rv t m e)⟩, .bool true]⟩)) else none
  | _ => none
def c14 : ICode :=
  (.seq (.reg [qq 2 (.box 24 3 (.t 0)), qq 3 (.box 24 3 (.t 1)), qq 4 (.alloc 24 3 [(.bool false), e0, e0]), qq 5 (.mv (.c (.bool false)))]) (.seq (.reg [qq 11 (.load true 3 (.t 2)), qq 12 (.call 26 [(.t 11)]), qq 10 (.mv (.t 12)), qq 13 (.ext (.t 10) 0), qq 14 (.ext (.t 10) 1), qq 6 (.alloc 51 2 [(.bool false), e0]), qq 7 (.alloc 51 2 [(.bool false), e0]), qn (.store 2 (.t 6) (.t 13)), qn (.store 2 (.t 7) (.t 14))]) (.seq (.reg [qq 16 (.load true 3 (.t 3)), qq 17 (.call 26 [(.t 16)]), qq 15 (.mv (.t 17)), qq 18 (.ext (.t 15) 0), qq 19 (.ext (.t 15) 1), qq 8 (.alloc 51 2 [(.bool false), e0]), qq 9 (.alloc 51 2 [(.bool false), e0]), qn (.store 2 (.t 8) (.t 18)), qn (.store 2 (.t 9) (.t 19))]) (.seq (.dreg [qu 20 (.load true 2 (.t 6)), qu 21 (.load true 2 (.t 9)), qu 22 (.call 33 [(.t 20), (.t 21)]), qv 23 [2] (.load true 2 (.t 7)), qv 24 [2] (.load true 2 (.t 8)), qu 25 (.call 33 [(.t 23), (.t 24)]), qu 26 (.call 32 [(.t 22), (.t 25)]), qu 27 (.ext (.t 26) 0), qu 28 (.ext (.t 26) 1), qm (.store 3 (.t 4) (.t 27)), qu 5 (.mv (.t 28))]) .ret))))
theorem tr14 : trFun Tryd.prog 14 = some ⟨29, [.cell 4 true 3, .t 5], c14⟩ := by kernel_rfl
theorem ok_qDiv : SpecOK Tryd.prog 14 (flat spQDiv) := by
  refine flat_run (env_cons ok_qParts (env_cons ok_iMul (env_cons ok_qMake (env_nil _)))) mixed tr14 ?_
  intro args v h N hG
  unfold spQDiv at hG
  split at hG
  case h_2 => cases hG
  rename_i s n d t m e
  split at hG
  case isFalse => cases hG
  rename_i hl
  obtain ⟨h1, h2, h3, h4⟩ := hl
  have n2 : n.length ≤ 1099511627776 := by omega
  have d2 : d.length ≤ 1099511627776 := by omega
  have m2 : m.length ≤ 1099511627776 := by omega
  have e2 : e.length ≤ 1099511627776 := by omega
  have n3 := len_sv (s := s) h1
  have m3 := len_sv (s := t) h3
  have d3 : (bl (dv d).natAbs).length ≤ 8589934593 := len_dv (by omega)
  have e3 : (bl (dv e).natAbs).length ≤ 8589934593 := len_dv (by omega)
  have n4 := Nat.le_trans n3 (by omega : 8589934592 ≤ 34359738368)
  have m4 := Nat.le_trans m3 (by omega : 8589934592 ≤ 34359738368)
  have d4 := Nat.le_trans d3 (by omega : 8589934593 ≤ 34359738368)
  have e4 := Nat.le_trans e3 (by omega : 8589934593 ≤ 34359738368)
  have q1 : (bl (sv s n * dv e).natAbs).length ≤ 34359738368 := Nat.le_trans (len_mul n3 e3) (by omega)
  have q3 : (bl (dv d * sv t m).natAbs).length ≤ 34359738368 := Nat.le_trans (len_mul d3 m3) (by omega)
  split at hG
  · rename_i h0
    have z0 : sv t m = 0 := (sv_eq_zero t m).2 h0
    have q4 : (Int.natAbs 0) = 0 := rfl
    have z1 : (bl 0).length ≤ 34359738368 := by rw [bl_zero]; exact Nat.zero_le _
    rw [z0] at q3 m4
    simp only [Int.mul_zero] at q3
    cases hG
    refine ⟨rfl, by simp, ?_⟩
    simp only [c14, G0, Nat.reduceAdd]
    simp only [↓R0, R1, simprocAttr, -Int.reduceAbs, spQParts, spIMul, spQMake, n2, d2, m2, e2, n4, m4, d4, e4, z0, z1, sv_zero', Int.mul_zero, q1, q3, q4, nl_bl, Fin, isEnd, resL, res1, iE, rE]
    exact ⟨_, rfl, rfl, fun k hk => by simp only [ne_nb hk, if_false]⟩
  rename_i h0
  have z0 : sv t m ≠ 0 := fun e => h0 ((sv_eq_zero t m).1 e)
  have q4 : ((dv d * sv t m).natAbs = 0) = False := eq_false (by have := Int.mul_ne_zero (by have := dv_pos d; omega : dv d ≠ 0) z0; omega)
  rw [Rat.div_def] at hG
  unfold rv at hG
  rw [Rat.inv_divInt, Rat.divInt_mul_divInt] at hG
  cases hG
  refine ⟨rfl, by simp, ?_⟩
  simp only [c14, G0, Nat.reduceAdd]
  simp only [↓R0, R1, simprocAttr, -Int.reduceAbs, spQParts, spIMul, spQMake, n2, d2, m2, e2, n4, m4, d4, e4, q1, q3, q4, nl_bl, Fin, isEnd, resL, res1, iE, rE]
  exact ⟨_, rfl, rfl, fun k hk => by simp only [ne_nb hk, if_false]⟩
def spQSub : List Value → Option Value
  | [.agg ⟨[.bool s, .string ⟨⟨n⟩⟩, .string ⟨⟨d⟩⟩]⟩, .agg ⟨[.bool t, .string ⟨⟨m⟩⟩, .string ⟨⟨e⟩⟩]⟩] => if n.length ≤ 8589934592 ∧ d.length ≤ 8589934592 ∧ m.length ≤ 8589934592 ∧ e.length + 1 ≤ 8589934592 then some (.agg ⟨rE (rv s n d - rv t m e)⟩) else none
  | _ => none
def c18 : ICode :=
  (.seq (.reg [qq 2 (.box 24 3 (.t 0)), qq 3 (.box 24 3 (.t 1)), qq 4 (.alloc 24 3 [(.bool false), e0, e0])]) (.seq (.dreg [qu 5 (.load true 3 (.t 2)), qu 6 (.load true 3 (.t 3)), qu 7 (.call 12 [(.t 6)]), qu 8 (.call 16 [(.t 5), (.t 7)]), qm (.store 3 (.t 4) (.t 8))]) .ret))
theorem tr18 : trFun Tryd.prog 18 = some ⟨9, [.cell 4 true 3], c18⟩ := by kernel_rfl
theorem ok_qSub : SpecOK Tryd.prog 18 (flat spQSub) := by
  refine flat_run (env_cons ok_qNeg (env_cons ok_qAdd (env_nil _))) mixed tr18 ?_
  intro args v h N hG
  unfold spQSub at hG
  split at hG
  case h_2 => cases hG
  rename_i s n d t m e
  split at hG
  case isFalse => cases hG
  rename_i hl
  obtain ⟨h1, h2, h3, h4⟩ := hl
  cases hG
  refine ⟨rfl, by simp, ?_⟩
  have m2 : m.length ≤ 17179869184 := by omega
  have e2 : e.length ≤ 17179869184 := by omega
  obtain ⟨g1, g2⟩ := divInt_le (N := sv t m) (dv_pos e)
  have m3 : (bl (-rv t m e).num.natAbs).length ≤ 8589934592 := by
    rw [(len_rneg _).1]; exact Nat.le_trans (bl_length_mono g1) (len_sv h3)
  have e3 : (if (-rv t m e).den = 1 then ([] : List UInt8) else bl (-rv t m e).den).length ≤ 8589934592 := by
    refine len_den _ ?_
    rw [(len_rneg _).2]; exact Nat.le_trans (bl_length_mono g2) (Nat.le_trans (bl_dv e) h4)
  rw [Rat.sub_eq_add_neg]
  simp only [c18, G0, Nat.reduceAdd]
  simp only [↓R0, R1, simprocAttr, -Int.reduceAbs, spQNeg, spQAdd, h1, h2, m2, e2, m3, e3, rE, rv_can, Fin, isEnd, resL, res1, iE, rE]
  exact ⟨_, rfl, rfl, fun k hk => by simp only [ne_nb hk, if_false]⟩
def spQCmp : List Value → Option Value
  | [.agg ⟨[.bool s, .string ⟨⟨n⟩⟩, .string ⟨⟨d⟩⟩]⟩, .agg ⟨[.bool t, .string ⟨⟨m⟩⟩, .string ⟨⟨e⟩⟩]⟩] => if n.length ≤ 8589934592 ∧ d.length ≤ 8589934592 ∧ m.length ≤ 8589934592 ∧ e.length ≤ 8589934592 then some (.int .i64 (rv s n d - rv t m e).num.sign) else none
  | _ => none
def c31 : ICode :=
  (.seq (.reg [qq 2 (.box 24 3 (.t 0)), qq 3 (.box 24 3 (.t 1)), qq 4 (.mv (ci 0))]) (.seq (.reg [qq 10 (.load true 3 (.t 2)), qq 11 (.call 26 [(.t 10)]), qq 9 (.mv (.t 11)), qq 12 (.ext (.t 9) 0), qq 13 (.ext (.t 9) 1), qq 5 (.alloc 51 2 [(.bool false), e0]), qq 6 (.alloc 51 2 [(.bool false), e0]), qn (.store 2 (.t 5) (.t 12)), qn (.store 2 (.t 6) (.t 13))]) (.seq (.reg [qq 15 (.load true 3 (.t 3)), qq 16 (.call 26 [(.t 15)]), qq 14 (.mv (.t 16)), qq 17 (.ext (.t 14) 0), qq 18 (.ext (.t 14) 1), qq 7 (.alloc 51 2 [(.bool false), e0]), qq 8 (.alloc 51 2 [(.bool false), e0]), qn (.store 2 (.t 7) (.t 17)), qn (.store 2 (.t 8) (.t 18))]) (.seq (.dreg [qu 19 (.load true 2 (.t 5)), qu 20 (.load true 2 (.t 8)), qu 21 (.call 33 [(.t 19), (.t 20)]), qv 22 [2] (.load true 2 (.t 7)), qv 23 [2] (.load true 2 (.t 6)), qu 24 (.call 33 [(.t 22), (.t 23)]), qu 25 (.call 43 [(.t 21), (.t 24)]), qu 4 (.mv (.t 25))]) .ret))))
theorem tr31 : trFun Tryd.prog 31 = some ⟨26, [.t 4], c31⟩ := by kernel_rfl
theorem ok_qCmp : SpecOK Tryd.prog 31 (flat spQCmp) := by
  refine flat_run (env_cons ok_qParts (env_cons ok_iMul (env_cons ok_iCmp (env_nil _)))) mixed tr31 ?_
  intro args v h N hG
  unfold spQCmp at hG
  split at hG
  case h_2 => cases hG
  rename_i s n d t m e
  split at hG
  case isFalse => cases hG
  rename_i hl
  obtain ⟨h1, h2, h3, h4⟩ := hl
  have n2 : n.length ≤ 1099511627776 := by omega
  have d2 : d.length ≤ 1099511627776 := by omega
  have m2 : m.length ≤ 1099511627776 := by omega
  have e2 : e.length ≤ 1099511627776 := by omega
  have n3 := len_sv (s := s) h1
  have m3 := len_sv (s := t) h3
  have d3 : (bl (dv d).natAbs).length ≤ 8589934593 := len_dv (by omega)
  have e3 : (bl (dv e).natAbs).length ≤ 8589934593 := len_dv (by omega)
  have n4 := Nat.le_trans n3 (by omega : 8589934592 ≤ 34359738368)
  have m4 := Nat.le_trans m3 (by omega : 8589934592 ≤ 34359738368)
  have d4 := Nat.le_trans d3 (by omega : 8589934593 ≤ 34359738368)
  have e4 := Nat.le_trans e3 (by omega : 8589934593 ≤ 34359738368)
  have q1 : (bl (sv s n * dv e).natAbs).length ≤ 68719476736 := Nat.le_trans (len_mul n3 e3) (by omega)
  have q2 : (bl (sv t m * dv d).natAbs).length ≤ 68719476736 := Nat.le_trans (len_mul m3 d3) (by omega)
  have q3 := sub_sign (a := sv s n) (c := sv t m) (dv_pos d) (dv_pos e)
  unfold rv at hG
  rw [q3] at hG
  cases hG
  refine ⟨rfl, by simp, ?_⟩
  simp only [c31, G0, Nat.reduceAdd]
  simp only [↓R0, R1, simprocAttr, -Int.reduceAbs, spQParts, spIMul, spICmp, n2, d2, m2, e2, n4, m4, d4, e4, q1, q2, nl_bl, Fin, isEnd, resL, res1, iE, rE]
  exact ⟨_, rfl, rfl, fun k hk => by simp only [ne_nb hk, if_false]⟩
def spQFrom : List Value → Option Value
  | [.int .i64 n] => if -9223372036854775808 ≤ n ∧ n ≤ 9223372036854775807 then some (.agg ⟨rE (n : Rat)⟩) else none
  | _ => none
def c15 : ICode :=
  (.seq (.reg [qq 2 (.alloc 24 3 [(.bool false), e0, e0])]) (.seq (.reg [qq 3 (.mv (.t 0)), qq 4 (.call 34 [(.t 3)]), qq 5 (.call 34 [(ci 1)]), qq 6 (.call 28 [(.t 4), (.t 5)]), qn (.store 3 (.t 2) (.t 6))]) .ret))
theorem tr15 : trFun Tryd.prog 15 = some ⟨7, [.cell 2 true 3], c15⟩ := by kernel_rfl
theorem len8 {n : Int} (h1 : -9223372036854775808 ≤ n) (h2 : n ≤ 9223372036854775807) : (bl n.natAbs).length ≤ 8 :=
  bl_length_le.2 (Nat.lt_of_le_of_lt (by omega : n.natAbs ≤ 9223372036854775808) (by decide))
theorem ok_qFrom : SpecOK Tryd.prog 15 (flat spQFrom) := by
  refine flat_run (env_cons ok_iFrom (env_cons ok_qMade (env_nil _))) mixed tr15 ?_
  intro args v h N hG
  unfold spQFrom at hG
  split at hG
  case h_2 => cases hG
  rename_i n
  split at hG
  case isFalse => cases hG
  rename_i hl
  obtain ⟨h1, h2⟩ := hl
  have n1 := Nat.le_trans (len8 h1 h2) (by omega : 8 ≤ 34359738368)
  have o1 : (bl (Int.natAbs 1)).length ≤ 34359738368 := Nat.le_trans (bl_length_le (k := 1).2 (by decide)) (by omega)
  have o2 : (Int.natAbs 1 = 0) = False := eq_false (by decide)
  rw [← divInt_one] at hG
  cases hG
  refine ⟨rfl, by simp, ?_⟩
  simp only [c15, G0, Nat.reduceAdd]
  simp only [↓R0, R1, simprocAttr, -Int.reduceAbs, spIFrom, h1, h2, spQMade, n1, o1, o2, sv_one', nl_bl, Fin, isEnd, resL, res1, iE, rE]
  exact ⟨_, rfl, rfl, fun k hk => by simp only [ne_nb hk, if_false]⟩
end Go.Eng
end
section
set_option linter.unusedVariables false
set_option linter.unusedSimpArgs false
set_option linter.unusedSectionVars false
namespace Go.Eng
abbrev P2 := Rat × Rat
def cr (a b x : P2) : Rat := (b.1 - a.1) * (x.2 - a.2) - (b.2 - a.2) * (x.1 - a.1)
theorem cr_swap (a b x : P2) : cr b a x = - cr a b x := by unfold cr; grind
theorem cr_rot (a b x : P2) : cr b x a = cr a b x := by unfold cr; grind
theorem cr_flip (a b x : P2) : cr a x b = - cr a b x := by unfold cr; grind
theorem cr_a (a b : P2) : cr a b a = 0 := by unfold cr; grind
theorem cr_b (a b : P2) : cr a b b = 0 := by unfold cr; grind
def at2 (a b : P2) (t : Rat) : P2 := (a.1 + t * (b.1 - a.1), a.2 + t * (b.2 - a.2))
theorem at2_0 (a b : P2) : at2 a b 0 = a := by unfold at2; ext <;> simp <;> grind
theorem at2_1 (a b : P2) : at2 a b 1 = b := by unfold at2; ext <;> simp <;> grind
theorem at2_swap (a b : P2) (t : Rat) : at2 a b t = at2 b a (1 - t) := by unfold at2; ext <;> simp <;> grind
theorem at2_at2l (a b : P2) (t s : Rat) : at2 a (at2 a b t) s = at2 a b (s * t) := by unfold at2; ext <;> simp <;> grind
theorem at2_at2r (a b : P2) (t s : Rat) : at2 (at2 a b t) b s = at2 a b (t + s * (1 - t)) := by unfold at2; ext <;> simp <;> grind
theorem at2_inj {a b : P2} (h : a ≠ b) {t s : Rat} (e : at2 a b t = at2 a b s) : t = s := by
  unfold at2 at e
  injection e with e1 e2
  by_cases c1 : b.1 - a.1 = 0
  · by_cases c2 : b.2 - a.2 = 0
    · exact absurd (Prod.ext (by grind) (by grind)) h
    · have : (t - s) * (b.2 - a.2) = 0 := by grind
      rcases Rat.mul_eq_zero.1 this with x | x
      · grind
      · exact absurd x c2
  · have : (t - s) * (b.1 - a.1) = 0 := by grind
    rcases Rat.mul_eq_zero.1 this with x | x
    · grind
    · exact absurd x c1
theorem cr_at2 (a b : P2) (t : Rat) : cr a b (at2 a b t) = 0 := by unfold cr at2; grind
theorem cr_at2l (a b x : P2) (t : Rat) : cr a (at2 a b t) x = t * cr a b x := by unfold cr at2; grind
theorem cr_at2r (a b x : P2) (t : Rat) : cr (at2 a b t) b x = (1 - t) * cr a b x := by unfold cr at2; grind
theorem cr_lin (a b c d : P2) (t : Rat) : cr a b (at2 c d t) = (1 - t) * cr a b c + t * cr a b d := by unfold cr at2; grind
theorem col_at2 {a b x : P2} (h : a ≠ b) (hc : cr a b x = 0) : ∃ t, x = at2 a b t := by
  unfold cr at hc
  by_cases c1 : b.1 - a.1 = 0
  · have c2 : b.2 - a.2 ≠ 0 := fun c2 => h (Prod.ext (by grind) (by grind))
    refine ⟨(x.2 - a.2) / (b.2 - a.2), ?_⟩
    have e := Rat.div_mul_cancel (a := x.2 - a.2) c2
    unfold at2
    refine Prod.ext ?_ ?_
    · show x.1 = _
      have : (b.2 - a.2) * (x.1 - a.1) = 0 := by rw [c1] at hc; grind
      rcases Rat.mul_eq_zero.1 this with y | y
      · exact absurd y c2
      · rw [c1]; grind
    · show x.2 = _
      rw [e]; grind
  · refine ⟨(x.1 - a.1) / (b.1 - a.1), ?_⟩
    have e := Rat.div_mul_cancel (a := x.1 - a.1) c1
    unfold at2
    refine Prod.ext ?_ ?_
    · show x.1 = _
      rw [e]; grind
    · show x.2 = _
      have : (b.1 - a.1) * (x.2 - (a.2 + (x.1 - a.1) / (b.1 - a.1) * (b.2 - a.2))) = 0 := by
        generalize (x.1 - a.1) / (b.1 - a.1) = q at *
        grind
      rcases Rat.mul_eq_zero.1 this with y | y
      · exact absurd y c1
      · grind
def opn (a b x : P2) : Prop := ∃ t : Rat, 0 < t ∧ t < 1 ∧ x = at2 a b t
theorem opn_swap {a b x : P2} : opn a b x ↔ opn b a x := by
  constructor <;> rintro ⟨t, h1, h2, rfl⟩ <;> exact ⟨1 - t, by grind, by grind, at2_swap _ _ _⟩
theorem opn_cr {a b x : P2} (h : opn a b x) : cr a b x = 0 := by obtain ⟨t, _, _, rfl⟩ := h; exact cr_at2 a b t
theorem opn_a {a b : P2} (h : a ≠ b) : ¬ opn a b a := fun ⟨t, h1, _, e⟩ => by
  rw [show at2 a b t = at2 a b t from rfl] at e
  have := at2_inj h ((at2_0 a b).trans e)
  grind
theorem opn_b {a b : P2} (h : a ≠ b) : ¬ opn a b b := fun x => opn_a (fun e => h e.symm) (opn_swap.1 x)
theorem rat_mul_lt {s t : Rat} (h0 : 0 < t) (h1 : s < 1) : s * t < t := by
  have := Rat.mul_lt_mul_of_pos_right h1 h0
  rw [Rat.one_mul] at this; exact this
theorem opn_split {u v d x : P2} (hd : opn u v d) : opn u v x ↔ opn u d x ∨ x = d ∨ opn d v x := by
  obtain ⟨t, t0, t1, rfl⟩ := hd
  have nt : t ≠ 0 := by grind
  have nt1 : 1 - t ≠ 0 := by grind
  constructor
  · rintro ⟨s, s0, s1, rfl⟩
    rcases Rat.le_total (a := s) (b := t) with h | h
    · by_cases e : s = t
      · exact .inr (.inl (by rw [e]))
      · refine .inl ⟨s / t, ?_, ?_, ?_⟩
        · rw [Rat.lt_div_iff t0]; grind
        · rw [Rat.div_lt_iff t0]; grind
        · rw [at2_at2l, Rat.div_mul_cancel nt]
    · by_cases e : s = t
      · exact .inr (.inl (by rw [e]))
      · refine .inr (.inr ⟨(s - t) / (1 - t), ?_, ?_, ?_⟩)
        · rw [Rat.lt_div_iff (by grind)]; grind
        · rw [Rat.div_lt_iff (by grind)]; grind
        · rw [at2_at2r, Rat.div_mul_cancel nt1]; congr 1; grind
  · rintro (⟨s, s0, s1, rfl⟩ | rfl | ⟨s, s0, s1, rfl⟩)
    · rw [at2_at2l]
      have := rat_mul_lt t0 s1
      exact ⟨s * t, Rat.mul_pos s0 t0, by grind, rfl⟩
    · exact ⟨t, t0, t1, rfl⟩
    · rw [at2_at2r]
      have h1 : 0 < 1 - t := by grind
      have := rat_mul_lt h1 s1
      have := Rat.mul_pos s0 h1
      exact ⟨_, by grind, by grind, rfl⟩
theorem col_cases {a b x : P2} (h : a ≠ b) (hc : cr a b x = 0) (ha : x ≠ a) (hb : x ≠ b) : opn a b x ∨ opn a x b ∨ opn x b a := by
  obtain ⟨t, rfl⟩ := col_at2 h hc
  have n0 : t ≠ 0 := fun e => ha (by rw [e, at2_0])
  have n1 : t ≠ 1 := fun e => hb (by rw [e, at2_1])
  rcases Rat.le_total (a := t) (b := 0) with c | c
  · refine .inr (.inr ?_)
    refine ⟨(-t) / (1 - t), ?_, ?_, ?_⟩
    · rw [Rat.lt_div_iff (by grind)]; grind
    · rw [Rat.div_lt_iff (by grind)]; grind
    · rw [at2_at2r, Rat.div_mul_cancel (by grind)]
      have : t + -t = 0 := by grind
      rw [this, at2_0]
  · rcases Rat.le_total (a := t) (b := 1) with c' | c'
    · exact .inl ⟨t, by grind, by grind, rfl⟩
    · refine .inr (.inl ⟨1 / t, ?_, ?_, ?_⟩)
      · rw [Rat.lt_div_iff (by grind)]; grind
      · rw [Rat.div_lt_iff (by grind)]; grind
      · rw [at2_at2l, Rat.div_mul_cancel n0, at2_1]
theorem opn_par {u v d : P2} (hd : opn u v d) : ∃ t : Rat, 0 < t ∧ t < 1 ∧ (∀ x, cr u d x = t * cr u v x) ∧ ∀ x, cr d v x = (1 - t) * cr u v x := by
  obtain ⟨t, t0, t1, rfl⟩ := hd
  exact ⟨t, t0, t1, fun x => cr_at2l _ _ _ _, fun x => cr_at2r _ _ _ _⟩
theorem cross_pt {a b c d : P2} (h1 : 0 < cr a b c ∧ cr a b d < 0 ∨ cr a b c < 0 ∧ 0 < cr a b d) (h2 : 0 < cr c d a ∧ cr c d b < 0 ∨ cr c d a < 0 ∧ 0 < cr c d b) : ∃ x, opn a b x ∧ opn c d x := by
  have e : cr c d a - cr c d b = -(cr a b c - cr a b d) := by unfold cr; grind
  have i1 : a.1 * (cr a b c - cr a b d) - cr c d a * (b.1 - a.1) = c.1 * (cr a b c - cr a b d) + cr a b c * (d.1 - c.1) := by unfold cr; grind
  have i2 : a.2 * (cr a b c - cr a b d) - cr c d a * (b.2 - a.2) = c.2 * (cr a b c - cr a b d) + cr a b c * (d.2 - c.2) := by unfold cr; grind
  generalize cr a b c = P at *
  generalize cr a b d = Q at *
  generalize cr c d a = R at *
  generalize cr c d b = S at *
  have nD : P - Q ≠ 0 := by grind
  have frac : ∀ {p q : Rat}, (0 < p ∧ q < 0 ∨ p < 0 ∧ 0 < q) → 0 < p / (p - q) ∧ p / (p - q) < 1 := by
    intro p q h
    rcases h with ⟨x, y⟩ | ⟨x, y⟩
    · exact ⟨by rw [Rat.lt_div_iff (by grind)]; grind, by rw [Rat.div_lt_iff (by grind)]; grind⟩
    · have e : p / (p - q) = (-p) / (q - p) := by
        have n1 : p - q ≠ 0 := by grind
        have n2 : q - p ≠ 0 := by grind
        have a1 := Rat.div_mul_cancel (a := p) n1
        have a2 := Rat.div_mul_cancel (a := -p) n2
        generalize p / (p - q) = X at *
        generalize -p / (q - p) = Y at *
        have : (X - Y) * (p - q) = 0 := by grind
        rcases Rat.mul_eq_zero.1 this with z | z
        · grind
        · exact absurd z n1
      rw [e]
      exact ⟨by rw [Rat.lt_div_iff (by grind)]; grind, by rw [Rat.div_lt_iff (by grind)]; grind⟩
  obtain ⟨s0, s1⟩ := frac h1
  obtain ⟨t0, t1⟩ := frac h2
  have es := Rat.div_mul_cancel (a := P) nD
  have et := Rat.div_mul_cancel (a := R) (b := R - S) (by grind)
  refine ⟨at2 a b (R / (R - S)), ⟨_, t0, t1, rfl⟩, ⟨_, s0, s1, ?_⟩⟩
  generalize P / (P - Q) = s at *
  generalize R / (R - S) = t at *
  have cancel : ∀ {x : Rat}, x * (P - Q) = 0 → x = 0 := fun {x} h => by
    rcases Rat.mul_eq_zero.1 h with z | z
    · exact z
    · exact absurd z nD
  unfold at2
  refine Prod.ext ?_ ?_
  · show a.1 + t * (b.1 - a.1) = c.1 + s * (d.1 - c.1)
    have : (a.1 + t * (b.1 - a.1) - (c.1 + s * (d.1 - c.1))) * (P - Q) = 0 := by grind
    have := cancel this
    grind
  · show a.2 + t * (b.2 - a.2) = c.2 + s * (d.2 - c.2)
    have : (a.2 + t * (b.2 - a.2) - (c.2 + s * (d.2 - c.2))) * (P - Q) = 0 := by grind
    have := cancel this
    grind
end Go.Eng
end
section
set_option linter.unusedVariables false
set_option linter.unusedSimpArgs false
set_option linter.unusedSectionVars false
namespace Go.Eng
def trp (z : P2) : P2 → P2 → List P2 → List (P2 × P2 × P2)
  | p, a, [] => [(p, a, z)]
  | p, a, b :: t => (p, a, b) :: trp z a b t
def lst : P2 → List P2 → P2
  | a, [] => a
  | _, b :: t => lst b t
def cor : List P2 → List (P2 × P2 × P2)
  | [] => []
  | a :: t => trp a (lst a t) a t
theorem lst_snoc (c : P2) : ∀ (a : P2) (t : List P2), lst a (t ++ [c]) = c
  | _, [] => rfl
  | _, b :: t => lst_snoc c b t
theorem tri_snoc (z c : P2) : ∀ (p a : P2) (t : List P2), trp z p a (t ++ [c]) = trp c p a t ++ [(lst a t, c, z)]
  | _, _, [] => rfl
  | p, a, b :: t => by
    show (p, a, b) :: trp z a b (t ++ [c]) = (p, a, b) :: (trp c a b t ++ [(lst b t, c, z)])
    rw [tri_snoc z c a b t]
theorem tri_len (z : P2) : ∀ (p a : P2) (t : List P2), (trp z p a t).length = t.length + 1
  | _, _, [] => rfl
  | p, a, b :: t => by
    show (trp z a b t).length + 1 = _
    rw [tri_len z a b t]; rfl
theorem cor_len (l : List P2) : (cor l).length = l.length := by
  cases l with
  | nil => rfl
  | cons a t => exact tri_len _ _ _ _
theorem tri_cur (z : P2) : ∀ (p a : P2) (t : List P2), (trp z p a t).map (fun c => c.2.1) = a :: t
  | _, _, [] => rfl
  | p, a, b :: t => by
    show a :: (trp z a b t).map _ = _
    rw [tri_cur z a b t]
theorem cor_cur (l : List P2) : (cor l).map (fun c => c.2.1) = l := by
  cases l with
  | nil => rfl
  | cons a t => exact tri_cur _ _ _ _
theorem cor_step (a : P2) (t : List P2) : ∃ R h, cor (a :: t) = h :: R ∧ cor (t ++ [a]) = R ++ [h] := by
  cases t with
  | nil => exact ⟨[], _, rfl, rfl⟩
  | cons b t =>
    refine ⟨trp a a b t, (lst b t, a, b), rfl, ?_⟩
    show trp b (lst b (t ++ [a])) b (t ++ [a]) = _
    rw [lst_snoc, tri_snoc]
theorem cor_rot : ∀ (A B : List P2), ∃ X Y, cor (A ++ B) = X ++ Y ∧ cor (B ++ A) = Y ++ X ∧ X.length = A.length
  | [], B => ⟨[], cor B, rfl, by rw [List.append_nil, List.append_nil], rfl⟩
  | a :: A, B => by
    obtain ⟨R, h, h1, h2⟩ := cor_step a (A ++ B)
    obtain ⟨X, Y, e1, e2, e3⟩ := cor_rot A (B ++ [a])
    rw [List.append_assoc] at h2
    rw [h2] at e1
    rw [List.append_assoc] at e2
    have hy : Y ≠ [] := fun e => by
      subst e
      have l1 := congrArg List.length e2
      rw [cor_len] at l1
      simp at l1
      omega
    obtain ⟨Y', y, rfl⟩ : ∃ Y' y, Y = Y' ++ [y] := ⟨Y.dropLast, Y.getLast hy, (List.dropLast_concat_getLast hy).symm⟩
    rw [← List.append_assoc] at e1
    have e4 := List.append_inj' e1 rfl
    have e5 : h = y := by have := e4.2; simpa using this
    subst e5
    refine ⟨h :: X, Y', ?_, ?_, by simp [e3]⟩
    · rw [List.cons_append, h1, e4.1]; rfl
    · show cor (B ++ ([a] ++ A)) = _
      rw [e2]; simp
theorem cor_get : ∀ (z p a : P2) (t : List P2) (i : Nat), i < (a :: t).length → (trp z p a t)[i]? = some ((if i = 0 then p else ((a :: t)[i - 1]?).getD z), ((a :: t)[i]?).getD z, ((a :: t)[i + 1]?).getD z)
  | z, p, a, [], 0, _ => rfl
  | z, p, a, [], i + 1, h => absurd h (by simp)
  | z, p, a, b :: t, 0, _ => by rfl
  | z, p, a, b :: t, i + 1, h => by
    show (trp z a b t)[i]? = _
    rw [cor_get z a b t i (by simpa using h)]
    rw [if_neg (show ¬ i + 1 = 0 by omega)]
    cases i with
    | zero => rfl
    | succ i => rw [if_neg (show ¬ i + 1 = 0 by omega)]; rfl
def swp (c : P2 × P2 × P2) : P2 × P2 × P2 := (c.2.2, c.2.1, c.1)
theorem rev_lst (a : P2) (t : List P2) : ∃ r, (a :: t).reverse = lst a t :: r ∧ lst (lst a t) r = a ∧ ∀ z p, trp p z (lst a t) r = ((trp z p a t).map swp).reverse := by
  induction t generalizing a with
  | nil => exact ⟨[], rfl, rfl, fun _ _ => rfl⟩
  | cons b t ih =>
    obtain ⟨r, h1, h2, h3⟩ := ih b
    refine ⟨r ++ [a], ?_, lst_snoc _ _ _, fun z p => ?_⟩
    · rw [List.reverse_cons, h1]; rfl
    · show trp p z (lst b t) (r ++ [a]) = (((p, a, b) :: trp z a b t).map swp).reverse
      rw [tri_snoc, h2, h3 z a]
      simp [swp]
theorem cor_rev (l : List P2) : cor l.reverse = ((cor l).map swp).reverse := by
  cases l with
  | nil => rfl
  | cons a t =>
    obtain ⟨r, h1, h2, h3⟩ := rev_lst a t
    rw [h1]
    show trp (lst a t) (lst (lst a t) r) (lst a t) r = _
    rw [h2, h3]; rfl
def edg (l : List P2) : List (P2 × P2) := (cor l).map fun c => c.2
def pth : P2 → List P2 → List (P2 × P2)
  | _, [] => []
  | a, b :: t => (a, b) :: pth b t
theorem tri_edg (z : P2) : ∀ (p a : P2) (t : List P2), (trp z p a t).map (fun c => c.2) = pth a t ++ [(lst a t, z)]
  | _, _, [] => rfl
  | p, a, b :: t => by
    show (a, b) :: (trp z a b t).map _ = _
    rw [tri_edg z a b t]; rfl
theorem edg_cons (a : P2) (t : List P2) : edg (a :: t) = pth a t ++ [(lst a t, a)] := tri_edg _ _ _ _
theorem pth_snoc (c : P2) : ∀ (a : P2) (t : List P2), pth a (t ++ [c]) = pth a t ++ [(lst a t, c)]
  | _, [] => rfl
  | a, b :: t => by
    show (a, b) :: pth b (t ++ [c]) = (a, b) :: (pth b t ++ _)
    rw [pth_snoc c b t]; rfl
theorem edg_snoc (a : P2) (t : List P2) (d : P2) : edg (a :: (t ++ [d])) = pth a t ++ [(lst a t, d), (d, a)] := by
  rw [edg_cons, pth_snoc, lst_snoc, List.append_assoc]; rfl
theorem lst_mem : ∀ (a : P2) (t : List P2), lst a t ∈ a :: t
  | a, [] => by simp [lst]
  | a, b :: t => List.mem_cons_of_mem _ (lst_mem b t)
theorem edg_perm (A B : List P2) : (edg (A ++ B)).Perm (edg (B ++ A)) := by
  obtain ⟨X, Y, h1, h2, _⟩ := cor_rot A B
  unfold edg
  rw [h1, h2]
  exact (List.perm_append_comm).map _
structure Simp (l : List P2) : Prop where
  n3 : 3 ≤ l.length
  nd : l.Nodup
  vo : ∀ v ∈ l, ∀ e ∈ edg l, ¬ opn e.1 e.2 v
  oo : (edg l).Pairwise fun e f => ∀ x, ¬ (opn e.1 e.2 x ∧ opn f.1 f.2 x)
theorem Simp.perm {l l' : List P2} (h : Simp l) (p : l.Perm l') (q : (edg l).Perm (edg l')) : Simp l' :=
  ⟨by rw [← p.length_eq]; exact h.n3, p.nodup_iff.1 h.nd, fun v hv e he => h.vo v (p.mem_iff.2 hv) e (q.mem_iff.2 he),
    q.pairwise h.oo fun {x y} H z hz => H z ⟨hz.2, hz.1⟩⟩
theorem Simp.rot {A B : List P2} (h : Simp (A ++ B)) : Simp (B ++ A) := h.perm List.perm_append_comm (edg_perm A B)
theorem edg_rev (l : List P2) : (edg l.reverse).Perm ((edg l).map fun e => (e.2, e.1)) := by
  have h1 : edg l.reverse = (((cor l).map fun c => (c.2.1, c.1))).reverse := by
    unfold edg
    rw [cor_rev, List.map_reverse, List.map_map]; rfl
  rw [h1]
  refine (List.reverse_perm _).trans ?_
  cases l with
  | nil => exact .refl _
  | cons a t =>
    have key : ∀ (z p a : P2) (t : List P2), (trp z p a t).map (fun c => (c.2.1, c.1)) = (a, p) :: (pth a t).map fun e => (e.2, e.1) := by
      intro z p a t
      induction t generalizing p a with
      | nil => rfl
      | cons b t ih =>
        show (a, p) :: (trp z a b t).map _ = _
        rw [ih]; rfl
    show ((trp a (lst a t) a t).map _).Perm _
    rw [key, edg_cons, List.map_append]
    exact (List.perm_append_comm (l₁ := [(a, lst a t)]) (l₂ := (pth a t).map fun e => (e.2, e.1)))
theorem Simp.rev {l : List P2} (h : Simp l) : Simp l.reverse where
  n3 := by rw [List.length_reverse]; exact h.n3
  nd := (List.reverse_perm l).nodup_iff.2 h.nd
  vo := fun v hv e he => by
    have := (edg_rev l).mem_iff.1 he
    obtain ⟨f, hf, rfl⟩ := List.mem_map.1 this
    exact fun x => h.vo v (List.mem_reverse.1 hv) f hf (opn_swap.1 x)
  oo := by
    refine (edg_rev l).symm.pairwise ?_ fun {x y} H z hz => H z ⟨hz.2, hz.1⟩
    rw [List.pairwise_map]
    exact h.oo.imp fun H x hx => H x ⟨opn_swap.1 hx.1, opn_swap.1 hx.2⟩
theorem Simp.del {a : P2} {t : List P2} {d : P2} (h : Simp (a :: (t ++ [d]))) (n3 : 3 ≤ (a :: t).length) (hd : opn (lst a t) a d) : Simp (a :: t) := by
  have e0 : (a :: (t ++ [d])) = (a :: t) ++ [d] := rfl
  have sub : ∀ v ∈ a :: t, v ∈ a :: (t ++ [d]) := fun v hv => by rw [e0]; exact List.mem_append_left _ hv
  have hdm : d ∈ a :: (t ++ [d]) := by simp
  have hp : ∀ e ∈ pth a t, e ∈ edg (a :: (t ++ [d])) := fun e he => by rw [edg_snoc]; exact List.mem_append_left _ he
  have m1 : (lst a t, d) ∈ edg (a :: (t ++ [d])) := by rw [edg_snoc]; simp
  have m2 : (d, a) ∈ edg (a :: (t ++ [d])) := by rw [edg_snoc]; simp
  have nd := h.nd
  rw [e0, List.nodup_append] at nd
  have oo := h.oo
  rw [edg_snoc, List.pairwise_append] at oo
  refine ⟨n3, nd.1, ?_, ?_⟩
  · intro v hv e he
    rw [edg_cons, List.mem_append] at he
    rcases he with he | he
    · exact h.vo v (sub v hv) e (hp e he)
    · have he : e = (lst a t, a) := by simpa using he
      subst he
      intro hx
      rcases (opn_split hd).1 hx with x | x | x
      · exact h.vo v (sub v hv) _ m1 x
      · exact nd.2.2 v hv d (by simp) x
      · exact h.vo v (sub v hv) _ m2 x
  · rw [edg_cons, List.pairwise_append]
    refine ⟨oo.1, by simp, ?_⟩
    intro e he f hf x hx
    have hf : f = (lst a t, a) := by simpa using hf
    subst hf
    rcases (opn_split hd).1 hx.2 with y | y | y
    · exact oo.2.2 e he (lst a t, d) (by simp) x ⟨hx.1, y⟩
    · exact h.vo d hdm e (hp e he) (y ▸ hx.1)
    · exact oo.2.2 e he (d, a) (by simp) x ⟨hx.1, y⟩
theorem Simp.str {a : P2} {t : List P2} {d : P2} (h : Simp (a :: (t ++ [d]))) (hc : cr (lst a t) d a = 0) : opn (lst a t) a d := by
  have m1 : (lst a t, d) ∈ edg (a :: (t ++ [d])) := by rw [edg_snoc]; simp
  have m2 : (d, a) ∈ edg (a :: (t ++ [d])) := by rw [edg_snoc]; simp
  have nd := h.nd
  have e0 : (a :: (t ++ [d])) = (a :: t) ++ [d] := rfl
  have hn3 := h.n3
  rw [e0, List.nodup_append] at nd
  have nu : lst a t ≠ a := by
    have nd1 := nd.1
    cases t with
    | nil => simp at hn3
    | cons b t => exact fun e => (List.nodup_cons.1 nd1).1 (by rw [← e]; exact lst_mem b t)
  have n1 : d ≠ lst a t := fun e => nd.2.2 _ (lst_mem a t) d (by simp) e.symm
  have n2 : d ≠ a := fun e => nd.2.2 a (by simp) d (by simp) e.symm
  have hu : lst a t ∈ a :: (t ++ [d]) := by rw [e0]; exact List.mem_append_left _ (lst_mem a t)
  have ha : a ∈ a :: (t ++ [d]) := by simp
  rcases col_cases (a := lst a t) (b := a) (x := d) nu (by rw [cr_flip, hc]; rfl) n1 n2 with x | x | x
  · exact x
  · exact absurd x (h.vo a ha _ m1)
  · exact absurd x (h.vo _ hu _ m2)
end Go.Eng
end
section
set_option linter.unusedVariables false
set_option linter.unusedSimpArgs false
set_option linter.unusedSectionVars false
namespace Go.Eng
def sg (q : Rat) : Int := q.num.sign
theorem sg_zero {q : Rat} : sg q = 0 ↔ q = 0 := by
  unfold sg
  rw [Int.sign_eq_zero_iff_zero]
  exact Rat.num_eq_zero
theorem rnum_pos {q : Rat} : 0 < q.num ↔ 0 < q := by
  have a := Rat.num_nonneg (q := q)
  have b := Rat.num_eq_zero (q := q)
  constructor
  · intro h
    have h1 := a.1 (by omega)
    have h2 : q ≠ 0 := fun e => by have := b.2 e; omega
    exact Rat.lt_of_le_of_ne h1 (fun e => h2 e.symm)
  · intro h
    have h1 := a.2 (Rat.le_of_lt h)
    have h2 : q.num ≠ 0 := fun e => by have := b.1 e; subst this; exact Rat.lt_irrefl h
    omega
theorem rnum_neg {q : Rat} : q.num < 0 ↔ q < 0 := by
  have a := Rat.num_nonneg (q := q)
  constructor
  · intro h; rw [← Rat.not_le]; exact fun x => by have := a.2 x; omega
  · intro h
    have : ¬ 0 ≤ q.num := fun x => absurd (a.1 x) (by rw [Rat.not_le]; exact h)
    omega
theorem sg_pos {q : Rat} : sg q = 1 ↔ 0 < q := by unfold sg; rw [Int.sign_eq_one_iff_pos]; exact rnum_pos
theorem sg_neg {q : Rat} : sg q = -1 ↔ q < 0 := by unfold sg; rw [Int.sign_eq_neg_one_iff_neg]; exact rnum_neg
theorem sg3 (q : Rat) : (0 < q ∧ sg q = 1) ∨ (q = 0 ∧ sg q = 0) ∨ (q < 0 ∧ sg q = -1) := by
  by_cases h : 0 < q
  · exact .inl ⟨h, sg_pos.2 h⟩
  · by_cases h2 : q = 0
    · exact .inr (.inl ⟨h2, sg_zero.2 h2⟩)
    · have : q < 0 := by grind
      exact .inr (.inr ⟨this, sg_neg.2 this⟩)
theorem sg_lt {q : Rat} : sg q < 0 ↔ q < 0 := by rcases sg3 q with ⟨a, b⟩ | ⟨a, b⟩ | ⟨a, b⟩ <;> rw [b] <;> constructor <;> intro h <;> first | grind | (exfalso; grind) | omega
theorem sg_gt {q : Rat} : 0 < sg q ↔ 0 < q := by rcases sg3 q with ⟨a, b⟩ | ⟨a, b⟩ | ⟨a, b⟩ <;> rw [b] <;> constructor <;> intro h <;> first | grind | (exfalso; grind) | omega
theorem sg_mulp {t q : Rat} (h : 0 < t) : sg (t * q) = sg q := by
  rcases sg3 q with ⟨a, b⟩ | ⟨a, b⟩ | ⟨a, b⟩ <;> rw [b]
  · exact sg_pos.2 (Rat.mul_pos h a)
  · rw [a, Rat.mul_zero]; exact sg_zero.2 rfl
  · exact sg_neg.2 ((Rat.mul_neg_iff_of_pos_left h).2 a)
theorem sg_opp (q : Rat) : sg (-q) = - sg q := by unfold sg; rw [Rat.neg_num, Int.sign_neg]
def cmpP (a b : P2) : Int := if sg (a.1 - b.1) ≠ 0 then sg (a.1 - b.1) else sg (a.2 - b.2)
theorem cmpP_zero {a b : P2} : cmpP a b = 0 ↔ a = b := by
  unfold cmpP
  constructor
  · intro h
    split at h
    · rename_i x; exact absurd h x
    · rename_i x
      have x := Decidable.of_not_not x
      exact Prod.ext (by have := sg_zero.1 x; grind) (by have := sg_zero.1 h; grind)
  · rintro rfl
    rw [Rat.sub_self, Rat.sub_self]; rfl
def lexlt (a b : P2) : Prop := a.1 < b.1 ∨ (a.1 = b.1 ∧ a.2 < b.2)
theorem cmpP_lt {a b : P2} : cmpP a b < 0 ↔ lexlt a b := by
  unfold cmpP lexlt
  rcases sg3 (a.1 - b.1) with ⟨x, y⟩ | ⟨x, y⟩ | ⟨x, y⟩
  · rw [y]; simp; constructor <;> intro h <;> grind
  · rw [y]; simp only [ne_eq, not_true_eq_false, if_false]
    rw [sg_lt]; constructor <;> intro h <;> grind
  · rw [y]; simp; grind
theorem cmpP_at2 {a b : P2} (t : Rat) : cmpP a (at2 a b t) = sg t * cmpP a b ∧ cmpP (at2 a b t) b = sg (1 - t) * cmpP a b := by
  have e1 : a.1 - (at2 a b t).1 = t * (a.1 - b.1) := by unfold at2; grind
  have e2 : a.2 - (at2 a b t).2 = t * (a.2 - b.2) := by unfold at2; grind
  have e3 : (at2 a b t).1 - b.1 = (1 - t) * (a.1 - b.1) := by unfold at2; grind
  have e4 : (at2 a b t).2 - b.2 = (1 - t) * (a.2 - b.2) := by unfold at2; grind
  unfold cmpP
  rw [e1, e2, e3, e4]
  have key : ∀ (t p q : Rat), (if sg (t * p) ≠ 0 then sg (t * p) else sg (t * q)) = sg t * (if sg p ≠ 0 then sg p else sg q) := by
    intro t p q
    rcases sg3 t with ⟨x, y⟩ | ⟨x, y⟩ | ⟨x, y⟩
    · rw [sg_mulp x, sg_mulp x, y, Int.one_mul]
    · rw [x, Rat.zero_mul, Rat.zero_mul, show sg 0 = 0 from rfl]; simp
    · have f : ∀ z, sg (t * z) = - sg z := fun z => by
        have : t * z = -((-t) * z) := by grind
        rw [this, sg_opp, sg_mulp (by grind)]
      rw [f, f, y]
      split <;> split <;> first | omega | (exfalso; omega)
  exact ⟨key _ _ _, key _ _ _⟩
def onB (a b x : P2) : Bool := decide (sg (cr a b x) = 0) && (decide (0 ≤ cmpP a x * cmpP x b) && (decide (cmpP a b ≠ 0) || decide (cmpP a x = 0)))
theorem onB_iff {a b x : P2} : onB a b x = true ↔ x = a ∨ x = b ∨ opn a b x := by
  unfold onB
  simp only [Bool.and_eq_true, Bool.or_eq_true, decide_eq_true_eq]
  by_cases h : a = b
  · subst h
    constructor
    · rintro ⟨_, _, h | h⟩
      · exact absurd (cmpP_zero.2 rfl) h
      · exact .inl (cmpP_zero.1 h).symm
    · intro h
      have : x = a := by
        rcases h with h | h | ⟨t, _, _, h⟩
        · exact h
        · exact h
        · rw [h]; unfold at2; ext <;> simp <;> grind
      subst this
      have := cmpP_zero (a := x) (b := x)
      rw [this.2 rfl, cr_a]
      exact ⟨rfl, by omega, .inr rfl⟩
  · have n0 : cmpP a b ≠ 0 := fun e => h (cmpP_zero.1 e)
    constructor
    · rintro ⟨h1, h2, _⟩
      obtain ⟨t, rfl⟩ := col_at2 h (sg_zero.1 h1)
      obtain ⟨c1, c2⟩ := cmpP_at2 (a := a) (b := b) t
      rw [c1, c2] at h2
      have sq : 0 < cmpP a b * cmpP a b := by
        rcases Int.lt_or_gt_of_ne n0 with x | x
        · exact Int.mul_pos_of_neg_of_neg x x
        · exact Int.mul_pos x x
      have h3 : 0 ≤ sg t * sg (1 - t) := by
        have e : sg t * cmpP a b * (sg (1 - t) * cmpP a b) = sg t * sg (1 - t) * (cmpP a b * cmpP a b) := by grind
        rw [e] at h2
        refine Int.not_lt.1 fun x => ?_
        have := Int.mul_neg_of_neg_of_pos x sq
        omega
      rcases sg3 t with ⟨x, y⟩ | ⟨x, y⟩ | ⟨x, y⟩
      · rcases sg3 (1 - t) with ⟨x', y'⟩ | ⟨x', y'⟩ | ⟨x', y'⟩
        · exact .inr (.inr ⟨t, x, by grind, rfl⟩)
        · exact .inr (.inl (by rw [show t = 1 by grind, at2_1]))
        · rw [y, y'] at h3; omega
      · exact .inl (by rw [x, at2_0])
      · rcases sg3 (1 - t) with ⟨x', y'⟩ | ⟨x', y'⟩ | ⟨x', y'⟩
        · rw [y, y'] at h3; omega
        · grind
        · grind
    · intro hx
      have hx : ∃ t, 0 ≤ t ∧ t ≤ 1 ∧ x = at2 a b t := by
        rcases hx with rfl | rfl | ⟨t, t0, t1, rfl⟩
        · exact ⟨0, by grind, by grind, (at2_0 _ _).symm⟩
        · exact ⟨1, by grind, by grind, (at2_1 _ _).symm⟩
        · exact ⟨t, by grind, by grind, rfl⟩
      obtain ⟨t, t0, t1, rfl⟩ := hx
      obtain ⟨c1, c2⟩ := cmpP_at2 (a := a) (b := b) t
      refine ⟨sg_zero.2 (cr_at2 _ _ _), ?_, .inl n0⟩
      rw [c1, c2]
      have sq : 0 ≤ cmpP a b * cmpP a b := by
        rcases Int.lt_or_gt_of_ne n0 with x | x
        · exact Int.le_of_lt (Int.mul_pos_of_neg_of_neg x x)
        · exact Int.le_of_lt (Int.mul_pos x x)
      have e : sg t * cmpP a b * (sg (1 - t) * cmpP a b) = sg t * sg (1 - t) * (cmpP a b * cmpP a b) := by grind
      rw [e]
      refine Int.mul_nonneg ?_ sq
      rcases sg3 t with ⟨x, y⟩ | ⟨x, y⟩ | ⟨x, y⟩ <;> rcases sg3 (1 - t) with ⟨x', y'⟩ | ⟨x', y'⟩ | ⟨x', y'⟩ <;> rw [y, y'] <;> first | omega | (exfalso; grind)
theorem onB_swap (a b x : P2) : onB b a x = onB a b x := by
  rw [Bool.eq_iff_iff, onB_iff, onB_iff, opn_swap]
  constructor <;> rintro (h | h | h) <;> simp [h]
def crs (e : P2 × P2) : Rat := e.1.1 * e.2.2 - e.2.1 * e.1.2
def sumE (f : P2 × P2 → Rat) : List (P2 × P2) → Rat
  | [] => 0
  | e :: l => f e + sumE f l
theorem sumE_app (f : P2 × P2 → Rat) : ∀ l l', sumE f (l ++ l') = sumE f l + sumE f l'
  | [], l' => by rw [List.nil_append, sumE, Rat.zero_add]
  | e :: l, l' => by rw [List.cons_append, sumE, sumE, sumE_app f l l']; grind
theorem sumE_perm {f : P2 × P2 → Rat} {l l' : List (P2 × P2)} (h : l.Perm l') : sumE f l = sumE f l' := by
  induction h with
  | nil => rfl
  | cons x _ ih => rw [sumE, sumE, ih]
  | swap x y l => simp only [sumE]; grind
  | trans _ _ a b => exact a.trans b
theorem sumE_neg {f g : P2 × P2 → Rat} (s : P2 × P2 → P2 × P2) (h : ∀ e, f (s e) = - g e) : ∀ l, sumE f (l.map s) = - sumE g l
  | [] => rfl
  | e :: l => by rw [List.map_cons, sumE, sumE, sumE_neg s h l, h]; grind
def ar2 (l : List P2) : Rat := sumE crs (edg l)
theorem ar2_rot (A B : List P2) : ar2 (A ++ B) = ar2 (B ++ A) := sumE_perm (edg_perm A B)
theorem ar2_rev (l : List P2) : ar2 l.reverse = - ar2 l := by
  unfold ar2
  rw [sumE_perm (edg_rev l)]
  exact sumE_neg (fun e => (e.2, e.1)) (fun e => by unfold crs; grind) _
def xg (x : P2) (e : P2 × P2) : Bool :=
  if decide (x.2 < e.2.2) = decide (x.2 < e.1.2) then false else if x.2 < e.2.2 then decide (0 < cr e.1 e.2 x) else decide (cr e.1 e.2 x < 0)
theorem xg_swap (x : P2) (e : P2 × P2) : xg x (e.2, e.1) = xg x e := by
  unfold xg
  simp only
  rw [cr_swap]
  by_cases h1 : x.2 < e.2.2 <;> by_cases h2 : x.2 < e.1.2 <;> simp [h1, h2] <;> constructor <;> intro h <;> grind
def xs (x : P2) (l : List P2) : Nat := (edg l).countP (xg x)
def onL (l : List P2) (x : P2) : Bool := (edg l).any fun e => onB e.1 e.2 x
theorem any_perm {α : Type} {p : α → Bool} {l l' : List α} (h : l.Perm l') : l.any p = l'.any p := by
  rw [Bool.eq_iff_iff, List.any_eq_true, List.any_eq_true]
  exact ⟨fun ⟨x, a, b⟩ => ⟨x, h.mem_iff.1 a, b⟩, fun ⟨x, a, b⟩ => ⟨x, h.mem_iff.2 a, b⟩⟩
theorem xs_rot (x : P2) (A B : List P2) : xs x (A ++ B) = xs x (B ++ A) := (edg_perm A B).countP_eq _
theorem onL_rot (x : P2) (A B : List P2) : onL (A ++ B) x = onL (B ++ A) x := any_perm (edg_perm A B)
theorem xs_rev (x : P2) (l : List P2) : xs x l.reverse = xs x l := by
  unfold xs
  rw [(edg_rev l).countP_eq, List.countP_map]
  exact List.countP_congr fun e _ => by rw [Function.comp, xg_swap]
theorem onL_rev (x : P2) (l : List P2) : onL l.reverse x = onL l x := by
  unfold onL
  rw [any_perm (edg_rev l), List.any_map]
  congr 1
  funext e
  exact onB_swap _ _ _
def bnd (c : P2 × P2 × P2) : Bool := decide (cr c.1 c.2.1 c.2.2 ≠ 0)
def bflt (l : List (P2 × P2 × P2)) : List P2 := (l.filter bnd).map fun c => c.2.1
def bent (l : List P2) : List P2 := bflt (cor l)
theorem flt_app (l l' : List (P2 × P2 × P2)) : bflt (l ++ l') = bflt l ++ bflt l' := by unfold bflt; rw [List.filter_append, List.map_append]
theorem flt_z {z z' : P2} : ∀ {p a : P2} {t : List P2}, (∀ y, cr y (lst a t) z = 0 ↔ cr y (lst a t) z' = 0) → bflt (trp z p a t) = bflt (trp z' p a t)
  | p, a, [], h => by
    have e : bnd (p, a, z) = bnd (p, a, z') := decide_eq_decide.2 (not_congr (h p))
    unfold bflt trp
    rw [List.filter_cons, List.filter_cons, e]
    split <;> rfl
  | p, a, b :: t, h => by
    have ih := flt_z (p := a) (a := b) (t := t) h
    show bflt ([(p, a, b)] ++ trp z a b t) = bflt ([(p, a, b)] ++ trp z' a b t)
    rw [flt_app, flt_app, ih]
theorem flt_p {z p p' a : P2} {t : List P2} (h : ∀ x, cr p a x = 0 ↔ cr p' a x = 0) : bflt (trp z p a t) = bflt (trp z p' a t) := by
  have key : ∀ x, bflt [(p, a, x)] = bflt [(p', a, x)] := fun x => by
    have e : bnd (p, a, x) = bnd (p', a, x) := decide_eq_decide.2 (not_congr (h x))
    unfold bflt
    rw [List.filter_cons, List.filter_cons, e]
    split <;> rfl
  cases t with
  | nil => exact key z
  | cons b t =>
    show bflt ([(p, a, b)] ++ trp z a b t) = bflt ([(p', a, b)] ++ trp z a b t)
    rw [flt_app, flt_app, key]
theorem bent_rot (A B : List P2) : ∃ X Y, bent (A ++ B) = X ++ Y ∧ bent (B ++ A) = Y ++ X := by
  obtain ⟨X, Y, h1, h2, _⟩ := cor_rot A B
  exact ⟨bflt X, bflt Y, by unfold bent; rw [h1, flt_app], by unfold bent; rw [h2, flt_app]⟩
theorem bent_rev (l : List P2) : bent l.reverse = (bent l).reverse := by
  unfold bent bflt
  rw [cor_rev, List.filter_reverse, List.filter_map, List.map_reverse, List.map_map]
  have : (bnd ∘ swp) = bnd := by
    funext c
    show decide _ = decide _
    refine decide_eq_decide.2 (not_congr ?_)
    unfold swp
    simp only
    rw [cr_rot, cr_swap, ← cr_rot]
    constructor <;> intro h <;> grind
  rw [this]; rfl
def AllB (l : List P2) : Prop := ∀ c ∈ cor l, cr c.1 c.2.1 c.2.2 ≠ 0
theorem AllB.bent {l : List P2} (h : AllB l) : bent l = l := by
  unfold Go.Eng.bent bflt
  rw [show (cor l).filter bnd = cor l from List.filter_eq_self.2 fun c hc => decide_eq_true (h c hc)]
  exact cor_cur l
theorem AllB.rot {A B : List P2} (h : AllB (A ++ B)) : AllB (B ++ A) := by
  obtain ⟨X, Y, h1, h2, _⟩ := cor_rot A B
  intro c hc
  refine h c ?_
  rw [h1]; rw [h2] at hc
  exact List.perm_append_comm.mem_iff.1 hc
theorem AllB.rev {l : List P2} (h : AllB l) : AllB l.reverse := by
  intro c hc
  rw [cor_rev] at hc
  obtain ⟨d, hd, rfl⟩ := List.mem_map.1 (List.mem_reverse.1 hc)
  have := h d hd
  unfold swp
  simp only
  rw [← cr_rot, cr_swap] at this
  intro e
  rw [← cr_rot, ← cr_rot] at this
  apply this
  rw [← cr_rot, ← cr_rot] at e
  unfold cr at e ⊢
  grind
section
variable {a : P2} {t : List P2} {d : P2}
theorem ins_bent (hd : opn (lst a t) a d) : bent (a :: (t ++ [d])) = bent (a :: t) := by
  have h0 := opn_cr hd
  obtain ⟨r, r0, r1, h1, h2⟩ := opn_par hd
  have z1 : bnd (lst a t, d, a) = false := by
    refine decide_eq_false (not_not_intro ?_)
    show cr (lst a t) d a = 0
    rw [h1, cr_b]; grind
  show bflt (trp a (lst a (t ++ [d])) a (t ++ [d])) = bflt (trp a (lst a t) a t)
  rw [lst_snoc, tri_snoc, flt_app]
  have e1 : bflt [(lst a t, d, a)] = [] := by unfold bflt; rw [List.filter_cons, z1]; rfl
  rw [e1, List.append_nil, flt_p (p := d) (p' := lst a t), flt_z (z := d) (z' := a)]
  · intro y
    have e1 : cr y (lst a t) d = r * cr (lst a t) a y := by rw [← cr_rot y (lst a t) d, h1]
    have e2 : cr y (lst a t) a = cr (lst a t) a y := (cr_rot y (lst a t) a).symm
    rw [e1, e2]
    constructor
    · intro h
      rcases Rat.mul_eq_zero.1 h with x | x
      · grind
      · exact x
    · intro h; rw [h, Rat.mul_zero]
  · intro x
    rw [h2]
    constructor
    · intro h
      rcases Rat.mul_eq_zero.1 h with x | x
      · grind
      · exact x
    · intro h; rw [h, Rat.mul_zero]
theorem ins_ar2 (hd : opn (lst a t) a d) : ar2 (a :: (t ++ [d])) = ar2 (a :: t) := by
  have h0 := opn_cr hd
  unfold ar2
  rw [edg_snoc, edg_cons, sumE_app, sumE_app]
  simp only [sumE]
  unfold crs
  unfold cr at h0
  grind
theorem ins_on (hd : opn (lst a t) a d) (x : P2) : onL (a :: (t ++ [d])) x = onL (a :: t) x := by
  have key : (onB (lst a t) d x || onB d a x) = onB (lst a t) a x := by
    rw [Bool.eq_iff_iff, Bool.or_eq_true, onB_iff, onB_iff, onB_iff, opn_split (x := x) hd]
    constructor
    · rintro ((h | h | h) | (h | h | h)) <;> simp [h, hd]
    · rintro (h | h | h | h | h) <;> simp [h]
  unfold onL
  rw [edg_snoc, edg_cons, List.any_append, List.any_append]
  simp only [List.any_cons, List.any_nil, Bool.or_false]
  rw [key]
theorem ins_xs (hd : opn (lst a t) a d) (x : P2) : xs x (a :: (t ++ [d])) = xs x (a :: t) := by
  obtain ⟨r, r0, r1, h1, h2⟩ := opn_par hd
  have hy : ∃ s : Rat, 0 < s ∧ s < 1 ∧ d.2 = (lst a t).2 + s * (a.2 - (lst a t).2) := by
    obtain ⟨s, s0, s1, e⟩ := hd
    exact ⟨s, s0, s1, by rw [e]; rfl⟩
  obtain ⟨s, s0, s1, ey⟩ := hy
  have between : ∀ {p q : Rat}, (p ≤ q → p ≤ p + s * (q - p) ∧ p + s * (q - p) ≤ q) ∧ (q ≤ p → q ≤ p + s * (q - p) ∧ p + s * (q - p) ≤ p) := by
    intro p q
    constructor
    · intro h
      have g1 := Rat.mul_nonneg (a := s) (b := q - p) (by grind) (by grind)
      have g2 := Rat.mul_nonneg (a := 1 - s) (b := q - p) (by grind) (by grind)
      exact ⟨by grind, by grind⟩
    · intro h
      have g1 := Rat.mul_nonneg (a := s) (b := p - q) (by grind) (by grind)
      have g2 := Rat.mul_nonneg (a := 1 - s) (b := p - q) (by grind) (by grind)
      exact ⟨by grind, by grind⟩
  have bt := between (p := (lst a t).2) (q := a.2)
  rw [← ey] at bt
  have q0 : 0 < 1 - r := by grind
  have c1 : (0 < cr (lst a t) d x) = (0 < cr (lst a t) a x) := by rw [h1]; exact propext (Rat.mul_pos_iff_of_pos_left r0)
  have c2 : (cr (lst a t) d x < 0) = (cr (lst a t) a x < 0) := by rw [h1]; exact propext (Rat.mul_neg_iff_of_pos_left r0)
  have c3 : (0 < cr d a x) = (0 < cr (lst a t) a x) := by rw [h2]; exact propext (Rat.mul_pos_iff_of_pos_left q0)
  have c4 : (cr d a x < 0) = (cr (lst a t) a x < 0) := by rw [h2]; exact propext (Rat.mul_neg_iff_of_pos_left q0)
  unfold xs
  rw [edg_snoc, edg_cons, List.countP_append, List.countP_append]
  congr 1
  simp only [List.countP_cons, List.countP_nil]
  unfold xg
  simp only [c1, c2, c3, c4]
  by_cases y1 : x.2 < (lst a t).2 <;> by_cases y2 : x.2 < a.2 <;> by_cases y3 : x.2 < d.2 <;> simp [y1, y2, y3] <;> first | done | (exfalso; rcases Rat.le_total (a := (lst a t).2) (b := a.2) with z | z <;> grind)
end
structure Same2 (l b : List P2) : Prop where
  simp : Simp b
  ar : ar2 b = ar2 l
  on : ∀ x, onL b x = onL l x
  xs : ∀ x, xs x b = xs x l
theorem Same2.refl {l : List P2} (h : Simp l) : Same2 l l := ⟨h, rfl, fun _ => rfl, fun _ => rfl⟩
theorem Same2.trans {l b c : List P2} (h : Same2 l b) (k : Same2 b c) : Same2 l c := ⟨k.simp, k.ar.trans h.ar, fun x => (k.on x).trans (h.on x), fun x => (k.xs x).trans (h.xs x)⟩
theorem Same2.rot {A B : List P2} (h : Simp (A ++ B)) : Same2 (A ++ B) (B ++ A) := ⟨h.rot, (ar2_rot A B).symm, fun x => (onL_rot x A B).symm, fun x => (xs_rot x A B).symm⟩
theorem Simp.three {l : List P2} (h : Simp l) (n : l.length = 3) : AllB l := by
  obtain ⟨a, b, c, rfl⟩ : ∃ a b c, l = [a, b, c] := by
    match l, n with
    | [a, b, c], _ => exact ⟨a, b, c, rfl⟩
  have m1 : (a, b) ∈ edg [a, b, c] := by simp [edg, cor, trp, lst]
  have m2 : (b, c) ∈ edg [a, b, c] := by simp [edg, cor, trp, lst]
  have m3 : (c, a) ∈ edg [a, b, c] := by simp [edg, cor, trp, lst]
  have nd := h.nd
  simp only [List.nodup_cons, List.mem_cons, List.not_mem_nil, or_false, not_or] at nd
  have key : cr a b c ≠ 0 := by
    intro e
    rcases col_cases nd.1.1 e (fun e => nd.1.2 e.symm) (fun e => nd.2.1 e.symm) with x | x | x
    · exact h.vo c (by simp) _ m1 x
    · exact h.vo b (by simp) _ m3 (opn_swap.1 x)
    · exact h.vo a (by simp) _ m2 (opn_swap.1 x)
  intro d hd
  have hd : d = (c, a, b) ∨ d = (a, b, c) ∨ d = (b, c, a) := by simpa [cor, trp, lst] using hd
  rcases hd with rfl | rfl | rfl
  · show cr c a b ≠ 0
    rw [← cr_rot]; exact key
  · exact key
  · show cr b c a ≠ 0
    rw [cr_rot]; exact key
theorem Simp.chain : ∀ (n : Nat) {l : List P2}, l.length = n → Simp l → Same2 l (bent l) ∧ AllB (bent l) := by
  intro n
  induction n using Nat.strongRecOn with
  | _ n ih =>
    intro l hl h
    by_cases c : AllB l
    · rw [c.bent]; exact ⟨Same2.refl h, c⟩
    have c : ∃ k, k ∈ cor l ∧ cr k.1 k.2.1 k.2.2 = 0 := Classical.byContradiction fun x => c fun k hk e => x ⟨k, hk, e⟩
    obtain ⟨k, hk, ek⟩ := c
    obtain ⟨i, hi⟩ := List.getElem?_of_mem hk
    have hil : i < l.length := by rw [← cor_len]; exact (List.getElem?_eq_some_iff.1 hi).1
    have sp : l = l.take (i + 1) ++ l.drop (i + 1) := (List.take_append_drop _ _).symm
    obtain ⟨X, Y, h1, h2, h3⟩ := cor_rot (l.take (i + 1)) (l.drop (i + 1))
    rw [← sp] at h1
    have hX : X.length = i + 1 := by rw [h3, List.length_take]; omega
    obtain ⟨X', k', rfl⟩ : ∃ X' k', X = X' ++ [k'] := ⟨X.dropLast, X.getLast (fun e => by rw [e] at hX; simp at hX), (List.dropLast_concat_getLast _).symm⟩
    have ek' : k' = k := by
      rw [h1, List.append_assoc, List.getElem?_append_right (by simp at hX; omega)] at hi
      simp at hX
      rw [hX, Nat.sub_self] at hi
      simpa using hi
    subst ek'
    obtain ⟨r, er⟩ : ∃ r, l.drop (i + 1) ++ l.take (i + 1) = r := ⟨_, rfl⟩
    rw [er] at h2
    have hr : Simp r := by rw [← er]; exact (sp ▸ h : Simp (l.take (i + 1) ++ l.drop (i + 1))).rot
    have S1 : Same2 l r := by
      have := Same2.rot (sp ▸ h : Simp (l.take (i + 1) ++ l.drop (i + 1)))
      rw [← sp, er] at this; exact this
    have rl : r.length = n := by rw [← er, List.length_append, Nat.add_comm, ← List.length_append, ← sp]; exact hl
    obtain ⟨a, t, d, ert⟩ : ∃ a t d, r = a :: (t ++ [d]) := by
      have := hr.n3
      match r, this with
      | a :: b :: t, _ => exact ⟨a, (b :: t).dropLast, (b :: t).getLast (by simp), by rw [List.dropLast_concat_getLast]⟩
    rw [ert] at h2 hr S1 rl
    have e2 : cor (a :: (t ++ [d])) = trp d d a t ++ [(lst a t, d, a)] := by
      show trp a (lst a (t ++ [d])) a (t ++ [d]) = _
      rw [lst_snoc, tri_snoc]
    rw [e2, ← List.append_assoc] at h2
    have ekk : k' = (lst a t, d, a) := by
      have := (List.append_inj' h2 rfl).2
      simpa using this.symm
    rw [ekk] at ek
    have n4 : 3 ≤ (a :: t).length := by
      refine Nat.le_of_not_lt fun x => ?_
      have h3 : (a :: (t ++ [d])).length = 3 := by have := hr.n3; simp at this x ⊢; omega
      exact hr.three h3 _ (by rw [e2]; simp) ek
    have hd := hr.str ek
    have hq := hr.del n4 hd
    have S2 : Same2 (a :: (t ++ [d])) (a :: t) := ⟨hq, (ins_ar2 hd).symm, fun x => (ins_on hd x).symm, fun x => (ins_xs hd x).symm⟩
    obtain ⟨S3, al⟩ := ih (a :: t).length (by simp at rl ⊢; omega) rfl hq
    rw [← ins_bent hd] at S3 al
    have S := (S1.trans S2).trans S3
    obtain ⟨U, V, b1, b2⟩ := bent_rot (l.take (i + 1)) (l.drop (i + 1))
    rw [← sp] at b1
    rw [er, ert] at b2
    rw [b2] at S al
    rw [b1]
    exact ⟨S.trans (Same2.rot S.simp), al.rot⟩
end Go.Eng
end
section
set_option linter.unusedVariables false
set_option linter.unusedSimpArgs false
set_option linter.unusedSectionVars false
namespace Go.Eng
theorem lexlt_irrefl (a : P2) : ¬ lexlt a a := by unfold lexlt; grind
theorem lexlt_trans {a b c : P2} (h : lexlt a b) (k : lexlt b c) : lexlt a c := by unfold lexlt at *; grind
theorem lexlt_tri (a b : P2) : lexlt a b ∨ a = b ∨ lexlt b a := by
  unfold lexlt
  by_cases h1 : a.1 = b.1
  · by_cases h2 : a.2 = b.2
    · exact .inr (.inl (Prod.ext h1 h2))
    · rcases Rat.le_total (a := a.2) (b := b.2) with x | x
      · exact .inl (.inr ⟨h1, by grind⟩)
      · exact .inr (.inr (.inr ⟨h1.symm, by grind⟩))
  · rcases Rat.le_total (a := a.1) (b := b.1) with x | x
    · exact .inl (.inl (by grind))
    · exact .inr (.inr (.inl (by grind)))
def p0 : P2 := (0, 0)
def ptv (l : List P2) (i : Nat) : P2 := (l[i]?).getD p0
theorem ptv_some {l : List P2} {i : Nat} (h : i < l.length) : l[i]? = some (ptv l i) := by unfold ptv; rw [List.getElem?_eq_getElem h]; rfl
theorem ptv_mem {l : List P2} {i : Nat} (h : i < l.length) : ptv l i ∈ l := List.mem_of_getElem? (ptv_some h)
def mnI (l : List P2) : Nat → Nat
  | 0 => 0
  | k + 1 => if cmpP (ptv l k) (ptv l (mnI l k)) < 0 then k else mnI l k
theorem mnI_spec (l : List P2) : ∀ k, 0 < k → mnI l k < k ∧ ∀ j, j < k → ¬ lexlt (ptv l j) (ptv l (mnI l k))
  | 0, h => absurd h (by omega)
  | k + 1, _ => by
    unfold mnI
    by_cases k0 : k = 0
    · subst k0
      have : ¬ cmpP (ptv l 0) (ptv l (mnI l 0)) < 0 := fun x => lexlt_irrefl _ (cmpP_lt.1 x)
      rw [if_neg this]
      refine ⟨by show 0 < 0 + 1; omega, fun j hj => ?_⟩
      have : j = 0 := by omega
      subst this; exact lexlt_irrefl _
    · obtain ⟨h1, h2⟩ := mnI_spec l k (by omega)
      split
      · rename_i c
        have c := cmpP_lt.1 c
        refine ⟨by omega, fun j hj x => ?_⟩
        by_cases e : j = k
        · subst e; exact lexlt_irrefl _ x
        · exact h2 j (by omega) (lexlt_trans x c)
      · rename_i c
        refine ⟨by omega, fun j hj => ?_⟩
        by_cases e : j = k
        · subst e; exact fun x => c (cmpP_lt.2 x)
        · exact h2 j (by omega)
def rmn (l : List P2) : List P2 := l.drop (mnI l l.length) ++ l.take (mnI l l.length)
def Least (l r : List P2) : Prop := ∃ A x B, l = A ++ x :: B ∧ r = x :: B ++ A ∧ ∀ y ∈ l, ¬ lexlt y x
theorem rmn_least {l : List P2} (h : l ≠ []) : Least l (rmn l) := by
  have hp := List.length_pos_iff.2 h
  obtain ⟨h1, h2⟩ := mnI_spec l l.length hp
  have e : l.drop (mnI l l.length) = ptv l (mnI l l.length) :: l.drop (mnI l l.length + 1) := by
    rw [List.drop_eq_getElem_cons h1]
    have := ptv_some h1
    rw [List.getElem?_eq_getElem h1] at this
    rw [Option.some.inj this]
  refine ⟨l.take (mnI l l.length), ptv l (mnI l l.length), l.drop (mnI l l.length + 1), ?_, ?_, fun y hy => ?_⟩
  · rw [← e, List.take_append_drop]
  · unfold rmn
    rw [e]
  · obtain ⟨j, hj⟩ := List.getElem?_of_mem hy
    have hjl := (List.getElem?_eq_some_iff.1 hj).1
    have := h2 j hjl
    rw [ptv_some hjl] at hj
    rw [← Option.some.inj hj]; exact this
theorem Least.uniq {l r r' : List P2} (nd : l.Nodup) (h : Least l r) (k : Least l r') : r = r' := by
  obtain ⟨A, x, B, e1, e2, e3⟩ := h
  obtain ⟨C, y, D, f1, f2, f3⟩ := k
  have hx : x ∈ l := by rw [e1]; simp
  have hy : y ∈ l := by rw [f1]; simp
  have : x = y := by
    rcases lexlt_tri x y with z | z | z
    · exact absurd z (f3 x hx)
    · exact z
    · exact absurd z (e3 y hy)
  subst this
  have hA : A = C ∧ B = D := by
    clear e2 e3 f2 f3 hx hy
    subst e1
    induction A generalizing C with
    | nil =>
      cases C with
      | nil => simp at f1; exact ⟨rfl, f1⟩
      | cons c C =>
        exfalso
        simp only [List.nil_append, List.cons_append, List.cons.injEq] at f1
        obtain ⟨e, f⟩ := f1
        simp only [List.nil_append, List.nodup_cons] at nd
        exact nd.1 (by rw [f]; simp)
    | cons a A ih =>
      cases C with
      | nil =>
        exfalso
        simp only [List.nil_append, List.cons_append, List.cons.injEq] at f1
        obtain ⟨e, f⟩ := f1
        simp only [List.cons_append, List.nodup_cons] at nd
        exact nd.1 (by rw [e]; simp)
      | cons c C =>
        simp only [List.cons_append, List.cons.injEq] at f1
        simp only [List.cons_append, List.nodup_cons] at nd
        obtain ⟨e, f⟩ := f1
        obtain ⟨g1, g2⟩ := ih C nd.2 f
        exact ⟨by rw [e, g1], g2⟩
  rw [e2, f2, hA.1, hA.2]
theorem split_two {A C D : List P2} {x : P2} {B : List P2} (h : A ++ x :: B = C ++ D) : (∃ E, C = A ++ x :: E ∧ B = E ++ D) ∨ (∃ E, A = C ++ E ∧ D = E ++ x :: B) := by
  rcases List.append_eq_append_iff.1 h with ⟨E, e1, e2⟩ | ⟨E, e1, e2⟩
  · cases E with
    | nil => exact .inr ⟨[], by simpa using e1.symm, by simpa using e2.symm⟩
    | cons y E =>
      simp only [List.cons_append, List.cons.injEq] at e2
      exact .inl ⟨E, by rw [e1, e2.1], e2.2⟩
  · exact .inr ⟨E, e1, e2⟩
theorem Least.rot {C D r : List P2} (h : Least (C ++ D) r) : Least (D ++ C) r := by
  obtain ⟨A, x, B, e1, e2, e3⟩ := h
  have h3 : ∀ y ∈ D ++ C, ¬ lexlt y x := fun y hy => e3 y (List.perm_append_comm.mem_iff.1 hy)
  rcases split_two e1.symm with ⟨E, f1, f2⟩ | ⟨E, f1, f2⟩
  · refine ⟨D ++ A, x, E, by rw [f1, List.append_assoc], ?_, h3⟩
    rw [e2, f2]; simp
  · refine ⟨E, x, B ++ C, by rw [f2]; simp, ?_, h3⟩
    rw [e2, f1]; simp
theorem rmn_rot {A B : List P2} (nd : (A ++ B).Nodup) : rmn (A ++ B) = rmn (B ++ A) := by
  by_cases h : A ++ B = []
  · rw [h]
    simp at h
    rw [h.1, h.2]; rfl
  · have h' : B ++ A ≠ [] := fun e => h (by simp at e ⊢; exact ⟨e.2, e.1⟩)
    exact (rmn_least h).uniq nd (rmn_least h').rot
theorem rmn_parts (l : List P2) : ∃ A B, l = A ++ B ∧ rmn l = B ++ A := ⟨_, _, (List.take_append_drop _ _).symm, rfl⟩
theorem rmn_rmn {l : List P2} (nd : l.Nodup) : rmn (rmn l) = rmn l := by
  obtain ⟨A, B, e1, e2⟩ := rmn_parts l
  have nd' := nd
  rw [e1] at nd'
  rw [e2, ← rmn_rot nd', ← e1, e2]
def ori (b : List P2) : List P2 := if ar2 b < 0 then b.reverse else b
def ncf (l : List P2) : List P2 := rmn (ori (bent l))
theorem Same2.rmn {l : List P2} (h : Simp l) : Same2 l (rmn l) := by
  obtain ⟨A, B, e1, e2⟩ := rmn_parts l
  rw [e2]
  conv => lhs; rw [e1]
  exact Same2.rot (e1 ▸ h)
theorem AllB.rmn {l : List P2} (h : AllB l) : AllB (rmn l) := by
  obtain ⟨A, B, e1, e2⟩ := rmn_parts l
  rw [e2]
  exact (e1 ▸ h : AllB (A ++ B)).rot
theorem ori_ar2 (b : List P2) : 0 ≤ ar2 (ori b) := by
  unfold ori
  split
  · rw [ar2_rev]; grind
  · grind
theorem ori_ori {b : List P2} (h : 0 ≤ ar2 b) : ori b = b := if_neg (by grind)
theorem Simp.ncf {l : List P2} (h : Simp l) : Simp (ncf l) ∧ AllB (ncf l) ∧ 0 ≤ ar2 (ncf l) ∧ (ar2 (ncf l) = ar2 l ∨ ar2 (ncf l) = - ar2 l) ∧ (∀ x, onL (ncf l) x = onL l x) ∧ (∀ x, xs x (ncf l) = xs x l) ∧ ncf (ncf l) = ncf l := by
  obtain ⟨S, al⟩ := Simp.chain _ rfl h
  have S2 : Simp (ori (bent l)) := by unfold ori; split; exact S.simp.rev; exact S.simp
  have al2 : AllB (ori (bent l)) := by unfold ori; split; exact al.rev; exact al
  have ar : ar2 (ori (bent l)) = ar2 l ∨ ar2 (ori (bent l)) = - ar2 l := by
    unfold ori; split
    · exact .inr (by rw [ar2_rev, S.ar])
    · exact .inl S.ar
  have on : ∀ x, onL (ori (bent l)) x = onL l x := fun x => by
    unfold ori; split
    · rw [onL_rev, S.on]
    · exact S.on x
  have xq : ∀ x, xs x (ori (bent l)) = xs x l := fun x => by
    unfold ori; split
    · rw [xs_rev, S.xs]
    · exact S.xs x
  have g := ori_ar2 (bent l)
  have R := Same2.rmn S2
  have nb := al2.rmn
  refine ⟨R.simp, nb, by unfold Go.Eng.ncf; rw [R.ar]; exact g, by unfold Go.Eng.ncf; rw [R.ar]; exact ar, fun x => (R.on x).trans (on x), fun x => (R.xs x).trans (xq x), ?_⟩
  show Go.Eng.rmn (ori (bent (Go.Eng.rmn (ori (bent l))))) = Go.Eng.rmn (ori (bent l))
  rw [nb.bent, ori_ori (by rw [R.ar]; exact g), rmn_rmn S2.nd]
theorem ncf_rot {A B : List P2} (h : Simp (A ++ B)) : ncf (A ++ B) = ncf (B ++ A) := by
  obtain ⟨X, Y, e1, e2⟩ := bent_rot A B
  obtain ⟨S, _⟩ := Simp.chain _ rfl h
  unfold ncf
  rw [e1] at S
  rw [e1, e2]
  unfold ori
  rw [ar2_rot Y X]
  split
  · rw [List.reverse_append, List.reverse_append]
    refine rmn_rot ?_
    rw [← List.reverse_append]
    exact (List.reverse_perm _).nodup_iff.2 S.simp.nd
  · exact rmn_rot S.simp.nd
theorem ncf_rev {l : List P2} (h : Simp l) (h0 : ar2 l ≠ 0) : ncf l.reverse = ncf l := by
  obtain ⟨S, _⟩ := Simp.chain _ rfl h
  unfold ncf
  rw [bent_rev]
  unfold ori
  rw [ar2_rev, S.ar, List.reverse_reverse]
  split <;> split <;> first | rfl | (exfalso; grind)
end Go.Eng
end
section
set_option linter.unusedVariables false
set_option linter.unusedSimpArgs false
set_option linter.unusedSectionVars false
namespace Go.Eng
theorem onB_false {a b x : P2} : onB a b x = false ↔ x ≠ a ∧ x ≠ b ∧ ¬ opn a b x := by
  rw [← Bool.not_eq_true, onB_iff]
  constructor
  · intro h; exact ⟨fun e => h (.inl e), fun e => h (.inr (.inl e)), fun e => h (.inr (.inr e))⟩
  · rintro ⟨h1, h2, h3⟩ (h | h | h)
    · exact h1 h
    · exact h2 h
    · exact h3 h
def meetB (a b c d : P2) : Bool := onB a b c || (onB a b d || (onB c d a || (onB c d b || (decide (sg (cr a b c) * sg (cr a b d) < 0) && decide (sg (cr c d a) * sg (cr c d b) < 0)))))
theorem sg_mul_neg {p q : Rat} : sg p * sg q < 0 ↔ (0 < p ∧ q < 0) ∨ (p < 0 ∧ 0 < q) := by
  rcases sg3 p with ⟨x, y⟩ | ⟨x, y⟩ | ⟨x, y⟩ <;> rcases sg3 q with ⟨x', y'⟩ | ⟨x', y'⟩ | ⟨x', y'⟩ <;> rw [y, y'] <;> constructor <;> intro h <;> first | omega | (exfalso; omega) | grind | (exfalso; grind)
theorem at2_line (a b : P2) (g e s : Rat) : at2 (at2 a b g) (at2 a b e) s = at2 a b (g + s * (e - g)) := by unfold at2; ext <;> simp <;> grind
theorem line_opn {a b : P2} {g e t : Rat} (h : g < t ∧ t < e) : opn (at2 a b g) (at2 a b e) (at2 a b t) := by
  have n : e - g ≠ 0 := by grind
  refine ⟨(t - g) / (e - g), by rw [Rat.lt_div_iff (by grind)]; grind, by rw [Rat.div_lt_iff (by grind)]; grind, ?_⟩
  rw [at2_line, Rat.div_mul_cancel n]
  congr 1; grind
theorem cr_line (a b : P2) (g e t : Rat) : cr (at2 a b g) (at2 a b e) (at2 a b t) = 0 := by unfold cr at2; grind
theorem opn2_meet {a b c d x : P2} (hab : a ≠ b) (hcd : c ≠ d) (h : opn a b x) (k : opn c d x) : meetB a b c d = true := by
  obtain ⟨t, t0, t1, rfl⟩ := h
  obtain ⟨s, s0, s1, ex⟩ := k
  have hP : (1 - s) * cr a b c + s * cr a b d = 0 := by rw [← cr_lin, ← ex, cr_at2]
  have hR : (1 - t) * cr c d a + t * cr c d b = 0 := by rw [← cr_lin, ex, cr_at2]
  have s2 : 0 < 1 - s := by grind
  have t2 : 0 < 1 - t := by grind
  by_cases P0 : cr a b c = 0
  · have Q0 : cr a b d = 0 := by
      rw [P0, Rat.mul_zero, Rat.zero_add] at hP
      rcases Rat.mul_eq_zero.1 hP with z | z
      · grind
      · exact z
    obtain ⟨g, rfl⟩ := col_at2 hab P0
    obtain ⟨e, rfl⟩ := col_at2 hab Q0
    rw [at2_line] at ex
    have et := at2_inj hab ex
    have on1 : ∀ {r : Rat}, 0 ≤ r → r ≤ 1 → onB a b (at2 a b r) = true := fun {r} h1 h2 => by
      rw [onB_iff]
      by_cases e0 : r = 0
      · exact .inl (by rw [e0, at2_0])
      · by_cases e1 : r = 1
        · exact .inr (.inl (by rw [e1, at2_1]))
        · exact .inr (.inr ⟨r, by grind, by grind, rfl⟩)
    unfold meetB
    simp only [Bool.or_eq_true]
    by_cases c1 : 0 ≤ g ∧ g ≤ 1
    · exact .inl (on1 c1.1 c1.2)
    by_cases c2 : 0 ≤ e ∧ e ≤ 1
    · exact .inr (.inl (on1 c2.1 c2.2))
    refine .inr (.inr (.inl ?_))
    rw [onB_iff]
    refine .inr (.inr ?_)
    have g1 := Rat.mul_pos s0 s2
    rcases Rat.le_total (a := g) (b := e) with z | z
    · have m1 := Rat.mul_nonneg (a := s) (b := e - g) (by grind) (by grind)
      have m2 := Rat.mul_nonneg (a := 1 - s) (b := e - g) (by grind) (by grind)
      have := line_opn (a := a) (b := b) (g := g) (e := e) (t := 0) ⟨by grind, by grind⟩
      rw [at2_0] at this; exact this
    · have m1 := Rat.mul_nonneg (a := s) (b := g - e) (by grind) (by grind)
      have m2 := Rat.mul_nonneg (a := 1 - s) (b := g - e) (by grind) (by grind)
      have := line_opn (a := a) (b := b) (g := e) (e := g) (t := 0) ⟨by grind, by grind⟩
      rw [at2_0] at this
      exact opn_swap.1 this
  · have R0 : cr c d a ≠ 0 := by
      intro R0
      have S0 : cr c d b = 0 := by
        rw [R0, Rat.mul_zero, Rat.zero_add] at hR
        rcases Rat.mul_eq_zero.1 hR with z | z
        · grind
        · exact z
      obtain ⟨g, rfl⟩ := col_at2 hcd R0
      obtain ⟨e, rfl⟩ := col_at2 hcd S0
      have := cr_line c d g e 0
      rw [at2_0] at this
      exact P0 this
    have opp : ∀ {u p q : Rat}, 0 < u → 0 < 1 - u → (1 - u) * p + u * q = 0 → p ≠ 0 → (0 < p ∧ q < 0) ∨ (p < 0 ∧ 0 < q) := by
      intro u p q u0 u1 hh np
      by_cases pp : 0 < p
      · refine .inl ⟨pp, ?_⟩
        have := Rat.mul_pos u1 pp
        have : u * q < 0 := by grind
        exact (Rat.mul_neg_iff_of_pos_left u0).1 this
      · have pp : p < 0 := by grind
        refine .inr ⟨pp, ?_⟩
        have := (Rat.mul_neg_iff_of_pos_left u1).2 pp
        have : 0 < u * q := by grind
        exact (Rat.mul_pos_iff_of_pos_left u0).1 this
    unfold meetB
    simp only [Bool.or_eq_true, Bool.and_eq_true, decide_eq_true_eq]
    exact .inr (.inr (.inr (.inr ⟨sg_mul_neg.2 (opp s0 s2 hP P0), sg_mul_neg.2 (opp t0 t2 hR R0)⟩)))
theorem onB_a (a b : P2) : onB a b a = true := onB_iff.2 (.inl rfl)
theorem onB_b (a b : P2) : onB a b b = true := onB_iff.2 (.inr (.inl rfl))
theorem meet_iff {a b c d : P2} (hab : a ≠ b) (hcd : c ≠ d) : meetB a b c d = true ↔ ∃ x, onB a b x = true ∧ onB c d x = true := by
  constructor
  · intro h
    unfold meetB at h
    simp only [Bool.or_eq_true, Bool.and_eq_true, decide_eq_true_eq] at h
    rcases h with h | h | h | h | ⟨h1, h2⟩
    · exact ⟨c, h, onB_a _ _⟩
    · exact ⟨d, h, onB_b _ _⟩
    · exact ⟨a, onB_a _ _, h⟩
    · exact ⟨b, onB_b _ _, h⟩
    · obtain ⟨x, x1, x2⟩ := cross_pt (sg_mul_neg.1 h1) (sg_mul_neg.1 h2)
      exact ⟨x, onB_iff.2 (.inr (.inr x1)), onB_iff.2 (.inr (.inr x2))⟩
  · rintro ⟨x, h, k⟩
    rcases onB_iff.1 h with rfl | rfl | h'
    · unfold meetB; simp [k]
    · unfold meetB; simp [k]
    · rcases onB_iff.1 k with rfl | rfl | k'
      · unfold meetB; simp [h]
      · unfold meetB; simp [h]
      · exact opn2_meet hab hcd h' k'
theorem fold_on {a b c x : P2} (h : opn a b x) (k : opn b c x) : onB a b c = true ∨ onB b c a = true := by
  obtain ⟨s, s0, s1, ex⟩ := opn_swap.1 h
  obtain ⟨r, r0, r1, e⟩ := k
  rw [ex] at e
  have ns : s ≠ 0 := by grind
  have nr : r ≠ 0 := by grind
  unfold at2 at e
  injection e with e1 e2
  rcases Rat.le_total (a := s) (b := r) with z | z
  · left
    rw [onB_swap, onB_iff]
    have ec : c = at2 b a (s / r) := by
      have q := Rat.div_mul_cancel (a := s) nr
      generalize s / r = w at *
      have cancel : ∀ {y : Rat}, r * y = 0 → y = 0 := fun {y} hy => by
        rcases Rat.mul_eq_zero.1 hy with p | p
        · exact absurd p nr
        · exact p
      unfold at2
      refine Prod.ext ?_ ?_
      · have := cancel (y := c.1 - (b.1 + w * (a.1 - b.1))) (by grind)
        show c.1 = b.1 + w * (a.1 - b.1); grind
      · have := cancel (y := c.2 - (b.2 + w * (a.2 - b.2))) (by grind)
        show c.2 = b.2 + w * (a.2 - b.2); grind
    by_cases e : s = r
    · refine .inr (.inl ?_)
      rw [ec, e, show r / r = 1 by rw [Rat.div_def]; exact Rat.mul_inv_cancel _ nr, at2_1]
    · exact .inr (.inr ⟨s / r, by rw [Rat.lt_div_iff (by grind)]; grind, by rw [Rat.div_lt_iff (by grind)]; grind, ec⟩)
  · right
    rw [onB_iff]
    have ec : a = at2 b c (r / s) := by
      have q := Rat.div_mul_cancel (a := r) ns
      generalize r / s = w at *
      have cancel : ∀ {y : Rat}, s * y = 0 → y = 0 := fun {y} hy => by
        rcases Rat.mul_eq_zero.1 hy with p | p
        · exact absurd p ns
        · exact p
      unfold at2
      refine Prod.ext ?_ ?_
      · have := cancel (y := a.1 - (b.1 + w * (c.1 - b.1))) (by grind)
        show a.1 = b.1 + w * (c.1 - b.1); grind
      · have := cancel (y := a.2 - (b.2 + w * (c.2 - b.2))) (by grind)
        show a.2 = b.2 + w * (c.2 - b.2); grind
    by_cases e : r = s
    · refine .inr (.inl ?_)
      rw [ec, e, show s / s = 1 by rw [Rat.div_def]; exact Rat.mul_inv_cancel _ ns, at2_1]
    · exact .inr (.inr ⟨r / s, by rw [Rat.lt_div_iff (by grind)]; grind, by rw [Rat.div_lt_iff (by grind)]; grind, ec⟩)
def vt (l : List P2) (i : Nat) : P2 := ptv l (i % l.length)
theorem vt_lt {l : List P2} {i : Nat} (h : i < l.length) : vt l i = ptv l i := by unfold vt; rw [Nat.mod_eq_of_lt h]
theorem vt_add (l : List P2) (i : Nat) : vt l (i + l.length) = vt l i := by unfold vt; rw [Nat.add_mod_right]
theorem vt_sub {l : List P2} {i : Nat} (h : l.length ≤ i) : vt l i = vt l (i - l.length) := by rw [← vt_add l (i - l.length), Nat.sub_add_cancel h]
theorem cor_at {l : List P2} {i : Nat} (h : i < l.length) : (cor l)[i]? = some (vt l (i + l.length - 1), vt l i, vt l (i + 1)) := by
  cases l with
  | nil => exact absurd h (Nat.not_lt_zero _)
  | cons a t =>
    show (trp a (lst a t) a t)[i]? = _
    rw [cor_get _ _ _ _ _ h]
    have lastE : ∀ (a : P2) (t : List P2), ptv (a :: t) t.length = lst a t := by
      intro a t
      induction t generalizing a with
      | nil => rfl
      | cons b t ih => show ptv (b :: t) t.length = _; rw [ih]; rfl
    have g0 : ptv (a :: t) 0 = a := rfl
    have gd : ∀ {j}, j < (a :: t).length → ((a :: t)[j]?).getD a = ptv (a :: t) j := fun {j} hj => by rw [ptv_some hj]; rfl
    have hn : (a :: t).length = t.length + 1 := rfl
    refine congrArg some (Prod.ext ?_ (Prod.ext ?_ ?_))
    · show (if i = 0 then _ else _) = vt _ _
      by_cases c : i = 0
      · rw [if_pos c, vt_lt (by omega), c, show 0 + (a :: t).length - 1 = t.length by omega, lastE]
      · rw [if_neg c, gd (by omega), vt_sub (by omega), vt_lt (by omega)]
        congr 1; omega
    · show _ = vt _ _
      rw [gd h, vt_lt h]
    · show ((a :: t)[i + 1]?).getD a = vt _ _
      by_cases c : i + 1 < (a :: t).length
      · rw [gd c, vt_lt c]
      · rw [List.getElem?_eq_none (by omega), vt_sub (by omega), show i + 1 - (a :: t).length = 0 by omega, vt_lt (by omega), g0]; rfl
theorem edg_len (l : List P2) : (edg l).length = l.length := by unfold edg; rw [List.length_map, cor_len]
theorem edg_at {l : List P2} {i : Nat} (h : i < l.length) : (edg l)[i]? = some (vt l i, vt l (i + 1)) := by
  unfold edg
  rw [List.getElem?_map, cor_at h]; rfl
theorem edg_mem {l : List P2} {i : Nat} (h : i < l.length) : (vt l i, vt l (i + 1)) ∈ edg l := List.mem_of_getElem? (edg_at h)
theorem mem_edg {l : List P2} {e : P2 × P2} (h : e ∈ edg l) : ∃ i, i < l.length ∧ e = (vt l i, vt l (i + 1)) := by
  obtain ⟨i, hi⟩ := List.getElem?_of_mem h
  have hl := (List.getElem?_eq_some_iff.1 hi).1
  rw [edg_len] at hl
  rw [edg_at hl] at hi
  exact ⟨i, hl, (Option.some.inj hi).symm⟩
theorem mem_vt {l : List P2} {v : P2} (h : v ∈ l) : ∃ i, i < l.length ∧ v = vt l i := by
  obtain ⟨i, hi⟩ := List.getElem?_of_mem h
  have hl := (List.getElem?_eq_some_iff.1 hi).1
  rw [ptv_some hl] at hi
  exact ⟨i, hl, by rw [vt_lt hl]; exact (Option.some.inj hi).symm⟩
theorem vt_mem {l : List P2} (h : 0 < l.length) (i : Nat) : vt l i ∈ l := ptv_mem (Nat.mod_lt _ h)
def profP (l : List P2) : Prop := 3 ≤ l.length ∧ ∀ i, i < l.length → cmpP (vt l i) (vt l (i + 1)) ≠ 0 ∧ onB (vt l i) (vt l (i + 1)) (vt l (i + 2)) = false ∧ onB (vt l (i + 1)) (vt l (i + 2)) (vt l i) = false ∧
  ∀ k, k < i + l.length - 1 → i + 2 ≤ k → meetB (vt l i) (vt l (i + 1)) (vt l k) (vt l (k + 1)) = false
instance {l : List P2} : Decidable (profP l) := by unfold profP; infer_instance
theorem Simp.inj {l : List P2} (h : Simp l) {i j : Nat} (hi : i < l.length) (h1 : i < j) (h2 : j < i + l.length) : vt l i ≠ vt l j := by
  have key : ∀ i j, i < j → j < l.length → ptv l i ≠ ptv l j := fun i j hij hj => by
    have := (List.pairwise_iff_getElem.1 h.nd) i j (by omega) hj hij
    have a := ptv_some (l := l) (i := i) (by omega)
    have b := ptv_some (l := l) (i := j) hj
    rw [List.getElem?_eq_getElem (by omega)] at a b
    rw [← Option.some.inj a, ← Option.some.inj b]; exact this
  by_cases c : j < l.length
  · rw [vt_lt hi, vt_lt c]; exact key i j h1 c
  · rw [vt_sub (i := j) (by omega), vt_lt hi, vt_lt (by omega)]
    exact fun e => key _ _ (by omega) hi e.symm
theorem Simp.ooi {l : List P2} (h : Simp l) {i j : Nat} (hi : i < l.length) (hj : j < l.length) (ne : i ≠ j) (x : P2) : ¬ (opn (vt l i) (vt l (i + 1)) x ∧ opn (vt l j) (vt l (j + 1)) x) := by
  have key : ∀ i j, i < j → j < l.length → ∀ x, ¬ (opn (vt l i) (vt l (i + 1)) x ∧ opn (vt l j) (vt l (j + 1)) x) := fun i j hij hj x => by
    have := (List.pairwise_iff_getElem.1 h.oo) i j (by rw [edg_len]; omega) (by rw [edg_len]; exact hj) hij x
    have a := edg_at (l := l) (i := i) (by omega)
    have b := edg_at (l := l) (i := j) hj
    rw [List.getElem?_eq_getElem (by rw [edg_len]; omega)] at a b
    rw [Option.some.inj a, Option.some.inj b] at this; exact this
  rcases Nat.lt_or_gt_of_ne ne with c | c
  · exact key i j c hj x
  · exact fun ⟨a, b⟩ => key j i c hi x ⟨b, a⟩
theorem Simp.prof {l : List P2} (h : Simp l) : profP l := by
  have n3 := h.n3
  have vo : ∀ i j, i < l.length → ¬ opn (vt l i) (vt l (i + 1)) (vt l j) := fun i j hi => h.vo _ (vt_mem (by omega) j) _ (edg_mem hi)
  have vo' : ∀ k j, ¬ opn (vt l k) (vt l (k + 1)) (vt l j) := fun k j => by
    have hk : k % l.length < l.length := Nat.mod_lt _ (by omega)
    have e1 : vt l k = vt l (k % l.length) := by unfold vt; rw [Nat.mod_mod]
    have e2 : vt l (k + 1) = vt l (k % l.length + 1) := by unfold vt; rw [Nat.mod_add_mod]
    rw [e1, e2]
    exact vo _ j hk
  have ne' : ∀ i j, i < j → j < i + l.length → vt l i ≠ vt l j := fun i j h1 h2 => by
    have hi : i % l.length < l.length := Nat.mod_lt _ (by omega)
    have e1 : vt l i = vt l (i % l.length) := by unfold vt; rw [Nat.mod_mod]
    have e2 : vt l j = vt l (i % l.length + (j - i)) := by
      unfold vt
      rw [Nat.mod_add_mod, Nat.add_sub_cancel' (by omega)]
    rw [e1, e2]
    exact h.inj hi (by omega) (by omega)
  refine ⟨n3, fun i hi => ⟨fun e => ne' i (i + 1) (by omega) (by omega) (cmpP_zero.1 e), ?_, ?_, fun k k1 k2 => ?_⟩⟩
  · exact onB_false.2 ⟨fun e => ne' i (i + 2) (by omega) (by omega) e.symm, fun e => ne' (i + 1) (i + 2) (by omega) (by omega) e.symm, vo' i _⟩
  · exact onB_false.2 ⟨ne' i (i + 1) (by omega) (by omega), ne' i (i + 2) (by omega) (by omega), vo' (i + 1) _⟩
  · rw [← Bool.not_eq_true, meet_iff (ne' i (i + 1) (by omega) (by omega)) (ne' k (k + 1) (by omega) (by omega))]
    rintro ⟨x, hx, hy⟩
    rcases onB_iff.1 hx with rfl | rfl | hx
    · rcases onB_iff.1 hy with e | e | hy
      · exact ne' i k (by omega) (by omega) e
      · exact ne' i (k + 1) (by omega) (by omega) e
      · exact vo' k _ hy
    · rcases onB_iff.1 hy with e | e | hy
      · exact ne' (i + 1) k (by omega) (by omega) e
      · exact ne' (i + 1) (k + 1) (by omega) (by omega) e
      · exact vo' k _ hy
    · rcases onB_iff.1 hy with rfl | rfl | hy
      · exact vo' i _ hx
      · exact vo' i _ hx
      · by_cases c : k < l.length
        · exact h.ooi hi c (by omega) x ⟨hx, hy⟩
        · rw [vt_sub (i := k) (by omega), vt_sub (i := k + 1) (by omega), show k + 1 - l.length = k - l.length + 1 by omega] at hy
          exact h.ooi hi (j := k - l.length) (by omega) (by omega) x ⟨hx, hy⟩
theorem prof_simp {l : List P2} (h : profP l) : Simp l := by
  obtain ⟨n3, H⟩ := h
  have A1 : ∀ i, vt l i ≠ vt l (i + 1) := by
    intro i
    induction i using Nat.strongRecOn with
    | _ i ih =>
      by_cases c : i < l.length
      · exact fun e => (H i c).1 (cmpP_zero.2 e)
      · have := ih (i - l.length) (by omega)
        rw [vt_sub (i := i) (by omega), vt_sub (i := i + 1) (by omega), show i + 1 - l.length = i - l.length + 1 by omega]; exact this
  have A2 : ∀ i, onB (vt l i) (vt l (i + 1)) (vt l (i + 2)) = false ∧ onB (vt l (i + 1)) (vt l (i + 2)) (vt l i) = false := by
    intro i
    induction i using Nat.strongRecOn with
    | _ i ih =>
      by_cases c : i < l.length
      · exact ⟨(H i c).2.1, (H i c).2.2.1⟩
      · have := ih (i - l.length) (by omega)
        rw [vt_sub (i := i) (by omega), vt_sub (i := i + 1) (by omega), vt_sub (i := i + 2) (by omega), show i + 1 - l.length = i - l.length + 1 by omega, show i + 2 - l.length = i - l.length + 2 by omega]; exact this
  have M : ∀ i k, i < l.length → k < i + l.length - 1 → i + 2 ≤ k → ∀ x, ¬ (onB (vt l i) (vt l (i + 1)) x = true ∧ onB (vt l k) (vt l (k + 1)) x = true) := fun i k hi k1 k2 x hx => by
    have := (H i hi).2.2.2 k k1 k2
    rw [(meet_iff (A1 i) (A1 k)).2 ⟨x, hx⟩] at this
    cases this
  have inj : ∀ i j, i < j → j < l.length → vt l i ≠ vt l j := by
    intro i j hij hj e
    by_cases c1 : j = i + 1
    · subst c1; exact A1 i e
    by_cases c2 : j = i + l.length - 1
    · have : vt l (j + 1) = vt l i := by rw [show j + 1 = i + l.length by omega, vt_add]
      exact A1 j (e.symm.trans this.symm)
    · exact M i j (by omega) (by omega) (by omega) (vt l i) ⟨onB_a _ _, by rw [e]; exact onB_a _ _⟩
  have vo : ∀ i j, i < l.length → i ≤ j → j < i + l.length → ¬ opn (vt l i) (vt l (i + 1)) (vt l j) := by
    intro i j hi h1 h2 hx
    by_cases c0 : j = i
    · subst c0; exact opn_a (A1 j) hx
    by_cases c1 : j = i + 1
    · subst c1; exact opn_b (A1 i) hx
    by_cases c2 : j = i + 2
    · subst c2; exact (onB_false.1 (A2 i).1).2.2 hx
    by_cases c3 : j = i + l.length - 1
    · have a := (A2 j).2
      rw [show j + 1 = i + l.length by omega, show j + 2 = i + 1 + l.length by omega, vt_add, vt_add] at a
      exact (onB_false.1 a).2.2 hx
    · exact M i j hi (by omega) (by omega) (vt l j) ⟨onB_iff.2 (.inr (.inr hx)), onB_a _ _⟩
  refine ⟨n3, ?_, ?_, ?_⟩
  · refine List.pairwise_iff_getElem.2 fun i j hi hj hij e => inj i j hij hj ?_
    rw [vt_lt hi, vt_lt hj]
    unfold ptv
    rw [List.getElem?_eq_getElem hi, List.getElem?_eq_getElem hj, e]
  · intro v hv e he
    obtain ⟨i, hi, rfl⟩ := mem_edg he
    obtain ⟨j, hj, rfl⟩ := mem_vt hv
    by_cases c : i ≤ j
    · exact vo i j hi c (by omega)
    · rw [← vt_add l j]
      exact vo i (j + l.length) hi (by omega) (by omega)
  · refine List.pairwise_iff_getElem.2 fun i j hi hj hij x => ?_
    rw [edg_len] at hi hj
    have a := edg_at hi
    have b := edg_at hj
    rw [List.getElem?_eq_getElem (by rw [edg_len]; omega)] at a b
    rw [Option.some.inj a, Option.some.inj b]
    rintro ⟨hx, hy⟩
    by_cases c1 : j = i + 1
    · subst c1
      rcases fold_on hx hy with z | z
      · rw [(A2 i).1] at z; cases z
      · rw [(A2 i).2] at z; cases z
    by_cases c2 : j = i + l.length - 1
    · have e1 : vt l (j + 1) = vt l i := by rw [show j + 1 = i + l.length by omega, vt_add]
      have e2 : vt l (j + 2) = vt l (i + 1) := by rw [show j + 2 = i + 1 + l.length by omega, vt_add]
      have A := A2 j
      rw [e1, e2] at A
      simp only [e1] at hy
      rcases fold_on hy hx with z | z
      · rw [A.1] at z; cases z
      · rw [A.2] at z; cases z
    · exact M i j hi (by omega) (by omega) x ⟨onB_iff.2 (.inr (.inr hx)), onB_iff.2 (.inr (.inr hy))⟩
theorem prof_iff {l : List P2} : profP l ↔ Simp l := ⟨prof_simp, fun h => h.prof⟩
def mayP (l : List P2) : Prop := 3 ≤ l.length ∧ (∀ i, i < l.length → ∀ k, k < i → cmpP (vt l i) (vt l k) ≠ 0) ∧ ∀ i, i < l.length → ∀ k, k < l.length → k ≠ i →
  (if (i + 1) % l.length = k then onB (vt l i) (vt l (i + 1)) (vt l (k + 1)) = false ∧ onB (vt l k) (vt l (k + 1)) (vt l i) = false
   else ((k + 1) % l.length ≠ i → meetB (vt l i) (vt l (i + 1)) (vt l k) (vt l (k + 1)) = false))
instance {l : List P2} : Decidable (mayP l) := by unfold mayP; infer_instance
end Go.Eng
end
section
set_option linter.unusedVariables false
set_option linter.unusedSimpArgs false
set_option linter.unusedSectionVars false
namespace Go.Eng
structure RQ where
  (s : Bool) (n d : List UInt8)
namespace RQ
def cells (q : RQ) : List Value := [.bool q.s, .string ⟨⟨q.n⟩⟩, .string ⟨⟨q.d⟩⟩]
def v (q : RQ) : Rat := rv q.s q.n q.d
def ok (k : Nat) (q : RQ) : Prop := q.n.length ≤ k ∧ q.d.length ≤ k
instance {k : Nat} {q : RQ} : Decidable (q.ok k) := by unfold ok; infer_instance
def of (x : Rat) : RQ := ⟨decide (x.num < 0), bl x.num.natAbs, if x.den = 1 then [] else bl x.den⟩
theorem of_v (x : Rat) : (of x).v = x := rv_can x
theorem of_ok {x : Rat} {k : Nat} (h : RB x k) : (of x).ok k := ⟨h.num (Nat.le_refl _), h.den (Nat.le_refl _)⟩
theorem ok.rb {q : RQ} {k : Nat} (h : q.ok k) : RB q.v (k + 1) := RB.raw h.1 h.2
theorem ok.le {q : RQ} {i k : Nat} (h : q.ok i) (hk : i ≤ k) : q.ok k := ⟨Nat.le_trans h.1 hk, Nat.le_trans h.2 hk⟩
end RQ
def dec1 : List Value → Option RQ
  | [.bool s, .string ⟨⟨n⟩⟩, .string ⟨⟨d⟩⟩] => some ⟨s, n, d⟩
  | _ => none
theorem dec1_eq {cs : List Value} {q : RQ} (e : dec1 cs = some q) : cs = [.bool q.s, .string ⟨⟨q.n⟩⟩, .string ⟨⟨q.d⟩⟩] := by
  unfold dec1 at e
  split at e
  · cases e; rfl
  · cases e
def dec2 : List Value → Option (RQ × RQ)
  | [.bool s, .string ⟨⟨n⟩⟩, .string ⟨⟨d⟩⟩, .bool t, .string ⟨⟨m⟩⟩, .string ⟨⟨e⟩⟩] => some (⟨s, n, d⟩, ⟨t, m, e⟩)
  | _ => none
theorem dec2_eq {cs : List Value} {q : RQ × RQ} (e : dec2 cs = some q) : cs = [.bool q.1.s, .string ⟨⟨q.1.n⟩⟩, .string ⟨⟨q.1.d⟩⟩, .bool q.2.s, .string ⟨⟨q.2.n⟩⟩, .string ⟨⟨q.2.d⟩⟩] := by
  unfold dec2 at e
  split at e
  · cases e; rfl
  · cases e
end Go.Eng
end
section
set_option linter.unusedVariables false
set_option linter.unusedSimpArgs false
set_option linter.unusedSectionVars false
namespace Go.Eng
def RQ.zero : RQ := ⟨false, [], []⟩
theorem RB.zero : RB 0 1 := by
  refine ⟨?_, bl_length_le.2 (by decide)⟩
  rw [show (0 : Rat).num.natAbs = 0 from rfl, bl_zero]; exact Nat.zero_le _
theorem RB.one : RB 1 1 := ⟨bl_length_le.2 (by decide), bl_length_le.2 (by decide)⟩
end Go.Eng
end
section
set_option linter.unusedVariables false
set_option linter.unusedSimpArgs false
set_option linter.unusedSectionVars false
namespace Go.Eng
def sm : Nat → (Nat → Rat) → Rat
  | 0, _ => 0
  | k + 1, f => sm k f + f k
theorem sm_congr {f g : Nat → Rat} : ∀ {k}, (∀ j, j < k → f j = g j) → sm k f = sm k g
  | 0, _ => rfl
  | k + 1, h => by rw [sm, sm, sm_congr (k := k) fun j hj => h j (by omega), h k (by omega)]
theorem sm_zero {f : Nat → Rat} {k : Nat} (h : ∀ j, j < k → f j = 0) : sm k f = 0 := by
  induction k with
  | zero => rfl
  | succ k ih => rw [sm, ih fun j hj => h j (by omega), h k (by omega), Rat.add_zero]
theorem sm_one {f : Nat → Rat} {p : Nat} (h : ∀ j, j ≠ p → f j = 0) : ∀ {k}, p < k → sm k f = f p
  | 0, hk => by omega
  | k + 1, hk => by
    by_cases e : p = k
    · subst e
      rw [sm, sm_zero fun j hj => h j (by omega), Rat.zero_add]
    · rw [sm, sm_one h (k := k) (by omega), h k (fun x => e x.symm), Rat.add_zero]
def lin (N : Nat) (r x : Nat → Rat) : Rat := sm N fun j => r j * x j
abbrev Mat := Nat → Nat → Rat
structure LS where
  M : Mat
  hs : List Nat
def hd (hs : List Nat) (p : Nat) : Nat := (hs[p]?).getD 0
end Go.Eng
end
section
set_option linter.unusedVariables false
set_option linter.unusedSimpArgs false
set_option linter.unusedSectionVars false
namespace Go.Eng
structure SysS (n : Nat) (Z : (Nat → Rat) → Prop) (r : Nat) (R : Mat) (h : Nat → Nat) (cl : Prop) : Prop where
  lt : ∀ p, p < r → h p < n
  inj : ∀ p q, p < r → q < r → h p = h q → p = q
  one : ∀ p, p < r → R p (h p) = 1
  col : ∀ p q, p < r → q < r → q ≠ p → R q (h p) = 0
  lead : ∀ p, p < r → ∀ j, j < h p → R p j = 0
  z : ∀ X, Z X ↔ (∀ p, p < r → lin (n + 1) (R p) X = 0) ∧ (cl → X n = 0)
def DetP (n : Nat) (Z : (Nat → Rat) → Prop) (k : Nat) : Prop := ∀ X, Z X → X n = 0 → X k = 0
def ConP (n : Nat) (Z : (Nat → Rat) → Prop) : Prop := ∃ X, Z X ∧ X n = -1
section
variable {n r : Nat} {Z : (Nat → Rat) → Prop} {R : Mat} {h : Nat → Nat} {cl : Prop}
theorem lin_only {N : Nat} {a x : Nat → Rat} {k n : Nat} (hk : k < n) (hN : N = n + 1) (h1 : ∀ j, j < n → j ≠ k → a j = 0) : lin N a x = a k * x k + a n * x n := by
  subst hN
  unfold lin
  rw [sm]
  congr 1
  have e : sm n (fun j => a j * x j) = sm n (fun j => if j = k then a k * x k else 0) := sm_congr fun j hj => by
    by_cases c : j = k
    · rw [if_pos c, c]
    · rw [if_neg c, h1 j hj c, Rat.zero_mul]
  rw [e, sm_one (p := k) (fun j hj => if_neg hj) hk, if_pos rfl]
theorem SysS.val (S : SysS n Z r R h cl) {p : Nat} (hp : p < r) (hj : ∀ j, j < n → j ≠ h p → R p j = 0) {X : Nat → Rat} (hX : Z X) (h1 : X n = -1) : X (h p) = R p n := by
  have := ((S.z X).1 hX).1 p hp
  rw [lin_only (S.lt p hp) rfl hj, S.one p hp, h1, Rat.one_mul] at this
  grind
end
def clashM (n m : Nat) (s : LS) : Prop := ∃ i, s.hs.length ≤ i ∧ i < m ∧ s.M i n ≠ 0
end Go.Eng
end
section
set_option linter.unusedVariables false
set_option linter.unusedSimpArgs false
set_option linter.unusedSectionVars false
namespace Go.Eng
end Go.Eng
end
section
set_option linter.unusedVariables false
set_option linter.unusedSimpArgs false
set_option linter.unusedSectionVars false
namespace Go.Eng
structure OutP (n : Nat) (Z : (Nat → Rat) → Prop) (clash opn : Int) (e : Int) (l : List Rat) : Prop where
  c : ¬ ConP n Z → e = clash ∧ l = []
  o : ConP n Z → (¬ ∀ k, k < n → DetP n Z k) → e = opn ∧ l = []
  s : ConP n Z → (∀ k, k < n → DetP n Z k) → e = 0 ∧ l.length = n ∧ ∀ X, Z X → X n = -1 → ∀ k, k < n → l[k]? = some (X k)
theorem OutP.same {n : Nat} {Z : (Nat → Rat) → Prop} {clash opn e e' : Int} {l l' : List Rat} (H : OutP n Z clash opn e l) (H' : OutP n Z clash opn e' l') : e = e' ∧ l = l' := by
  by_cases c : ConP n Z
  · by_cases d : ∀ k, k < n → DetP n Z k
    · obtain ⟨a1, a2, a3⟩ := H.s c d
      obtain ⟨b1, b2, b3⟩ := H'.s c d
      refine ⟨a1.trans b1.symm, List.ext_getElem? fun k => ?_⟩
      obtain ⟨X, hX, h1⟩ := c
      by_cases hk : k < n
      · rw [a3 X hX h1 k hk, b3 X hX h1 k hk]
      · rw [List.getElem?_eq_none (by omega), List.getElem?_eq_none (by omega)]
    · obtain ⟨a1, a2⟩ := H.o c d
      obtain ⟨b1, b2⟩ := H'.o c d
      exact ⟨a1.trans b1.symm, a2.trans b2.symm⟩
  · obtain ⟨a1, a2⟩ := H.c c
    obtain ⟨b1, b2⟩ := H'.c c
    exact ⟨a1.trans b1.symm, a2.trans b2.symm⟩
instance {n m : Nat} {s : LS} : Decidable (clashM n m s) :=
  decidable_of_iff (∃ i, i < m ∧ s.hs.length ≤ i ∧ s.M i n ≠ 0) ⟨fun ⟨i, a, b, c⟩ => ⟨i, b, a, c⟩, fun ⟨i, a, b, c⟩ => ⟨i, b, a, c⟩⟩
def detK (n : Nat) (s : LS) (k : Nat) : Prop := ∃ p, p < s.hs.length ∧ hd s.hs p = k ∧ ∀ j, j < n → j ≠ k → s.M p j = 0
instance {n : Nat} {s : LS} {k : Nat} : Decidable (detK n s k) := by unfold detK; infer_instance
end Go.Eng
end
section
set_option linter.unusedVariables false
set_option linter.unusedSimpArgs false
set_option linter.unusedSectionVars false
namespace Go.Eng
def lay (sz : Nat) (h : Heap) : Value → Option (List Value)
  | .slice none 0 0 => some []
  | .slice (some ⟨_, _, some _⟩) 0 0 => some []
  | .slice (some ⟨k, off, none⟩) len cap => match hget h k with
    | some blk => if len ≤ cap ∧ off + len * sz ≤ blk.cells.length then some ((blk.cells.drop off).take (len * sz)) else none
    | none => none
  | _ => none
theorem lay_mono {sz : Nat} {h h' : Heap} {v : Value} {cs : List Value} (hl : hle h h') (e : lay sz h v = some cs) : lay sz h' v = some cs := by
  unfold lay at e ⊢
  split at e
  · exact e
  · exact e
  · split at e
    · rename_i blk hb
      simp only [hl _ _ hb]; exact e
    · cases e
  · cases e
theorem lay_len {sz : Nat} {h : Heap} {v : Value} {cs : List Value} (e : lay sz h v = some cs) : ∃ a l c, v = .slice a l c ∧ cs.length = l * sz := by
  unfold lay at e
  split at e
  · cases e; exact ⟨none, 0, 0, rfl, by simp⟩
  · cases e; exact ⟨_, 0, 0, rfl, by simp⟩
  · rename_i k off len cap
    split at e
    · split at e
      · rename_i hc
        cases e
        exact ⟨_, len, cap, rfl, by rw [List.length_take, List.length_drop]; omega⟩
      · cases e
    · cases e
  · cases e
theorem lay_pos {sz : Nat} {h : Heap} {a : Option Addr} {l c : Nat} {cs : List Value} (e : lay sz h (.slice a l c) = some cs) (hl : 0 < l) :
    ∃ k off blk, a = some ⟨k, off, none⟩ ∧ hget h k = some blk ∧ l ≤ c ∧ off + l * sz ≤ blk.cells.length ∧ cs = (blk.cells.drop off).take (l * sz) := by
  unfold lay at e
  split at e
  · rename_i e1; cases e1; omega
  · rename_i e1; cases e1; omega
  · rename_i k off len cap e1
    cases e1
    split at e
    · rename_i blk hb
      split at e
      · rename_i hc
        cases e
        exact ⟨k, off, blk, rfl, hb, hc.1, hc.2, rfl⟩
      · cases e
    · cases e
  · cases e
def many {α : Type} (sz : Nat) (dec : List Value → Option α) : Nat → List Value → Option (List α)
  | 0, _ => some []
  | n + 1, cs => match dec (cs.take sz), many sz dec n (cs.drop sz) with
    | some a, some r => some (a :: r)
    | _, _ => none
theorem many_get {α : Type} {sz : Nat} {dec : List Value → Option α} : ∀ {n : Nat} {cs : List Value} {xs : List α}, many sz dec n cs = some xs → xs.length = n ∧ ∀ (i : Nat) (x : α), xs[i]? = some x → dec ((cs.drop (i * sz)).take sz) = some x
  | 0, cs, xs, e => by simp [many] at e; subst e; simp
  | n + 1, cs, xs, e => by
    unfold many at e
    split at e
    · rename_i a r h1 h2
      cases e
      obtain ⟨g1, g2⟩ := many_get h2
      refine ⟨by simp [g1], fun i x hx => ?_⟩
      cases i with
      | zero => simp at hx; subst hx; simpa using h1
      | succ i =>
        have := g2 i x (by simpa using hx)
        rw [List.drop_drop] at this
        rw [Nat.succ_mul, Nat.add_comm (i * sz) sz]; exact this
    · cases e
theorem many_some {α : Type} {sz : Nat} {dec : List Value → Option α} : ∀ {n : Nat} {cs : List Value} {xs : List α}, xs.length = n → (∀ (i : Nat) (x : α), xs[i]? = some x → dec ((cs.drop (i * sz)).take sz) = some x) → many sz dec n cs = some xs
  | 0, cs, xs, e, _ => by
    have := List.length_eq_zero_iff.1 e; subst this; rfl
  | n + 1, cs, [], e, _ => by simp at e
  | n + 1, cs, x :: xs, e, h => by
    unfold many
    have h0 := h 0 x rfl
    simp only [Nat.zero_mul, List.drop_zero] at h0
    have hr := many_some (n := n) (cs := cs.drop sz) (xs := xs) (by simpa using e) (fun i y hy => by
      have := h (i + 1) y (by simpa using hy)
      rw [Nat.succ_mul, Nat.add_comm (i * sz) sz, ← List.drop_drop] at this
      exact this)
    rw [h0, hr]
theorem many_mono {α : Type} {sz : Nat} {dec dec' : List Value → Option α} (hd : ∀ cs a, dec cs = some a → dec' cs = some a) {n : Nat} {cs : List Value} {xs : List α} (e : many sz dec n cs = some xs) : many sz dec' n cs = some xs := by
  obtain ⟨h1, h2⟩ := many_get e
  exact many_some h1 (fun i x hx => hd _ _ (h2 i x hx))
def slen : Value → Nat
  | .slice _ l _ => l
  | _ => 0
def listAt {α : Type} (sz : Nat) (dec : List Value → Option α) (h : Heap) (v : Value) : Option (List α) := (lay sz h v).bind (many sz dec (slen v))
theorem listAt_mono {α : Type} {sz : Nat} {dec dec' : List Value → Option α} {h h' : Heap} {v : Value} {xs : List α} (hl : hle h h') (hd : ∀ cs a, dec cs = some a → dec' cs = some a) (e : listAt sz dec h v = some xs) : listAt sz dec' h' v = some xs := by
  unfold listAt at e ⊢
  rw [Option.bind_eq_some_iff] at e ⊢
  obtain ⟨cs, e1, e2⟩ := e
  exact ⟨cs, lay_mono hl e1, many_mono hd e2⟩
theorem listAt_sl {α : Type} {sz : Nat} {dec : List Value → Option α} {h : Heap} {v : Value} {xs : List α} (e : listAt sz dec h v = some xs) : ∃ a c, v = .slice a xs.length c := by
  unfold listAt at e
  rw [Option.bind_eq_some_iff] at e
  obtain ⟨cs, e1, e2⟩ := e
  obtain ⟨a, l, c, rfl, _⟩ := lay_len e1
  have := (many_get e2).1
  exact ⟨a, c, by rw [this]; rfl⟩
theorem listAt_get {α : Type} {sz : Nat} {dec : List Value → Option α} {h : Heap} {a : Option Addr} {c : Nat} {xs : List α} {l : Nat} (e : listAt sz dec h (.slice a l c) = some xs) (hp : 0 < l) :
    ∃ k off blk, a = some ⟨k, off, none⟩ ∧ hget h k = some blk ∧ l ≤ c ∧ off + l * sz ≤ blk.cells.length ∧ ∀ i x, xs[i]? = some x → off + i * sz + sz ≤ blk.cells.length ∧ dec ((blk.cells.drop (off + i * sz)).take sz) = some x := by
  unfold listAt at e
  rw [Option.bind_eq_some_iff] at e
  obtain ⟨cs, e1, e2⟩ := e
  obtain ⟨h1, h2⟩ := many_get e2
  simp only [slen] at h1
  obtain ⟨k, off, blk, rfl, hb, hc, hle, rfl⟩ := lay_pos e1 hp
  refine ⟨k, off, blk, rfl, hb, hc, hle, fun i x hx => ?_⟩
  have hi : i < l := by rw [← h1]; exact (List.getElem?_eq_some_iff.1 hx).1
  have hm : i * sz + sz ≤ l * sz := by rw [← Nat.succ_mul]; exact Nat.mul_le_mul_right _ hi
  have := h2 i x hx
  rw [List.drop_take, List.take_take, Nat.min_eq_left (by omega), List.drop_drop] at this
  exact ⟨by omega, this⟩
structure NewL where
  m : Nat
  val : (Nat → Nat) → Value
  elem : Nat → Nat
  sz : Nat → Nat
  cells : (Nat → Nat) → Nat → List Value
structure NewL.Par (r : NewL) (h : Heap) : Prop where
  val : ∀ (β : Emb) (σ σ' : Nat → Nat), (∀ i, i < r.m → β (σ i) = some ⟨σ' i, 0, []⟩) → (∀ k, hget h k ≠ none → β k = some ⟨k, 0, []⟩) → VR β (r.val σ) (r.val σ')
  cells : ∀ (β : Emb) (σ σ' : Nat → Nat), (∀ i, i < r.m → β (σ i) = some ⟨σ' i, 0, []⟩) → (∀ k, hget h k ≠ none → β k = some ⟨k, 0, []⟩) → ∀ i, i < r.m → VRs β (r.cells σ i) (r.cells σ' i)
def newH (r : NewL) (σ : Nat → Nat) : Nat → Heap
  | 0 => []
  | i + 1 => (σ i, some ⟨r.elem i, r.sz i, false, r.cells σ i⟩) :: newH r σ i
theorem newH_old {r : NewL} {σ : Nat → Nat} {h : Heap} {k : Nat} : ∀ m, (∀ i, i < m → σ i ≠ k) → hget (newH r σ m ++ h) k = hget h k
  | 0, _ => rfl
  | m + 1, hk => by
    simp only [newH, List.cons_append, hget]
    rw [if_neg (hk m (by omega))]
    exact newH_old m (fun i hi => hk i (by omega))
theorem newH_get {r : NewL} {σ : Nat → Nat} {h : Heap} : ∀ m, (∀ i j, i < m → j < m → σ i = σ j → i = j) → ∀ i, i < m → hget (newH r σ m ++ h) (σ i) = some ⟨r.elem i, r.sz i, false, r.cells σ i⟩
  | 0, _, i, hi => by omega
  | m + 1, inj, i, hi => by
    simp only [newH, List.cons_append, hget]
    by_cases e : σ m = σ i
    · have := inj m i (by omega) hi e
      subst this; simp
    · rw [if_neg e]
      have : i ≠ m := fun h => e (by rw [h])
      exact newH_get m (fun a b ha hb => inj a b (by omega) (by omega)) i (by omega)
def nwL (F : List Value → Heap → Option NewL) : Spec := fun args h n => (F args h).map fun r => (r.val (n + ·), newH r (n + ·) r.m, r.m)
def FinL (res : List IRes) (r : NewL) (h : Heap) (N : Nat) (e : IExit) (s : St) : Prop :=
  isEnd e ∧ ∃ (σ : Nat → Nat) (vs : List Value), (∀ i, i < r.m → N ≤ σ i) ∧ (∀ i j, i < r.m → j < r.m → σ i = σ j → i = j) ∧ resL s res = some vs ∧ one vs = r.val σ ∧
    (∀ i, i < r.m → ∃ x, hget s.hp (σ i) = some ⟨r.elem i, r.sz i, x, r.cells σ i⟩) ∧ ∀ k, k < N → hget s.hp k = hget h k
theorem iotaL {n m N : Nat} {σ : Nat → Nat} (k : Nat) : iotaE ((List.range m).map fun i => (n + i, σ i)) N k = if n ≤ k ∧ k < n + m then some ⟨σ (k - n), 0, []⟩ else if k < N then some ⟨k, 0, []⟩ else none := by
  unfold iotaE
  by_cases c : n ≤ k ∧ k < n + m
  · have hf : ((List.range m).map fun i => (n + i, σ i)).find? (fun p => p.1 == k) = some (k, σ (k - n)) := by
      rw [List.find?_map]
      have : (List.range m).find? ((fun p : Nat × Nat => p.1 == k) ∘ fun i => (n + i, σ i)) = some (k - n) := by
        rw [List.find?_range_eq_some]
        refine ⟨by simp; omega, by simp; omega, fun j hj => by simp; omega⟩
      rw [this]; simp; omega
    rw [hf, if_pos c]
  · have hf : ((List.range m).map fun i => (n + i, σ i)).find? (fun p => p.1 == k) = none := by
      rw [List.find?_eq_none]
      intro p hp
      simp only [List.mem_map, List.mem_range] at hp
      obtain ⟨i, hi, rfl⟩ := hp
      simp; omega
    rw [hf, if_neg c]
theorem newL_run {P : Program} {E : Env} (hE : EnvOK P E) (hm : P.follows .mixedOrders = true) {f : Nat} {nt : Nat} {res : List IRes} {c : ICode} (ht : trFun P f = some ⟨nt, res, c⟩) {F : List Value → Heap → Option NewL}
    (mono : ∀ args h h' r, hle h h' → F args h = some r → F args h' = some r)
    (hrun : ∀ args h N r, F args h = some r → (∀ k b, hget h k = some b → k < N) → r.Par h ∧ args.length ≤ nt ∧ wpI E c (FinL res r h N) ⟨initT args, h, N + 0⟩) : SpecOK P f (nwL F) := by
  refine spec_ok hE hm ht ?_ ?_
  · intro args h h' n o hl e
    simp only [nwL, Option.map_eq_some_iff] at e ⊢
    obtain ⟨v, e1, e2⟩ := e
    exact ⟨v, mono args h h' v hl e1, e2⟩
  · intro args h n v δ m N e hn hN hfr
    simp only [nwL, Option.map_eq_some_iff, Prod.mk.injEq] at e
    obtain ⟨r, e1, rfl, rfl, rfl⟩ := e
    obtain ⟨par, h2, h3⟩ := hrun args h N r e1 hN
    refine ⟨h2, wpI_mono _ ?_ h3⟩
    rintro e s ⟨he, σ, vs, hσ, hinj, hvs, hvk, hblk, hh⟩
    have b1 : ∀ i, i < r.m → iotaE ((List.range r.m).map fun i => (n + i, σ i)) N (n + i) = some ⟨σ i, 0, []⟩ := fun i hi => by
      rw [iotaL, if_pos ⟨by omega, by omega⟩, Nat.add_sub_cancel_left]
    have b2 : ∀ k, hget h k ≠ none → iotaE ((List.range r.m).map fun i => (n + i, σ i)) N k = some ⟨k, 0, []⟩ := fun k hk => by
      have hlt : k < N := by
        cases e : hget h k with
        | none => exact absurd e hk
        | some b => exact hN k b e
      rw [iotaL, if_neg (fun c => hk (hfr k c.1 c.2)), if_pos hlt]
    refine ⟨he, vs, hvs, (List.range r.m).map fun i => (n + i, σ i), ?_, ?_, ?_, ?_⟩
    · intro p hp
      simp only [List.mem_map, List.mem_range] at hp
      obtain ⟨i, hi, rfl⟩ := hp
      simp only; omega
    · rw [hvk]; exact par.val _ _ _ b1 b2
    · intro k blk e
      by_cases c : n ≤ k ∧ k < n + r.m
      · obtain ⟨i, rfl⟩ : ∃ i, k = n + i := ⟨k - n, by omega⟩
        have hi : i < r.m := by omega
        rw [newH_get r.m (fun a b _ _ e => by simpa using e) i hi] at e
        cases e
        obtain ⟨x, hx⟩ := hblk i hi
        exact .inr ⟨_, _, b1 i hi, hx, rfl, rfl, (fun h => by cases h), par.cells _ _ _ b1 b2 i hi⟩
      · rw [newH_old r.m (fun i hi e => c (by omega))] at e
        have hlt := hN k blk e
        exact .inl ⟨hlt, e, by rw [hh k hlt]; exact e⟩
    · intro k1 k2 L1 L2 a1 a2 c1 c2 e
      rw [iotaL] at c1 c2
      by_cases d1 : n ≤ k1 ∧ k1 < n + r.m
      · rw [if_pos d1] at c1; cases c1
        by_cases d2 : n ≤ k2 ∧ k2 < n + r.m
        · rw [if_pos d2] at c2; cases c2
          have := hinj (k1 - n) (k2 - n) (by omega) (by omega) e
          omega
        · rw [if_neg d2] at c2
          split at c2
          · cases c2
            have := hσ (k1 - n) (by omega)
            simp only at e; omega
          · cases c2
      · rw [if_neg d1] at c1
        split at c1
        · cases c1
          by_cases d2 : n ≤ k2 ∧ k2 < n + r.m
          · rw [if_pos d2] at c2; cases c2
            have := hσ (k2 - n) (by omega)
            simp only at e; omega
          · rw [if_neg d2] at c2
            split at c2
            · cases c2; exact e
            · cases c2
        · cases c1
end Go.Eng
end
section
set_option linter.unusedVariables false
set_option linter.unusedSimpArgs false
set_option linter.unusedSectionVars false
namespace Go.Eng
instance : DecidableEq RQ := fun a b => decidable_of_iff (a.s = b.s ∧ a.n = b.n ∧ a.d = b.d) ⟨fun ⟨x, y, z⟩ => by cases a; cases b; simp_all, fun e => by subst e; exact ⟨rfl, rfl, rfl⟩⟩
instance {x : Rat} {k : Nat} : Decidable (RB x k) := by unfold RB; infer_instance
def rowC (f : Nat → Rat) : Nat → List Value
  | 0 => []
  | n + 1 => rowC f n ++ rE (f n)
theorem rowC_len (f : Nat → Rat) : ∀ n, (rowC f n).length = n * 3
  | 0 => rfl
  | n + 1 => by rw [rowC, List.length_append, rowC_len f n]; show n * 3 + 3 = _; omega
theorem rowC_at (f : Nat → Rat) : ∀ {n j}, j < n → ((rowC f n).drop (j * 3)).take 3 = rE (f j)
  | 0, j, h => absurd h (Nat.not_lt_zero j)
  | n + 1, j, h => by
    have hl := rowC_len f n
    rw [rowC]
    by_cases e : j = n
    · subst e
      rw [List.drop_append_of_le_length (by omega), List.drop_of_length_le (by omega), List.nil_append]; rfl
    · rw [List.drop_append_of_le_length (by omega), List.take_append_of_le_length (by rw [List.length_drop]; omega)]
      exact rowC_at f (by omega)
theorem setR_app_left : ∀ (xs l r : List Value) (i : Nat), i + xs.length ≤ l.length → setR (l ++ r) i xs = setR l i xs ++ r
  | [], _, _, _, _ => rfl
  | x :: xs, l, r, i, h => by
    simp only [List.length_cons] at h
    simp only [setR]
    rw [List.set_append_left _ _ (by omega)]
    exact setR_app_left xs _ r (i + 1) (by rw [List.length_set]; omega)
theorem setR_app_right : ∀ (xs l r : List Value) (i : Nat), l.length ≤ i → setR (l ++ r) i xs = l ++ setR r (i - l.length) xs
  | [], _, _, _, _ => rfl
  | x :: xs, l, r, i, h => by
    simp only [setR]
    rw [List.set_append_right _ _ h, setR_app_right xs l _ (i + 1) (by omega), Nat.sub_add_comm h]
def decQ (cs : List Value) (j : Nat) : Option RQ := dec1 ((cs.drop (j * 3)).take 3)
def rdQ (cs : List Value) (j : Nat) : Rat := match decQ cs j with | some q => q.v | none => 0
def rowB (n k : Nat) (cs : List Value) : Prop := cs.length = n * 3 ∧ ∀ j, j < n → decQ cs j = some (RQ.of (rdQ cs j)) ∧ RB (rdQ cs j) k
instance {n k : Nat} {cs : List Value} : Decidable (rowB n k cs) := by unfold rowB; infer_instance
theorem split3 : ∀ (n : Nat) (cs ds : List Value), cs.length = n * 3 → ds.length = n * 3 → (∀ j, j < n → (cs.drop (j * 3)).take 3 = (ds.drop (j * 3)).take 3) → cs = ds
  | 0, cs, ds, h1, h2, _ => by rw [List.eq_nil_of_length_eq_zero (l := cs) (by omega), List.eq_nil_of_length_eq_zero (l := ds) (by omega)]
  | n + 1, cs, ds, h1, h2, h => by
    have h0 := h 0 (by omega)
    rw [Nat.zero_mul, List.drop_zero, List.drop_zero] at h0
    have hr := split3 n (cs.drop 3) (ds.drop 3) (by rw [List.length_drop]; omega) (by rw [List.length_drop]; omega) fun j hj => by
      rw [List.drop_drop, List.drop_drop]
      have := h (j + 1) (by omega)
      rw [Nat.succ_mul, Nat.add_comm (j * 3) 3] at this
      exact this
    rw [← List.take_append_drop 3 cs, ← List.take_append_drop 3 ds, h0, hr]
theorem dec1_cells {cs : List Value} {q : RQ} (e : dec1 cs = some q) : cs = q.cells := dec1_eq e
theorem rowB.eq {n k : Nat} {cs : List Value} (h : rowB n k cs) : cs = rowC (rdQ cs) n :=
  split3 n _ _ h.1 (rowC_len _ _) fun j hj => by
    rw [rowC_at _ hj]
    exact dec1_cells (h.2 j hj).1
theorem rowB.rb {n k j : Nat} {cs : List Value} (h : rowB n k cs) (hj : j < n) : RB (rdQ cs j) k := (h.2 j hj).2
structure EqR where
  (coef : List RQ) (rhs : RQ) (line : Int)
def EqR.tl (e : EqR) : List Value := [.bool e.rhs.s, .string ⟨⟨e.rhs.n⟩⟩, .string ⟨⟨e.rhs.d⟩⟩, .int .i64 e.line]
def rq0 : RQ := ⟨false, [], []⟩
def EqR.at (e : EqR) (n j : Nat) : RQ := if j < n then (e.coef[j]?).getD rq0 else e.rhs
end Go.Eng
end
section
set_option linter.unusedVariables false
set_option linter.unusedSimpArgs false
set_option linter.unusedSectionVars false
namespace Go.Eng
abbrev PQ := RQ × RQ
def pcl (p : PQ) : List Value := p.1.cells ++ p.2.cells
def pok (k : Nat) (p : PQ) : Prop := p.1.ok k ∧ p.2.ok k
instance {k : Nat} {p : PQ} : Decidable (pok k p) := by unfold pok; infer_instance
def pv2 (p : PQ) : P2 := (p.1.v, p.2.v)
def pqo (v : P2) : PQ := (RQ.of v.1, RQ.of v.2)
theorem pqo_v (v : P2) : pv2 (pqo v) = v := Prod.ext (RQ.of_v _) (RQ.of_v _)
theorem pcl_len (p : PQ) : (pcl p).length = 6 := rfl
theorem pcl_ok (p : PQ) : (pcl p).all okCell = true := rfl
theorem pcl_base (p : PQ) : (pcl p).all isBase = true := rfl
theorem pcl_tk (p : PQ) : (pcl p).take 6 = pcl p := rfl
theorem pcl_x (p : PQ) : (pcl p).take 3 = p.1.cells := rfl
theorem pcl_y (p : PQ) : ((pcl p).drop 3).take 3 = p.2.cells := rfl
theorem dec2_pcl {cs : List Value} {p : PQ} (e : dec2 cs = some p) : cs = pcl p := dec2_eq e
theorem pcl_dec (p : PQ) : dec2 (pcl p) = some p := rfl
theorem pok.le {i k : Nat} {p : PQ} (h : pok i p) (hk : i ≤ k) : pok k p := ⟨h.1.le hk, h.2.le hk⟩
def pq0 : PQ := (rq0, rq0)
def pqAt (l : List PQ) (i : Nat) : PQ := (l[i]?).getD pq0
theorem pqAt_some {l : List PQ} {i : Nat} (h : i < l.length) : l[i]? = some (pqAt l i) := by unfold pqAt; rw [List.getElem?_eq_getElem h]; rfl
theorem pqAt_mem {l : List PQ} {i : Nat} (h : i < l.length) : pqAt l i ∈ l := List.mem_of_getElem? (pqAt_some h)
def pvs (l : List PQ) : List P2 := l.map pv2
theorem pvs_len (l : List PQ) : (pvs l).length = l.length := List.length_map _
theorem pvs_at {l : List PQ} {i : Nat} (h : i < l.length) : ptv (pvs l) i = pv2 (pqAt l i) := by
  unfold ptv pvs
  rw [List.getElem?_map, pqAt_some h]; rfl
theorem pvs_vt {l : List PQ} {i : Nat} (h : 0 < l.length) : vt (pvs l) i = pv2 (pqAt l (i % l.length)) := by
  unfold vt
  rw [pvs_len, pvs_at (Nat.mod_lt _ h)]
def ptC (l : List PQ) : List Value := l.flatMap pcl
theorem ptC_len : ∀ l : List PQ, (ptC l).length = l.length * 6
  | [] => rfl
  | p :: l => by
    have := ptC_len l
    unfold ptC at this ⊢
    rw [List.flatMap_cons, List.length_append, this, pcl_len, List.length_cons]; omega
theorem ptC_ok (l : List PQ) : (ptC l).all okCell = true := by
  rw [List.all_eq_true]
  intro v hv
  unfold ptC at hv
  rw [List.mem_flatMap] at hv
  obtain ⟨q, _, h⟩ := hv
  exact List.all_eq_true.1 (pcl_ok q) v h
theorem ptC_base (l : List PQ) : (ptC l).all isBase = true := by
  rw [List.all_eq_true]
  intro v hv
  unfold ptC at hv
  rw [List.mem_flatMap] at hv
  obtain ⟨q, _, h⟩ := hv
  exact List.all_eq_true.1 (pcl_base q) v h
theorem ptC_app (l m : List PQ) : ptC (l ++ m) = ptC l ++ ptC m := by unfold ptC; rw [List.flatMap_append]
theorem ptC_one (q : PQ) : ptC [q] = pcl q := by unfold ptC; simp
theorem ptC_snoc (l : List PQ) (q : PQ) : ptC (l ++ [q]) = ptC l ++ pcl q := by rw [ptC_app, ptC_one]
theorem ptC_at : ∀ (l : List PQ) (i : Nat), i < l.length → ((ptC l).drop (i * 6)).take 6 = pcl (pqAt l i)
  | [], i, h => absurd h (Nat.not_lt_zero i)
  | p :: l, 0, _ => by
    unfold ptC
    rw [List.flatMap_cons, Nat.zero_mul, List.drop_zero, List.take_append_of_le_length (by rw [pcl_len]; exact Nat.le_refl _)]; rfl
  | p :: l, i + 1, h => by
    have ih := ptC_at l i (by simpa using h)
    unfold ptC at ih ⊢
    rw [List.flatMap_cons, show (i + 1) * 6 = 6 + i * 6 by omega, ← List.drop_drop, List.drop_append_of_le_length (by rw [pcl_len]; exact Nat.le_refl _), show (pcl p).drop 6 = [] from rfl, List.nil_append]
    exact ih
theorem ptC_drop : ∀ (l : List PQ) (i : Nat), (ptC l).drop (i * 6) = ptC (l.drop i)
  | l, 0 => by rw [Nat.zero_mul, List.drop_zero, List.drop_zero]
  | [], i + 1 => by simp [ptC]
  | p :: l, i + 1 => by
    have ih := ptC_drop l i
    rw [List.drop_succ_cons, ← ih]
    unfold ptC
    rw [List.flatMap_cons, show (i + 1) * 6 = 6 + i * 6 by omega, ← List.drop_drop, List.drop_append_of_le_length (by rw [pcl_len]; exact Nat.le_refl _), show (pcl p).drop 6 = [] from rfl, List.nil_append]
theorem ptC_take : ∀ (l : List PQ) (i : Nat), (ptC l).take (i * 6) = ptC (l.take i)
  | l, 0 => by rw [Nat.zero_mul, List.take_zero, List.take_zero]; rfl
  | [], i + 1 => by simp [ptC]
  | p :: l, i + 1 => by
    have ih := ptC_take l i
    rw [List.take_succ_cons]
    unfold ptC at ih ⊢
    rw [List.flatMap_cons, List.flatMap_cons, show (i + 1) * 6 = 6 + i * 6 by omega, List.take_append, pcl_len, List.take_of_length_le (by rw [pcl_len]; omega), show 6 + i * 6 - 6 = i * 6 by omega, ih]
theorem ptC_set : ∀ (l : List PQ) (i : Nat) (q : PQ), i < l.length → setR (ptC l) (i * 6) (pcl q) = ptC (l.set i q)
  | [], i, q, h => absurd h (Nat.not_lt_zero i)
  | p :: l, 0, q, _ => by
    unfold ptC
    rw [List.flatMap_cons, List.set_cons_zero, List.flatMap_cons, Nat.zero_mul, setR_app_left _ _ _ _ (by rw [pcl_len, pcl_len]; omega)]; rfl
  | p :: l, i + 1, q, h => by
    have ih := ptC_set l i q (by simpa using h)
    unfold ptC at ih ⊢
    rw [List.flatMap_cons, List.set_cons_succ, List.flatMap_cons, setR_app_right _ _ _ _ (by rw [pcl_len]; omega), pcl_len, show (i + 1) * 6 - 6 = i * 6 by omega, ih]
def decPts (h : Heap) (v : Value) : Option (List PQ) := listAt 6 dec2 h v
theorem decPts_mono {h h' : Heap} (hl : hle h h') {v : Value} {l : List PQ} (x : decPts h v = some l) : decPts h' v = some l := listAt_mono hl (fun _ _ e => e) x
theorem decPts_sl {h : Heap} {v : Value} {l : List PQ} (x : decPts h v = some l) : ∃ a c, v = .slice a l.length c := listAt_sl x
theorem pts_at {h : Heap} {a : Option Addr} {n c : Nat} {l : List PQ} {i : Nat} (e : decPts h (.slice a n c) = some l) (hi : i < n) :
    ∃ k off blk, a = some ⟨k, off, none⟩ ∧ hget h k = some blk ∧ off + i * 6 + 6 ≤ blk.cells.length ∧ (blk.cells.drop (off + i * 6)).take 6 = pcl (pqAt l i) := by
  have hl : l.length = n := by
    obtain ⟨a', c', x⟩ := decPts_sl e
    injection x with _ x2 _
    exact x2.symm
  unfold decPts at e
  obtain ⟨k, off, blk, ea, hb, _, _, hat⟩ := listAt_get e (by omega)
  obtain ⟨h1, h2⟩ := hat i _ (pqAt_some (by omega))
  exact ⟨k, off, blk, ea, hb, h1, dec2_pcl h2⟩
theorem pts_list {h : Heap} {k e s : Nat} {x : Bool} {l : List PQ} {n : Nat} (hb : hget h k = some ⟨e, s, x, ptC l⟩) (hn : l.length = n) : decPts h (.slice (some ⟨k, 0, none⟩) n n) = some l := by
  have hl := ptC_len l
  unfold decPts listAt
  have la : lay 6 h (.slice (some ⟨k, 0, none⟩) n n) = some (ptC l) := by
    cases n with
    | zero =>
      show (match hget h k with | some blk => if 0 ≤ 0 ∧ 0 + 0 * 6 ≤ blk.cells.length then some ((blk.cells.drop 0).take (0 * 6)) else none | none => none) = _
      rw [hb, List.eq_nil_of_length_eq_zero hn]
      rfl
    | succ d =>
      unfold lay
      simp only [hb]
      rw [if_pos ⟨by omega, by omega⟩, List.drop_zero, List.take_of_length_le (by omega)]
  rw [la]
  show many 6 dec2 n _ = _
  refine many_some hn fun i p hp => ?_
  have hi : i < l.length := (List.getElem?_eq_some_iff.1 hp).1
  rw [pqAt_some hi] at hp
  cases hp
  rw [ptC_at l i hi]; rfl
theorem many_pts : ∀ {n : Nat} {cs : List Value} {l : List PQ}, many 6 dec2 n cs = some l → cs.take (n * 6) = ptC l
  | 0, cs, l, e => by simp [many] at e; subst e; simp [ptC]
  | n + 1, cs, l, e => by
    unfold many at e
    split at e
    · rename_i a r h1 h2
      cases e
      have ih := many_pts h2
      have e1 := dec2_pcl h1
      have : ptC (a :: r) = pcl a ++ ptC r := by unfold ptC; rw [List.flatMap_cons]
      rw [this, ← ih, ← e1, show (n + 1) * 6 = 6 + n * 6 by omega, List.take_add]
    · cases e
theorem pts_src {h : Heap} {a : Option Addr} {n c : Nat} {l : List PQ} (e : decPts h (.slice a n c) = some l) : srcOf h 6 n a = some (ptC l) := by
  have hl : l.length = n := by
    obtain ⟨a', c', x⟩ := decPts_sl e
    injection x with _ x2 _
    exact x2.symm
  unfold decPts listAt at e
  rw [Option.bind_eq_some_iff] at e
  obtain ⟨cs, e1, e2⟩ := e
  have m := many_pts e2
  obtain ⟨_, l', _, ev, hc⟩ := lay_len e1
  injection ev with _ x _
  have e2 : many 6 dec2 n cs = some l := e2
  rw [List.take_of_length_le (by rw [hc, ← x]; exact Nat.le_refl _)] at m
  rw [← m]
  unfold lay at e1
  split at e1
  · rename_i x; cases x; exact e1
  · rename_i x; cases x
    unfold srcOf
    rw [if_pos rfl]; exact e1
  · rename_i x; cases x
    split at e1
    · rename_i blk hb
      split at e1
      · rename_i hc
        unfold srcOf
        simp only [hb, Option.bind_some]
        rw [if_pos hc.2]; exact e1
      · cases e1
    · cases e1
  · cases e1
theorem ext_pts {N : Nat} {h hp : Heap} {sl : Value} {l : List PQ} (hN : ∀ k b, hget h k = some b → k < N) (hx : decPts h sl = some l) (he : ∀ k, k < N → hget hp k = hget h k) : decPts hp sl = some l :=
  decPts_mono (fun k b e => by rw [he k (hN _ _ e)]; exact e) hx
end Go.Eng
end
section
set_option linter.unusedVariables false
set_option linter.unusedSimpArgs false
set_option linter.unusedSectionVars false
set_option maxRecDepth 20000
namespace Go.Eng
open Go Go.Proofs Go.IntWalk
theorem qsub {p q : RQ} (hp : p.ok 8589934591) (hq : q.ok 8589934591) : spQSub [.agg ⟨p.cells⟩, .agg ⟨q.cells⟩] = some (.agg ⟨(RQ.of (p.v - q.v)).cells⟩) :=
  if_pos ⟨by have := hp.1; omega, by have := hp.2; omega, by have := hq.1; omega, by have := hq.2; omega⟩
theorem qadd {p q : RQ} (hp : p.ok 8589934591) (hq : q.ok 8589934591) : spQAdd [.agg ⟨p.cells⟩, .agg ⟨q.cells⟩] = some (.agg ⟨(RQ.of (p.v + q.v)).cells⟩) :=
  if_pos ⟨by have := hp.1; omega, by have := hp.2; omega, by have := hq.1; omega, by have := hq.2; omega⟩
theorem qmul {p q : RQ} (hp : p.ok 8589934591) (hq : q.ok 8589934591) : spQMul [.agg ⟨p.cells⟩, .agg ⟨q.cells⟩] = some (.agg ⟨(RQ.of (p.v * q.v)).cells⟩) :=
  if_pos ⟨by have := hp.1; omega, by have := hp.2; omega, by have := hq.1; omega, by have := hq.2; omega⟩
theorem qcmp {p q : RQ} (hp : p.ok 8589934591) (hq : q.ok 8589934591) : spQCmp [.agg ⟨p.cells⟩, .agg ⟨q.cells⟩] = some (.int .i64 (sg (p.v - q.v))) :=
  if_pos ⟨by have := hp.1; omega, by have := hp.2; omega, by have := hq.1; omega, by have := hq.2; omega⟩
theorem q_len (q : RQ) : q.cells.length = 3 := rfl
theorem q_ok (q : RQ) : q.cells.all okCell = true := rfl
theorem q_tk (q : RQ) : q.cells.take 3 = q.cells := rfl
theorem q_st (q : RQ) : setR [.bool false, .string ⟨⟨[]⟩⟩, .string ⟨⟨[]⟩⟩] 0 q.cells = q.cells := rfl
theorem q_st' (p q : RQ) : setR p.cells 0 q.cells = q.cells := rfl
theorem pp_st (p : PQ) : setR [.bool false, .string ⟨⟨[]⟩⟩, .string ⟨⟨[]⟩⟩, .bool false, .string ⟨⟨[]⟩⟩, .string ⟨⟨[]⟩⟩] 0 (pcl p) = pcl p := rfl
theorem p_mk (x y : RQ) : setR (setR [.bool false, .string ⟨⟨[]⟩⟩, .string ⟨⟨[]⟩⟩, .bool false, .string ⟨⟨[]⟩⟩, .string ⟨⟨[]⟩⟩] 0 x.cells) 3 y.cells = pcl (x, y) := rfl
theorem ofB {x : Rat} {i : Nat} (h : RB x i) (hi : i ≤ 8589934591) : (RQ.of x).ok 8589934591 := (RQ.of_ok h).le hi
theorem pok1 {p : PQ} {k : Nat} (h : pok k p) (hk : k ≤ 8589934591) : p.1.ok 8589934591 := h.1.le hk
theorem pok2 {p : PQ} {k : Nat} (h : pok k p) (hk : k ≤ 8589934591) : p.2.ok 8589934591 := h.2.le hk
theorem subB {p q : RQ} {k : Nat} (hp : p.ok k) (hq : q.ok k) : RB (p.v - q.v) (2 * k + 3) := hp.rb.sub hq.rb (by omega)
def spTurn : List Value → Option Value
  | [.agg ⟨ca⟩, .agg ⟨cb⟩, .agg ⟨cx⟩] => match dec2 ca, dec2 cb, dec2 cx with
    | some a, some b, some x => if pok 1000000 a ∧ pok 1000000 b ∧ pok 1000000 x then some (.int .i64 (sg (cr (pv2 a) (pv2 b) (pv2 x)))) else none
    | _, _, _ => none
  | _ => none
theorem turn_of {a b x : PQ} (ha : pok 1000000 a) (hb : pok 1000000 b) (hx : pok 1000000 x) : spTurn [.agg ⟨pcl a⟩, .agg ⟨pcl b⟩, .agg ⟨pcl x⟩] = some (.int .i64 (sg (cr (pv2 a) (pv2 b) (pv2 x)))) := by
  unfold spTurn
  simp only [pcl_dec]
  exact if_pos ⟨ha, hb, hx⟩
def c21 : ICode :=
  (.seq (.reg [qq 3 (.box 26 6 (.t 0)), qq 4 (.box 26 6 (.t 1)), qq 5 (.box 26 6 (.t 2)), qq 6 (.mv (ci 0))]) (.seq (.dreg [qu 8 (.ixarr 2 3 (.t 4) (ci 0)), qu 9 (.load true 3 (.t 8)), qu 10 (.ixarr 2 3 (.t 3) (ci 0)), qu 11 (.load true 3 (.t 10)), qu 12 (.call 18 [(.t 9), (.t 11)]), qu 13 (.ixarr 2 3 (.t 5) (ci 1)), qv 14 [4] (.load true 3 (.t 13)), qu 15 (.ixarr 2 3 (.t 3) (ci 1)), qv 16 [4] (.load true 3 (.t 15)), qu 17 (.call 18 [(.t 14), (.t 16)]), qu 18 (.call 17 [(.t 12), (.t 17)]), qu 7 (.alloc 24 3 [(.bool false), e0, e0]), qm (.store 3 (.t 7) (.t 18))]) (.seq (.dreg [qu 19 (.load true 3 (.t 7)), qu 20 (.ixarr 2 3 (.t 4) (ci 1)), qu 21 (.load true 3 (.t 20)), qu 22 (.ixarr 2 3 (.t 3) (ci 1)), qu 23 (.load true 3 (.t 22)), qu 24 (.call 18 [(.t 21), (.t 23)]), qu 25 (.ixarr 2 3 (.t 5) (ci 0)), qv 26 [5] (.load true 3 (.t 25)), qu 27 (.ixarr 2 3 (.t 3) (ci 0)), qv 28 [5] (.load true 3 (.t 27)), qu 29 (.call 18 [(.t 26), (.t 28)]), qu 30 (.call 17 [(.t 24), (.t 29)]), qu 31 (.call 31 [(.t 19), (.t 30)]), qu 6 (.mv (.t 31))]) .ret)))
theorem tr21 : trFun Tryd.prog 21 = some ⟨32, [.t 6], c21⟩ := by kernel_rfl
set_option maxHeartbeats 4000000 in
theorem ok_turn : SpecOK Tryd.prog 21 (flat spTurn) := by
  refine flat_run (env_cons ok_qSub (env_cons ok_qMul (env_cons ok_qCmp (env_nil _)))) mixed tr21 ?_
  intro args v h N hG
  unfold spTurn at hG
  split at hG
  case h_2 => cases hG
  rename_i ca cb cx
  split at hG
  case h_2 => cases hG
  rename_i a b x ha hb hx
  split at hG
  case isFalse => cases hG
  rename_i hs
  obtain ⟨sa, sb, sx⟩ := hs
  cases hG
  have ea := dec2_pcl ha
  have eb := dec2_pcl hb
  have ex := dec2_pcl hx
  subst ea eb ex
  refine ⟨rfl, by simp, ?_⟩
  have s1 := qsub (pok1 sb (by omega)) (pok1 sa (by omega))
  have s2 := qsub (pok2 sx (by omega)) (pok2 sa (by omega))
  have s3 := qsub (pok2 sb (by omega)) (pok2 sa (by omega))
  have s4 := qsub (pok1 sx (by omega)) (pok1 sa (by omega))
  have b1 := subB sb.1 sa.1
  have b2 := subB sx.2 sa.2
  have b3 := subB sb.2 sa.2
  have b4 := subB sx.1 sa.1
  have m1 := qmul (ofB b1 (by omega)) (ofB b2 (by omega))
  have m2 := qmul (ofB b3 (by omega)) (ofB b4 (by omega))
  have c1 := qcmp (ofB (b1.mul b2 (Nat.le_refl _)) (by omega)) (ofB (b3.mul b4 (Nat.le_refl _)) (by omega))
  rw [RQ.of_v, RQ.of_v] at m1 m2 c1
  have ecr : cr (pv2 a) (pv2 b) (pv2 x) = (b.1.v - a.1.v) * (x.2.v - a.2.v) - (b.2.v - a.2.v) * (x.1.v - a.1.v) := rfl
  rw [ecr]
  generalize RQ.of (b.1.v - a.1.v) = Q1 at *
  generalize RQ.of (x.2.v - a.2.v) = Q2 at *
  generalize RQ.of (b.2.v - a.2.v) = Q3 at *
  generalize RQ.of (x.1.v - a.1.v) = Q4 at *
  generalize RQ.of ((b.1.v - a.1.v) * (x.2.v - a.2.v)) = Q5 at *
  generalize RQ.of ((b.2.v - a.2.v) * (x.1.v - a.1.v)) = Q6 at *
  simp only [c21, G0, Nat.reduceAdd]
  simp only [↓R0, R1, simprocAttr, -Int.reduceAbs, pcl_len, pcl_ok, pcl_tk, pcl_x, pcl_y, q_len, q_ok, q_tk, q_st, s1, s2, s3, s4, m1, m2, c1, Fin, isEnd, resL, res1]
  exact ⟨_, rfl, rfl, fun k hk => by simp only [ne_nb hk, if_false]⟩
def spOr : List Value → Heap → Option Value
  | [.slice (some ⟨k, 0, none⟩) 2 _], h => match hget h k with
    | some ⟨_, _, _, [.int .i64 x, .int .i64 y]⟩ => some (.int .i64 (if x ≠ 0 then x else y))
    | _ => none
  | _, _ => none
def c38 : ICode :=
  (.seq (.reg [qq 2 (.mv (ci 0))]) (.seq (.reg [qq 3 (.mv (ci 0))]) (.seq (.seq (.reg [qq 6 (.mv (.t 0)), qq 7 (.lensl (.t 6)), qq 8 (.mv (ci 0))]) (.block 0 (.loop (.seq (.reg [qq 9 (.bin .lss (.t 8) (.t 7))]) (.seq (.cond (.t 9) .skip (.exit 0)) (.seq (.block 1 (.seq (.reg [qq 10 (.ixsl 1 (.t 6) (.t 8)), qq 11 (.load false 1 (.t 10)), qq 5 (.mv (.t 11))]) (.seq (.reg [qq 12 (.mv (.t 5)), qq 13 (.mv (.t 3)), qq 14 (.bin .neq (.t 12) (.t 13))]) (.cond (.t 14) (.seq (.reg [qq 15 (.mv (.t 5)), qq 2 (.mv (.t 15))]) .ret) .skip)))) (.reg [qq 16 (.bin .add (.t 8) (ci 1)), qq 8 (.mv (.t 16))]))))))) (.seq (.reg [qq 17 (.mv (.t 3)), qq 2 (.mv (.t 17))]) .ret))))
theorem tr38 : trFun Tryd.prog 38 = some ⟨18, [.t 2], c38⟩ := by kernel_rfl
set_option maxHeartbeats 4000000 in
theorem ok_or : SpecOK Tryd.prog 38 (rdS spOr) := by
  refine rd_run (env_nil _) mixed tr38 ?_ ?_
  · intro args h h' v hle e
    unfold spOr at e ⊢
    split at e
    · split at e
      · rename_i hb
        simp only [hle _ _ hb]; exact e
      · cases e
    · cases e
  intro args v h N hG hN
  unfold spOr at hG
  split at hG
  case h_2 => cases hG
  rename_i k c
  split at hG
  case h_2 => cases hG
  rename_i e s xx x y hb
  cases hG
  refine ⟨by rfl, by simp, ?_⟩
  have dn : ∀ a b : Int, decide (a ≠ b) = !decide (a = b) := fun a b => by by_cases h : a = b <;> simp [h]
  have ex0 : ([Value.int .i64 x, .int .i64 y] : List Value)[0]? = some (.int .i64 x) := rfl
  have ex1 : ([Value.int .i64 x, .int .i64 y] : List Value)[1]? = some (.int .i64 y) := rfl
  by_cases hx : x = 0
  · have hx' : (x = 0) = True := eq_true hx
    rw [if_neg (fun h => h hx)]
    simp only [c38, G0, Nat.reduceAdd]
    simp only [↓R0, R1, simprocAttr, -Int.reduceAbs]
    refine lp_step ?_
    simp only [↓R0, R1, simprocAttr, -Int.reduceAbs, hb, ex0, dn, hx', Bool.not_true]
    refine lp_step ?_
    by_cases hy : y = 0
    · have hy' : (y = 0) = True := eq_true hy
      simp only [↓R0, R1, simprocAttr, -Int.reduceAbs, hb, ex1, dn, hy', Bool.not_true]
      refine lp_step ?_
      simp only [↓R0, R1, simprocAttr, -Int.reduceAbs, Fin, isEnd, resL, res1]
      exact ⟨_, rfl, by rw [hy]; rfl, fun _ _ => trivial⟩
    · have hy' : (y = 0) = False := eq_false hy
      simp only [↓R0, R1, simprocAttr, -Int.reduceAbs, hb, ex1, dn, hy', Bool.not_false, Fin, isEnd, resL, res1]
      exact ⟨_, rfl, rfl, fun _ _ => trivial⟩
  · have hx' : (x = 0) = False := eq_false hx
    rw [if_pos hx]
    simp only [c38, G0, Nat.reduceAdd]
    simp only [↓R0, R1, simprocAttr, -Int.reduceAbs]
    refine lp_step ?_
    simp only [↓R0, R1, simprocAttr, -Int.reduceAbs, hb, ex0, dn, hx', Bool.not_false, Fin, isEnd, resL, res1]
    exact ⟨_, rfl, rfl, fun _ _ => trivial⟩
def spCmpP : List Value → Option Value
  | [.agg ⟨ca⟩, .agg ⟨cb⟩] => match dec2 ca, dec2 cb with
    | some a, some b => if pok 1000000 a ∧ pok 1000000 b then some (.int .i64 (cmpP (pv2 a) (pv2 b))) else none
    | _, _ => none
  | _ => none
theorem cmpP_of {a b : PQ} (ha : pok 1000000 a) (hb : pok 1000000 b) : spCmpP [.agg ⟨pcl a⟩, .agg ⟨pcl b⟩] = some (.int .i64 (cmpP (pv2 a) (pv2 b))) := by
  unfold spCmpP
  simp only [pcl_dec]
  exact if_pos ⟨ha, hb⟩
def c24 : ICode :=
  (.seq (.reg [qq 2 (.box 26 6 (.t 0)), qq 3 (.box 26 6 (.t 1)), qq 4 (.mv (ci 0))]) (.seq (.dreg [qu 5 (.ixarr 2 3 (.t 2) (ci 0)), qu 6 (.load true 3 (.t 5)), qu 7 (.ixarr 2 3 (.t 3) (ci 0)), qu 8 (.load true 3 (.t 7)), qu 9 (.call 31 [(.t 6), (.t 8)]), qu 10 (.ixarr 2 3 (.t 2) (ci 1)), qv 11 [4] (.load true 3 (.t 10)), qu 12 (.ixarr 2 3 (.t 3) (ci 1)), qv 13 [4] (.load true 3 (.t 12)), qu 14 (.call 31 [(.t 11), (.t 13)]), qu 15 (.bslice 3 1 2 [(.int .i64 0), (.int .i64 0)] [(0, 1, (.t 9)), (1, 1, (.t 14))]), qu 16 (.call 38 [(.t 15)]), qu 4 (.mv (.t 16))]) .ret))
theorem tr24 : trFun Tryd.prog 24 = some ⟨17, [.t 4], c24⟩ := by kernel_rfl
set_option maxHeartbeats 4000000 in
theorem ok_cmpP : SpecOK Tryd.prog 24 (flat spCmpP) := by
  refine flat_run (env_cons ok_qCmp (env_cons ok_or (env_nil _))) mixed tr24 ?_
  intro args v h N hG
  unfold spCmpP at hG
  split at hG
  case h_2 => cases hG
  rename_i ca cb
  split at hG
  case h_2 => cases hG
  rename_i a b ha hb
  split at hG
  case isFalse => cases hG
  rename_i hs
  obtain ⟨sa, sb⟩ := hs
  cases hG
  have ea := dec2_pcl ha
  have eb := dec2_pcl hb
  subst ea eb
  refine ⟨rfl, by simp, ?_⟩
  have s1 := qcmp (pok1 sa (by omega)) (pok1 sb (by omega))
  have s2 := qcmp (pok2 sa (by omega)) (pok2 sb (by omega))
  have ec : cmpP (pv2 a) (pv2 b) = if sg (a.1.v - b.1.v) ≠ 0 then sg (a.1.v - b.1.v) else sg (a.2.v - b.2.v) := rfl
  rw [ec]
  generalize sg (a.1.v - b.1.v) = X at *
  generalize sg (a.2.v - b.2.v) = Y at *
  simp only [c24, G0, Nat.reduceAdd]
  simp only [↓R0, R1, simprocAttr, -Int.reduceAbs, rdS, pcl_len, pcl_ok, pcl_tk, pcl_x, pcl_y, q_len, q_ok, q_tk, s1, s2, spOr, Fin, isEnd, resL, res1]
  exact ⟨_, rfl, rfl, fun k hk => by simp only [ne_nb hk, if_false]⟩
theorem cmpP_bd (a b : P2) : -1 ≤ cmpP a b ∧ cmpP a b ≤ 1 := by
  have key : ∀ q, -1 ≤ sg q ∧ sg q ≤ 1 := fun q => by rcases sg3 q with ⟨_, y⟩ | ⟨_, y⟩ | ⟨_, y⟩ <;> rw [y] <;> omega
  unfold cmpP
  split <;> exact key _
theorem sg_bd (q : Rat) : -1 ≤ sg q ∧ sg q ≤ 1 := by rcases sg3 q with ⟨_, y⟩ | ⟨_, y⟩ | ⟨_, y⟩ <;> rw [y] <;> omega
theorem mul_wrap {x y : Int} (hx : -1 ≤ x ∧ x ≤ 1) (hy : -1 ≤ y ∧ y ≤ 1) : IntKind.i64.wrap (x * y) = x * y := by
  refine i64_in _ ?_
  have : x = -1 ∨ x = 0 ∨ x = 1 := by omega
  have : y = -1 ∨ y = 0 ∨ y = 1 := by omega
  rcases ‹x = -1 ∨ x = 0 ∨ x = 1› with rfl | rfl | rfl <;> rcases ‹y = -1 ∨ y = 0 ∨ y = 1› with rfl | rfl | rfl <;> decide
def spOnP : List Value → Option Value
  | [.agg ⟨ca⟩, .agg ⟨cb⟩, .agg ⟨cx⟩] => match dec2 ca, dec2 cb, dec2 cx with
    | some a, some b, some x => if pok 1000000 a ∧ pok 1000000 b ∧ pok 1000000 x then some (.bool (onB (pv2 a) (pv2 b) (pv2 x))) else none
    | _, _, _ => none
  | _ => none
theorem onP_of {a b x : PQ} (ha : pok 1000000 a) (hb : pok 1000000 b) (hx : pok 1000000 x) : spOnP [.agg ⟨pcl a⟩, .agg ⟨pcl b⟩, .agg ⟨pcl x⟩] = some (.bool (onB (pv2 a) (pv2 b) (pv2 x))) := by
  unfold spOnP
  simp only [pcl_dec]
  exact if_pos ⟨ha, hb, hx⟩
def c30 : ICode :=
  (.seq (.reg [qq 3 (.box 26 6 (.t 0)), qq 4 (.box 26 6 (.t 1)), qq 5 (.box 26 6 (.t 2)), qq 6 (.mv (.c (.bool false)))]) (.seq (.dreg [qu 7 (.load true 6 (.t 3)), qu 8 (.load true 6 (.t 4)), qu 9 (.load true 6 (.t 5)), qu 10 (.call 21 [(.t 7), (.t 8), (.t 9)]), qu 11 (.bin .eql (.t 10) (ci 0)), qu 12 (.mv (.t 11)), ⟨(some 13), (some (12, true)), [], (.load true 6 (.t 3))⟩, ⟨(some 14), (some (12, true)), [], (.load true 6 (.t 5))⟩, ⟨(some 15), (some (12, true)), [], (.call 24 [(.t 13), (.t 14)])⟩, ⟨(some 16), (some (12, true)), [8], (.load true 6 (.t 5))⟩, ⟨(some 17), (some (12, true)), [8], (.load true 6 (.t 4))⟩, ⟨(some 18), (some (12, true)), [], (.call 24 [(.t 16), (.t 17)])⟩, ⟨(some 19), (some (12, true)), [], (.bin .mul (.t 15) (.t 18))⟩, ⟨(some 20), (some (12, true)), [], (.bin .geq (.t 19) (ci 0))⟩, qu 21 (.pick (.t 12) (.t 20) (.c (.bool false))), qu 22 (.mv (.t 21)), ⟨(some 23), (some (22, true)), [], (.load true 6 (.t 3))⟩, ⟨(some 24), (some (22, true)), [], (.load true 6 (.t 4))⟩, ⟨(some 25), (some (22, true)), [], (.call 24 [(.t 23), (.t 24)])⟩, ⟨(some 26), (some (22, true)), [], (.bin .neq (.t 25) (ci 0))⟩, ⟨(some 27), (some (22, true)), [], (.mv (.t 26))⟩, ⟨(some 28), (some (27, false)), [], (.load true 6 (.t 3))⟩, ⟨(some 29), (some (27, false)), [], (.load true 6 (.t 5))⟩, ⟨(some 30), (some (27, false)), [], (.call 24 [(.t 28), (.t 29)])⟩, ⟨(some 31), (some (27, false)), [], (.bin .eql (.t 30) (ci 0))⟩, ⟨(some 32), (some (22, true)), [], (.pick (.t 27) (.c (.bool true)) (.t 31))⟩, qu 33 (.pick (.t 22) (.t 32) (.c (.bool false))), qu 6 (.mv (.t 33))]) .ret))
theorem tr30 : trFun Tryd.prog 30 = some ⟨34, [.t 6], c30⟩ := by kernel_rfl
set_option maxHeartbeats 4000000 in
theorem ok_onP : SpecOK Tryd.prog 30 (flat spOnP) := by
  refine flat_run (env_cons ok_turn (env_cons ok_cmpP (env_nil _))) mixed tr30 ?_
  intro args v h N hG
  unfold spOnP at hG
  split at hG
  case h_2 => cases hG
  rename_i ca cb cx
  split at hG
  case h_2 => cases hG
  rename_i a b x ha hb hx
  split at hG
  case isFalse => cases hG
  rename_i hs
  obtain ⟨sa, sb, sx⟩ := hs
  cases hG
  have ea := dec2_pcl ha
  have eb := dec2_pcl hb
  have ex := dec2_pcl hx
  subst ea eb ex
  refine ⟨rfl, by simp, ?_⟩
  have dn : ∀ a b : Int, decide (a ≠ b) = !decide (a = b) := fun a b => by by_cases h : a = b <;> simp [h]
  have t1 := turn_of sa sb sx
  have t2 := cmpP_of sa sx
  have t3 := cmpP_of sx sb
  have t4 := cmpP_of sa sb
  have wm := mul_wrap (cmpP_bd (pv2 a) (pv2 x)) (cmpP_bd (pv2 x) (pv2 b))
  unfold onB
  generalize sg (cr (pv2 a) (pv2 b) (pv2 x)) = S at *
  generalize cmpP (pv2 a) (pv2 x) = X at *
  generalize cmpP (pv2 x) (pv2 b) = Y at *
  generalize cmpP (pv2 a) (pv2 b) = Z at *
  by_cases h1 : S = 0
  case neg =>
    have h1' : (S = 0) = False := eq_false h1
    simp only [c30, G0, Nat.reduceAdd]
    simp only [↓R0, R1, simprocAttr, -Int.reduceAbs, pcl_len, pcl_ok, pcl_tk, t1, h1', Bool.false_and, Bool.not_false, decide_false, Fin, isEnd, resL, res1]
    exact ⟨_, rfl, rfl, fun k hk => by simp only [ne_nb hk, if_false]⟩
  have h1' : (S = 0) = True := eq_true h1
  by_cases h2 : 0 ≤ X * Y
  case neg =>
    have h2' : (0 ≤ X * Y) = False := eq_false h2
    have h2'' : (X * Y ≥ 0) = False := eq_false h2
    simp only [c30, G0, Nat.reduceAdd]
    simp only [↓R0, R1, simprocAttr, -Int.reduceAbs, pcl_len, pcl_ok, pcl_tk, t1, t2, t3, wm, h1', h2', h2'', Bool.false_and, Bool.true_and, Bool.not_false, Bool.not_true, decide_false, decide_true, Fin, isEnd, resL, res1]
    exact ⟨_, rfl, rfl, fun k hk => by simp only [ne_nb hk, if_false]⟩
  have h2' : (0 ≤ X * Y) = True := eq_true h2
  have h2'' : (X * Y ≥ 0) = True := eq_true h2
  by_cases h3 : Z = 0
  case neg =>
    have h3' : (Z = 0) = False := eq_false h3
    simp only [c30, G0, Nat.reduceAdd]
    simp only [↓R0, R1, simprocAttr, -Int.reduceAbs, pcl_len, pcl_ok, pcl_tk, t1, t2, t3, t4, wm, dn, h1', h2', h2'', h3', Bool.true_or, Bool.false_and, Bool.true_and, Bool.not_false, Bool.not_true, decide_false, decide_true, Fin, isEnd, resL, res1]
    exact ⟨_, rfl, rfl, fun k hk => by simp only [ne_nb hk, if_false]⟩
  have h3' : (Z = 0) = True := eq_true h3
  simp only [c30, G0, Nat.reduceAdd]
  simp only [↓R0, R1, simprocAttr, -Int.reduceAbs, pcl_len, pcl_ok, pcl_tk, t1, t2, t3, t4, wm, dn, h1', h2', h2'', h3', Bool.false_or, Bool.false_and, Bool.true_and, Bool.not_false, Bool.not_true, decide_false, decide_true, Fin, isEnd, resL, res1]
  exact ⟨_, rfl, rfl, fun k hk => by simp only [ne_nb hk, if_false]⟩
def spMeet : List Value → Option Value
  | [.agg ⟨ca⟩, .agg ⟨cb⟩, .agg ⟨cc⟩, .agg ⟨cd⟩] => match dec2 ca, dec2 cb, dec2 cc, dec2 cd with
    | some a, some b, some c, some d => if pok 1000000 a ∧ pok 1000000 b ∧ pok 1000000 c ∧ pok 1000000 d then some (.bool (meetB (pv2 a) (pv2 b) (pv2 c) (pv2 d))) else none
    | _, _, _, _ => none
  | _ => none
theorem meet_of {a b c d : PQ} (ha : pok 1000000 a) (hb : pok 1000000 b) (hc : pok 1000000 c) (hd : pok 1000000 d) : spMeet [.agg ⟨pcl a⟩, .agg ⟨pcl b⟩, .agg ⟨pcl c⟩, .agg ⟨pcl d⟩] = some (.bool (meetB (pv2 a) (pv2 b) (pv2 c) (pv2 d))) := by
  unfold spMeet
  simp only [pcl_dec]
  exact if_pos ⟨ha, hb, hc, hd⟩
def c37 : ICode :=
  (.seq (.reg [qq 4 (.box 26 6 (.t 0)), qq 5 (.box 26 6 (.t 1)), qq 6 (.box 26 6 (.t 2)), qq 7 (.box 26 6 (.t 3)), qq 8 (.mv (.c (.bool false)))]) (.seq (.seq (.reg [qq 9 (.load true 6 (.t 4)), qq 10 (.load true 6 (.t 5)), qq 11 (.load true 6 (.t 6)), qq 12 (.call 30 [(.t 9), (.t 10), (.t 11)]), qq 13 (.mv (.t 12)), ⟨(some 14), (some (13, false)), (.load true 6 (.t 4))⟩, ⟨(some 15), (some (13, false)), (.load true 6 (.t 5))⟩, ⟨(some 16), (some (13, false)), (.load true 6 (.t 7))⟩, ⟨(some 17), (some (13, false)), (.call 30 [(.t 14), (.t 15), (.t 16)])⟩, qq 18 (.pick (.t 13) (.c (.bool true)) (.t 17)), qq 19 (.mv (.t 18)), ⟨(some 20), (some (19, false)), (.load true 6 (.t 6))⟩, ⟨(some 21), (some (19, false)), (.load true 6 (.t 7))⟩, ⟨(some 22), (some (19, false)), (.load true 6 (.t 4))⟩, ⟨(some 23), (some (19, false)), (.call 30 [(.t 20), (.t 21), (.t 22)])⟩, qq 24 (.pick (.t 19) (.c (.bool true)) (.t 23)), qq 25 (.mv (.t 24)), ⟨(some 26), (some (25, false)), (.load true 6 (.t 6))⟩, ⟨(some 27), (some (25, false)), (.load true 6 (.t 7))⟩, ⟨(some 28), (some (25, false)), (.load true 6 (.t 5))⟩, ⟨(some 29), (some (25, false)), (.call 30 [(.t 26), (.t 27), (.t 28)])⟩, qq 30 (.pick (.t 25) (.c (.bool true)) (.t 29))]) (.cond (.t 30) (.seq (.reg [qq 8 (.mv (.c (.bool true)))]) .ret) .skip)) (.seq (.dreg [qu 31 (.load true 6 (.t 4)), qu 32 (.load true 6 (.t 5)), qu 33 (.load true 6 (.t 6)), qu 34 (.call 21 [(.t 31), (.t 32), (.t 33)]), qv 35 [3] (.load true 6 (.t 4)), qv 36 [3] (.load true 6 (.t 5)), qv 37 [3] (.load true 6 (.t 7)), qu 38 (.call 21 [(.t 35), (.t 36), (.t 37)]), qu 39 (.bin .mul (.t 34) (.t 38)), qu 40 (.bin .lss (.t 39) (ci 0)), qu 41 (.mv (.t 40)), ⟨(some 42), (some (41, true)), [], (.load true 6 (.t 6))⟩, ⟨(some 43), (some (41, true)), [], (.load true 6 (.t 7))⟩, ⟨(some 44), (some (41, true)), [], (.load true 6 (.t 4))⟩, ⟨(some 45), (some (41, true)), [], (.call 21 [(.t 42), (.t 43), (.t 44)])⟩, ⟨(some 46), (some (41, true)), [14], (.load true 6 (.t 6))⟩, ⟨(some 47), (some (41, true)), [14], (.load true 6 (.t 7))⟩, ⟨(some 48), (some (41, true)), [14], (.load true 6 (.t 5))⟩, ⟨(some 49), (some (41, true)), [], (.call 21 [(.t 46), (.t 47), (.t 48)])⟩, ⟨(some 50), (some (41, true)), [], (.bin .mul (.t 45) (.t 49))⟩, ⟨(some 51), (some (41, true)), [], (.bin .lss (.t 50) (ci 0))⟩, qu 52 (.pick (.t 41) (.t 51) (.c (.bool false))), qu 8 (.mv (.t 52))]) .ret)))
theorem tr37 : trFun Tryd.prog 37 = some ⟨53, [.t 8], c37⟩ := by kernel_rfl
set_option maxHeartbeats 4000000 in
theorem ok_meet : SpecOK Tryd.prog 37 (flat spMeet) := by
  refine flat_run (env_cons ok_onP (env_cons ok_turn (env_nil _))) mixed tr37 ?_
  intro args v h N hG
  unfold spMeet at hG
  split at hG
  case h_2 => cases hG
  rename_i ca cb cc cd'
  split at hG
  case h_2 => cases hG
  rename_i a b c d ha hb hc hd
  split at hG
  case isFalse => cases hG
  rename_i hs
  obtain ⟨sa, sb, sc, sd⟩ := hs
  cases hG
  have ea := dec2_pcl ha
  have eb := dec2_pcl hb
  have ec := dec2_pcl hc
  have ed := dec2_pcl hd
  subst ea eb ec ed
  refine ⟨rfl, by simp, ?_⟩
  have o1 := onP_of sa sb sc
  have o2 := onP_of sa sb sd
  have o3 := onP_of sc sd sa
  have o4 := onP_of sc sd sb
  have t1 := turn_of sa sb sc
  have t2 := turn_of sa sb sd
  have t3 := turn_of sc sd sa
  have t4 := turn_of sc sd sb
  have w1 := mul_wrap (sg_bd (cr (pv2 a) (pv2 b) (pv2 c))) (sg_bd (cr (pv2 a) (pv2 b) (pv2 d)))
  have w2 := mul_wrap (sg_bd (cr (pv2 c) (pv2 d) (pv2 a))) (sg_bd (cr (pv2 c) (pv2 d) (pv2 b)))
  unfold meetB
  generalize onB (pv2 a) (pv2 b) (pv2 c) = B1 at *
  generalize onB (pv2 a) (pv2 b) (pv2 d) = B2 at *
  generalize onB (pv2 c) (pv2 d) (pv2 a) = B3 at *
  generalize onB (pv2 c) (pv2 d) (pv2 b) = B4 at *
  generalize sg (cr (pv2 a) (pv2 b) (pv2 c)) = X at *
  generalize sg (cr (pv2 a) (pv2 b) (pv2 d)) = Y at *
  generalize sg (cr (pv2 c) (pv2 d) (pv2 a)) = Z at *
  generalize sg (cr (pv2 c) (pv2 d) (pv2 b)) = W at *
  cases B1 with
  | true =>
    simp only [c37, G0, Nat.reduceAdd]
    simp only [↓R0, R1, simprocAttr, -Int.reduceAbs, pcl_len, pcl_ok, pcl_tk, o1, Bool.true_or, Fin, isEnd, resL, res1]
    exact ⟨_, rfl, rfl, fun k hk => by simp only [ne_nb hk, if_false]⟩
  | false =>
  cases B2 with
  | true =>
    simp only [c37, G0, Nat.reduceAdd]
    simp only [↓R0, R1, simprocAttr, -Int.reduceAbs, pcl_len, pcl_ok, pcl_tk, o1, o2, Bool.true_or, Bool.false_or, Fin, isEnd, resL, res1]
    exact ⟨_, rfl, rfl, fun k hk => by simp only [ne_nb hk, if_false]⟩
  | false =>
  cases B3 with
  | true =>
    simp only [c37, G0, Nat.reduceAdd]
    simp only [↓R0, R1, simprocAttr, -Int.reduceAbs, pcl_len, pcl_ok, pcl_tk, o1, o2, o3, Bool.true_or, Bool.false_or, Fin, isEnd, resL, res1]
    exact ⟨_, rfl, rfl, fun k hk => by simp only [ne_nb hk, if_false]⟩
  | false =>
  cases B4 with
  | true =>
    simp only [c37, G0, Nat.reduceAdd]
    simp only [↓R0, R1, simprocAttr, -Int.reduceAbs, pcl_len, pcl_ok, pcl_tk, o1, o2, o3, o4, Bool.true_or, Bool.false_or, Fin, isEnd, resL, res1]
    exact ⟨_, rfl, rfl, fun k hk => by simp only [ne_nb hk, if_false]⟩
  | false =>
  by_cases h1 : X * Y < 0
  case neg =>
    have h1' : (X * Y < 0) = False := eq_false h1
    simp only [c37, G0, Nat.reduceAdd]
    simp only [↓R0, R1, simprocAttr, -Int.reduceAbs, pcl_len, pcl_ok, pcl_tk, o1, o2, o3, o4, t1, t2, w1, h1', decide_false, Bool.false_or, Bool.false_and, Fin, isEnd, resL, res1]
    exact ⟨_, rfl, rfl, fun k hk => by simp only [ne_nb hk, if_false]⟩
  have h1' : (X * Y < 0) = True := eq_true h1
  simp only [c37, G0, Nat.reduceAdd]
  simp only [↓R0, R1, simprocAttr, -Int.reduceAbs, pcl_len, pcl_ok, pcl_tk, o1, o2, o3, o4, t1, t2, t3, t4, w1, w2, h1', decide_true, Bool.false_or, Bool.true_and, Fin, isEnd, resL, res1]
  exact ⟨_, rfl, rfl, fun k hk => by simp only [ne_nb hk, if_false]⟩
end Go.Eng
end
section
set_option linter.unusedVariables false
set_option linter.unusedSimpArgs false
set_option linter.unusedSectionVars false
namespace Go.Eng
def ExtL (N : Nat) (h hp : Heap) : Prop := ∀ k, k < N → hget hp k = hget h k
theorem extL_ge {N M : Nat} (hM : N ≤ M) (j : Nat) (b : Option Blk) (h hp : Heap) : ExtL N h ((M + j, b) :: hp) = ExtL N h hp := by
  unfold ExtL
  refine propext ⟨fun H k hk => ?_, fun H k hk => ?_⟩
  · have := H k hk; simp only [hget, show (M + j = k) = False from eq_false (by omega), if_false] at this; exact this
  · simp only [hget, show (M + j = k) = False from eq_false (by omega), if_false]; exact H k hk
theorem newHL1 (v e s c) (σ : Nat → Nat) : newH ⟨1, v, e, s, c⟩ σ 1 = [(σ 0, some ⟨e 0, s 0, false, c σ 0⟩)] := rfl
end Go.Eng
end
section
set_option linter.unusedVariables false
set_option linter.unusedSimpArgs false
set_option linter.unusedSectionVars false
set_option maxRecDepth 20000
namespace Go.Eng
open Go Go.Proofs Go.IntWalk
def spAt2 : List Value → Heap → Option Value
  | [.int .i64 i, .pointer (some ⟨k1, 0, none⟩), .pointer (some ⟨k2, 0, none⟩)], h => match hget h k1, hget h k2 with
    | some ⟨_, _, _, [sl]⟩, some ⟨_, _, _, [.int .i64 n]⟩ => match decPts h sl with
      | some l => if 0 ≤ i ∧ n = l.length ∧ 0 < l.length then some (.agg ⟨pcl (pqAt l (i.toNat % l.length))⟩) else none
      | none => none
    | _, _ => none
  | _, _ => none
theorem at2_of {h : Heap} {k1 k2 j : Nat} {e s e' s' : Nat} {x x' : Bool} {sl : Value} {l : List PQ} (h1 : hget h k1 = some ⟨e, s, x, [sl]⟩) (h2 : hget h k2 = some ⟨e', s', x', [.int .i64 l.length]⟩) (hx : decPts h sl = some l) (h0 : 0 < l.length) :
    spAt2 [.int .i64 (j : Nat), .pointer (some ⟨k1, 0, none⟩), .pointer (some ⟨k2, 0, none⟩)] h = some (.agg ⟨pcl (pqAt l (j % l.length))⟩) := by
  unfold spAt2
  simp only [h1, h2, hx, Int.toNat_natCast]
  exact if_pos ⟨by omega, trivial, h0⟩
def c36 : ICode :=
  (.seq (.reg [qq 4 (.alloc 26 6 [(.bool false), e0, e0, (.bool false), e0, e0])]) (.seq (.dreg [qu 5 (.load false 1 (.t 1)), qu 6 (.mv (.t 0)), qu 7 (.load false 1 (.t 2)), qu 8 (.bin .rem (.t 6) (.t 7)), qu 9 (.ixsl 6 (.t 5) (.t 8)), qu 10 (.load true 6 (.t 9)), qm (.store 6 (.t 4) (.t 10))]) .ret))
theorem tr36 : trFun Tryd.prog 36 = some ⟨11, [.cell 4 true 6], c36⟩ := by kernel_rfl
set_option maxHeartbeats 4000000 in
theorem ok_at2 : SpecOK Tryd.prog 36 (rdS spAt2) := by
  refine rd_run (env_nil _) mixed tr36 ?_ ?_
  · intro args h h' v hle e
    unfold spAt2 at e ⊢
    split at e
    · split at e
      · rename_i h1 h2
        split at e
        · rename_i l hb
          simp only [hle _ _ h1, hle _ _ h2, decPts_mono hle hb]; exact e
        · cases e
      · cases e
    · cases e
  intro args v h N hG hN
  unfold spAt2 at hG
  split at hG
  case h_2 => cases hG
  rename_i i k1 k2
  split at hG
  case h_2 => cases hG
  rename_i e s x sl e' s' x' n h1 h2
  split at hG
  case h_2 => cases hG
  rename_i l hx
  split at hG
  case isFalse => cases hG
  rename_i hs
  obtain ⟨i0, en, l0⟩ := hs
  subst en
  obtain ⟨i, rfl⟩ := Int.eq_ofNat_of_zero_le i0
  rw [Int.toNat_natCast] at hG
  cases hG
  obtain ⟨a, c, rfl⟩ := decPts_sl hx
  refine ⟨rfl, by simp, ?_⟩
  have hm : i % l.length < l.length := Nat.mod_lt _ l0
  obtain ⟨k, off, blk, rfl, hb, q1, q2⟩ := pts_at hx hm
  have n1 := hN _ _ h1
  have n2 := hN _ _ h2
  have n3 := hN _ _ hb
  have ne1 : ∀ j, (N + j = k1) = False := fun j => eq_false (by omega)
  have ne2 : ∀ j, (N + j = k2) = False := fun j => eq_false (by omega)
  have ne3 : ∀ j, (N + j = k) = False := fun j => eq_false (by omega)
  have tm : Int.tmod (i : Int) (l.length : Int) = ((i % l.length : Nat) : Int) := rfl
  have z1 : ((l.length : Int) = 0) = False := eq_false (by omega)
  have z2 : (l.length = 0) = False := eq_false (by omega)
  have hm' : (((i % l.length : Nat) : Int) < (l.length : Int)) = True := eq_true (by omega)
  generalize pqAt l (i % l.length) = P at *
  generalize i % l.length = m at *
  simp only [c36, G0, Nat.reduceAdd]
  simp only [↓R0, R1, simprocAttr, -Int.reduceAbs, ne1, ne2, ne3, h1, h2, hb, tm, z1, z2, hm, hm', q1, q2, pcl_len, pcl_ok, pcl_tk, pp_st, Fin, isEnd, resL, res1]
  exact ⟨_, rfl, rfl, fun k hk => by simp only [ne_nb hk, if_false]⟩
def prG (L : List P2) (i : Nat) : Prop := cmpP (vt L i) (vt L (i + 1)) ≠ 0 ∧ onB (vt L i) (vt L (i + 1)) (vt L (i + 2)) = false ∧ onB (vt L (i + 1)) (vt L (i + 2)) (vt L i) = false ∧
  ∀ k, k < i + L.length - 1 → i + 2 ≤ k → meetB (vt L i) (vt L (i + 1)) (vt L k) (vt L (k + 1)) = false
def ptsOK (l : List PQ) : Prop := l.length ≤ 1000 ∧ ∀ p ∈ l, pok 1000000 p
instance {l : List PQ} : Decidable (ptsOK l) := by unfold ptsOK; infer_instance
theorem ptsOK.at {l : List PQ} (h : ptsOK l) {i : Nat} (hi : 0 < l.length) : pok 1000000 (pqAt l (i % l.length)) := h.2 _ (pqAt_mem (Nat.mod_lt _ hi))
def spProf : List Value → Heap → Option Value
  | [sl], h => match decPts h sl with
    | some l => if ptsOK l then some (.bool (decide (profP (pvs l)))) else none
    | none => none
  | _, _ => none
theorem prof_of {h : Heap} {sl : Value} {l : List PQ} (hx : decPts h sl = some l) (hs : ptsOK l) : spProf [sl] h = some (.bool (decide (profP (pvs l)))) := by
  unfold spProf
  simp only [hx]
  exact if_pos hs
def c20 : ICode :=
  (.seq (.reg [qq 1 (.box 22 1 (.t 0)), qq 2 (.mv (.c (.bool false)))]) (.seq (.reg [qq 9 (.load false 1 (.t 1)), qq 10 (.lensl (.t 9)), qq 3 (.alloc 3 1 [(.int .i64 0)]), qn (.store 1 (.t 3) (.t 10))]) (.seq (.seq (.reg [qq 11 (.load false 1 (.t 3)), qq 12 (.bin .lss (.t 11) (ci 3))]) (.cond (.t 12) (.seq (.reg [qq 2 (.mv (.c (.bool false)))]) .ret) .skip)) (.seq (.reg [qq 13 (.mkfn 36 [(.t 1), (.t 3)]), qq 4 (.mv (.t 13))]) (.seq (.seq (.reg [qq 14 (.load false 1 (.t 1)), qq 15 (.lensl (.t 14)), qq 16 (.mv (ci 0))]) (.block 0 (.loop (.seq (.reg [qq 17 (.bin .lss (.t 16) (.t 15))]) (.seq (.cond (.t 17) .skip (.exit 0)) (.seq (.block 1 (.seq (.reg [qq 18 (.mv (.t 16)), qq 5 (.mv (.t 18))]) (.seq (.reg [qq 19 (.mv (.t 4)), qq 20 (.mv (.t 5)), qq 21 (.callv (.t 19) [(.t 20)]), qq 22 (.mv (.t 4)), qq 23 (.mv (.t 5)), qq 24 (.bin .add (.t 23) (ci 1)), qq 25 (.callv (.t 22) [(.t 24)]), qq 6 (.alloc 26 6 [(.bool false), e0, e0, (.bool false), e0, e0]), qq 7 (.alloc 26 6 [(.bool false), e0, e0, (.bool false), e0, e0]), qn (.store 6 (.t 6) (.t 21)), qn (.store 6 (.t 7) (.t 25))]) (.seq (.seq (.dreg [qu 26 (.load true 6 (.t 6)), qu 27 (.load true 6 (.t 7)), qu 28 (.call 24 [(.t 26), (.t 27)]), qu 29 (.bin .eql (.t 28) (ci 0)), qu 30 (.mv (.t 29)), ⟨(some 31), (some (30, false)), [], (.load true 6 (.t 6))⟩, ⟨(some 32), (some (30, false)), [], (.load true 6 (.t 7))⟩, ⟨(some 33), (some (30, false)), [], (.mv (.t 4))⟩, ⟨(some 34), (some (30, false)), [], (.mv (.t 5))⟩, ⟨(some 35), (some (30, false)), [], (.bin .add (.t 34) (ci 2))⟩, ⟨(some 36), (some (30, false)), [], (.callv (.t 33) [(.t 35)])⟩, ⟨(some 37), (some (30, false)), [], (.call 30 [(.t 31), (.t 32), (.t 36)])⟩, qu 38 (.pick (.t 30) (.c (.bool true)) (.t 37)), qu 39 (.mv (.t 38)), ⟨(some 40), (some (39, false)), [], (.load true 6 (.t 7))⟩, ⟨(some 41), (some (39, false)), [], (.mv (.t 4))⟩, ⟨(some 42), (some (39, false)), [], (.mv (.t 5))⟩, ⟨(some 43), (some (39, false)), [], (.bin .add (.t 42) (ci 2))⟩, ⟨(some 44), (some (39, false)), [], (.callv (.t 41) [(.t 43)])⟩, ⟨(some 45), (some (39, false)), [18], (.load true 6 (.t 6))⟩, ⟨(some 46), (some (39, false)), [], (.call 30 [(.t 40), (.t 44), (.t 45)])⟩, qu 47 (.pick (.t 39) (.c (.bool true)) (.t 46))]) (.cond (.t 47) (.seq (.reg [qq 2 (.mv (.c (.bool false)))]) .ret) .skip)) (.seq (.reg [qq 48 (.mv (.t 5)), qq 49 (.bin .add (.t 48) (ci 2)), qq 8 (.mv (.t 49))]) (.block 2 (.loop (.seq (.seq (.reg [qq 50 (.mv (.t 8)), qq 51 (.mv (.t 5)), qq 52 (.load false 1 (.t 3)), qq 53 (.bin .add (.t 51) (.t 52)), qq 54 (.bin .sub (.t 53) (ci 1)), qq 55 (.bin .lss (.t 50) (.t 54))]) (.cond (.t 55) .skip (.exit 2))) (.seq (.block 3 (.seq (.dreg [qu 58 (.load true 6 (.t 6)), qu 59 (.load true 6 (.t 7)), qu 60 (.mv (.t 4)), qu 61 (.mv (.t 8)), qu 62 (.callv (.t 60) [(.t 61)]), qu 63 (.mv (.t 4)), qu 64 (.mv (.t 8)), qu 65 (.bin .add (.t 64) (ci 1)), qu 66 (.callv (.t 63) [(.t 65)]), qu 67 (.call 37 [(.t 58), (.t 59), (.t 62), (.t 66)])]) (.cond (.t 67) (.seq (.reg [qq 2 (.mv (.c (.bool false)))]) .ret) .skip))) (.reg [qq 56 (.mv (.t 8)), qq 57 (.bin .add (.t 56) (ci 1)), qq 8 (.mv (.t 57))])))))))))) (.reg [qq 68 (.bin .add (.t 16) (ci 1)), qq 16 (.mv (.t 68))]))))))) (.seq (.reg [qq 2 (.mv (.c (.bool true)))]) .ret))))))
theorem tr20 : trFun Tryd.prog 20 = some ⟨69, [.t 2], c20⟩ := by kernel_rfl
set_option maxHeartbeats 16000000 in
theorem ok_prof : SpecOK Tryd.prog 20 (rdS spProf) := by
  refine rd_run (env_cons ok_at2 (env_cons ok_cmpP (env_cons ok_onP (env_cons ok_meet (env_nil _))))) mixed tr20 ?_ ?_
  · intro args h h' v hle e
    unfold spProf at e ⊢
    split at e
    · split at e
      · rename_i l hb
        simp only [decPts_mono hle hb]; exact e
      · cases e
    · cases e
  intro args v h N hG hN
  unfold spProf at hG
  split at hG
  case h_2 => cases hG
  rename_i sl
  split at hG
  case h_2 => cases hG
  rename_i l hx
  split at hG
  case isFalse => cases hG
  rename_i hs
  cases hG
  obtain ⟨a, cc, rfl⟩ := decPts_sl hx
  refine ⟨rfl, by simp, ?_⟩
  have l1000 := hs.1
  have nbN : ∀ q, q < N → ∀ j, (N + j = q) = False := fun q hq j => eq_false (by omega)
  have hL : (pvs l).length = l.length := pvs_len l
  by_cases n3 : l.length < 3
  · have n3' : ((l.length : Int) < 3) = True := eq_true (by omega)
    have ev : decide (profP (pvs l)) = false := decide_eq_false fun h => by have := h.1; omega
    rw [ev]
    simp only [c20, G0, Nat.reduceAdd]
    simp only [↓R0, R1, simprocAttr, -Int.reduceAbs, n3', Fin, isEnd, resL, res1]
    exact ⟨_, rfl, rfl, fun k hk => by simp only [ne_nb hk, if_false]⟩
  have n3' : ((l.length : Int) < 3) = False := eq_false (by omega)
  have l0 : 0 < l.length := by omega
  have g10 : (N + 1 = N + 0) = False := eq_false (by omega)
  simp only [c20, G0, Nat.reduceAdd]
  simp only [↓R0, R1, simprocAttr, -Int.reduceAbs, n3']
  refine lp_parts (fun c tm hp nx => ∃ (i M : Nat), c + i = l.length ∧ tmget tm 1 = .pointer (some ⟨N + 0, 0, none⟩) ∧ tmget tm 3 = .pointer (some ⟨N + 1, 0, none⟩) ∧ tmget tm 4 = .func (.func 36) #[] ⟨[.pointer (some ⟨N + 0, 0, none⟩), .pointer (some ⟨N + 1, 0, none⟩)]⟩ ∧ tmget tm 14 = .slice a l.length cc ∧ tmget tm 15 = .int .i64 l.length ∧ tmget tm 16 = .int .i64 (i : Nat) ∧
      hget hp (N + 0) = some ⟨22, 1, true, [.slice a l.length cc]⟩ ∧ hget hp (N + 1) = some ⟨3, 1, true, [.int .i64 l.length]⟩ ∧ (∀ j, j < i → prG (pvs l) j) ∧ ExtL N h hp ∧ N + 2 ≤ M ∧ nx = M + 0) ?_ l.length
    ⟨0, N + 2, by omega, ?_, ?_, ?_, ?_, ?_, ?_, ?_, ?_, fun j hj => absurd hj (Nat.not_lt_zero j), ?_, Nat.le_refl _, rfl⟩
  rotate_left
  all_goals first | (simp only [↓R0, R1, simprocAttr, -Int.reduceAbs]; done) | (simp only [↓R0, R1, simprocAttr, -Int.reduceAbs]; rfl) | skip
  · intro q hq
    have nb := nbN q hq
    simp only [↓R0, R1, simprocAttr, -Int.reduceAbs, nb]
  rintro c tm hp nx ⟨i, M, hc, t1, t3, t4, t14, t15, t16, b0, b1, hall, hh, hM, hnx⟩
  rw [hnx]
  clear hnx nx
  have nbq : ∀ q, q < N → ∀ d, (M + d = q) = False := fun q hq d => eq_false (by omega)
  by_cases c1 : i < l.length
  case neg =>
    have e : i = l.length := by omega
    subst e
    have c1' : ((l.length : Int) < (l.length : Int)) = False := eq_false (by omega)
    have ev : decide (profP (pvs l)) = true := decide_eq_true ⟨by omega, fun j hj => hall j (by omega)⟩
    rw [ev]
    simp only [↓R0, R1, simprocAttr, -Int.reduceAbs, t1, t3, t4, t14, t15, t16, c1', Fin, isEnd, resL, res1]
    exact ⟨_, rfl, rfl, hh⟩
  have c1' : ((i : Int) < (l.length : Int)) = True := eq_true (by omega)
  have w1 : IntKind.i64.wrap ((i : Int) + 1) = ((i + 1 : Nat) : Int) := by rw [i64_in _ (by omega)]; omega
  have w2 : IntKind.i64.wrap ((i : Int) + 2) = ((i + 2 : Nat) : Int) := by rw [i64_in _ (by omega)]; omega
  have at' : ∀ (j : Nat) {hp' : Heap}, hget hp' (N + 0) = some ⟨22, 1, true, [.slice a l.length cc]⟩ → hget hp' (N + 1) = some ⟨3, 1, true, [.int .i64 l.length]⟩ → ExtL N h hp' →
      spAt2 [.int .i64 (j : Nat), .pointer (some ⟨N + 0, 0, none⟩), .pointer (some ⟨N + 1, 0, none⟩)] hp' = some (.agg ⟨pcl (pqAt l (j % l.length))⟩) := fun j hp' h1 h2 he => at2_of h1 h2 (ext_pts hN hx he) l0
  have ax0 := fun {hp'} => at' i (hp' := hp')
  have ax1 := fun {hp'} => at' (i + 1) (hp' := hp')
  have ax2 := fun {hp'} => at' (i + 2) (hp' := hp')
  have sA := hs.at (i := i) l0
  have sB := hs.at (i := i + 1) l0
  have sC := hs.at (i := i + 2) l0
  have vA := pvs_vt (i := i) l0
  have vB := pvs_vt (i := i + 1) l0
  have vC := pvs_vt (i := i + 2) l0
  have o1 := cmpP_of sA sB
  have o2 := onP_of sA sB sC
  have o3 := onP_of sB sC sA
  rw [← vA, ← vB] at o1
  rw [← vA, ← vB, ← vC] at o2 o3
  have m0 : ∀ d, (M + d = N + 0) = False := fun d => eq_false (by omega)
  have m1 : ∀ d, (M + d = N + 1) = False := fun d => eq_false (by omega)
  have m2 : ∀ d, (M + d = N) = False := fun d => eq_false (by omega)
  have xs := fun j b hp' => extL_ge (show N ≤ M by omega) j b h hp'
  have xh : ExtL N h hp = True := eq_true hh
  generalize hA : pqAt l (i % l.length) = A at *
  generalize hB : pqAt l ((i + 1) % l.length) = B at *
  generalize hC : pqAt l ((i + 2) % l.length) = C at *
  by_cases z1 : cmpP (vt (pvs l) i) (vt (pvs l) (i + 1)) = 0
  · have z1' := eq_true z1
    have ev : decide (profP (pvs l)) = false := decide_eq_false fun h => (h.2 i (by omega)).1 z1
    rw [ev]
    simp only [↓R0, R1, simprocAttr, -Int.reduceAbs, rdS, callF, t1, t3, t4, t14, t15, t16, c1', b0, b1, w1, w2, ax0, ax1, pcl_len, pcl_ok, pcl_tk, pp_st, o1, z1', m0, m1, m2, xs, xh, Fin, isEnd, resL, res1]
    refine ⟨_, rfl, rfl, fun q hq => ?_⟩
    have nb := nbq q hq
    simp only [↓R0, R1, simprocAttr, -Int.reduceAbs, nb]
    exact hh q hq
  have z1' := eq_false z1
  cases z2 : onB (vt (pvs l) i) (vt (pvs l) (i + 1)) (vt (pvs l) (i + 2)) with
  | true =>
    have ev : decide (profP (pvs l)) = false := decide_eq_false fun h => by have := (h.2 i (by omega)).2.1; rw [z2] at this; cases this
    rw [ev]
    rw [z2] at o2
    simp only [↓R0, R1, simprocAttr, -Int.reduceAbs, rdS, callF, t1, t3, t4, t14, t15, t16, c1', b0, b1, w1, w2, ax0, ax1, ax2, pcl_len, pcl_ok, pcl_tk, pp_st, o1, z1', o2, m0, m1, m2, xs, xh, Fin, isEnd, resL, res1]
    refine ⟨_, rfl, rfl, fun q hq => ?_⟩
    have nb := nbq q hq
    simp only [↓R0, R1, simprocAttr, -Int.reduceAbs, nb]
    exact hh q hq
  | false =>
  rw [z2] at o2
  cases z3 : onB (vt (pvs l) (i + 1)) (vt (pvs l) (i + 2)) (vt (pvs l) i) with
  | true =>
    have ev : decide (profP (pvs l)) = false := decide_eq_false fun h => by have := (h.2 i (by omega)).2.2.1; rw [z3] at this; cases this
    rw [ev]
    rw [z3] at o3
    simp only [↓R0, R1, simprocAttr, -Int.reduceAbs, rdS, callF, t1, t3, t4, t14, t15, t16, c1', b0, b1, w1, w2, ax0, ax1, ax2, pcl_len, pcl_ok, pcl_tk, pp_st, o1, z1', o2, o3, m0, m1, m2, xs, xh, Fin, isEnd, resL, res1]
    refine ⟨_, rfl, rfl, fun q hq => ?_⟩
    have nb := nbq q hq
    simp only [↓R0, R1, simprocAttr, -Int.reduceAbs, nb]
    exact hh q hq
  | false =>
  rw [z3] at o3
  simp only [↓R0, R1, simprocAttr, -Int.reduceAbs, rdS, callF, t1, t3, t4, t14, t15, t16, c1', b0, b1, w1, w2, ax0, ax1, ax2, pcl_len, pcl_ok, pcl_tk, pp_st, o1, z1', o2, o3, m0, m1, m2, xs, xh]
  refine lp_parts (fun d tm hp2 nx => ∃ (k M2 : Nat), d + k = i + l.length ∧ i + 2 ≤ k ∧ tmget tm 1 = .pointer (some ⟨N + 0, 0, none⟩) ∧ tmget tm 3 = .pointer (some ⟨N + 1, 0, none⟩) ∧ tmget tm 4 = .func (.func 36) #[] ⟨[.pointer (some ⟨N + 0, 0, none⟩), .pointer (some ⟨N + 1, 0, none⟩)]⟩ ∧ tmget tm 14 = .slice a l.length cc ∧ tmget tm 15 = .int .i64 l.length ∧ tmget tm 16 = .int .i64 (i : Nat) ∧
      tmget tm 5 = .int .i64 (i : Nat) ∧ tmget tm 6 = .pointer (some ⟨M + 0, 0, none⟩) ∧ tmget tm 7 = .pointer (some ⟨M + 1, 0, none⟩) ∧ tmget tm 8 = .int .i64 (k : Nat) ∧
      hget hp2 (N + 0) = some ⟨22, 1, true, [.slice a l.length cc]⟩ ∧ hget hp2 (N + 1) = some ⟨3, 1, true, [.int .i64 l.length]⟩ ∧ hget hp2 (M + 0) = some ⟨26, 6, true, pcl A⟩ ∧ hget hp2 (M + 1) = some ⟨26, 6, true, pcl B⟩ ∧
      (∀ j, j < k → i + 2 ≤ j → j < i + l.length - 1 → meetB (vt (pvs l) i) (vt (pvs l) (i + 1)) (vt (pvs l) j) (vt (pvs l) (j + 1)) = false) ∧ ExtL N h hp2 ∧ M + 2 ≤ M2 ∧ nx = M2 + 0) ?_ (l.length - 2)
    ⟨i + 2, M + 2, by omega, Nat.le_refl _, ?_, ?_, ?_, ?_, ?_, ?_, ?_, ?_, ?_, ?_, ?_, ?_, ?_, ?_, fun j h1 h2 => absurd h1 (by omega), ?_, Nat.le_refl _, rfl⟩
  rotate_left
  all_goals first | (simp only [↓R0, R1, simprocAttr, -Int.reduceAbs, t1, t3, t4, t14, t15, t16, m0, m1, m2, b0, b1]; done) | (simp only [↓R0, R1, simprocAttr, -Int.reduceAbs, t1, t3, t4, t14, t15, t16, m0, m1, m2, b0, b1]; rfl) | skip
  · intro q hq
    have nb := nbq q hq
    simp only [↓R0, R1, simprocAttr, -Int.reduceAbs, nb]
    exact hh q hq
  clear t1 t3 t4 t14 t15 t16 b0 b1 xs xh m0 m1 m2
  rintro d tm hp2 nx ⟨k, M2, hd, hk2, t1, t3, t4, t14, t15, t16, t5, t6, t7, t8, b0, b1, bA, bB, hm, hh2, hM2, hnx⟩
  rw [hnx]
  clear hnx nx
  have nbq2 : ∀ q, q < N → ∀ d, (M2 + d = q) = False := fun q hq d => eq_false (by omega)
  have wi : IntKind.i64.wrap ((i : Int) + (l.length : Int)) = ((i + l.length : Nat) : Int) := by rw [i64_in _ (by omega)]; omega
  have wj : IntKind.i64.wrap (((i + l.length : Nat) : Int) - 1) = ((i + l.length - 1 : Nat) : Int) := by rw [i64_in _ (by omega)]; omega
  by_cases d1 : k < i + l.length - 1
  case neg =>
    have d1' : ((k : Int) < ((i + l.length - 1 : Nat) : Int)) = False := eq_false (by omega)
    have d1'' : (k < i + l.length - 1) = False := eq_false d1
    simp only [↓R0, R1, simprocAttr, -Int.reduceAbs, t1, t3, t4, t14, t15, t16, t5, t6, t7, t8, b0, b1, wi, wj, d1', d1'', w1]
    refine ⟨c - 1, by omega, i + 1, M2, by omega, rfl, fun j hj => ?_, hh2, by omega, rfl⟩
    by_cases e : j = i
    · rw [e]
      refine ⟨z1, z2, z3, fun k' h1 h2 => hm k' (by omega) h2 (by omega)⟩
    · exact hall j (by omega)
  have d1' : ((k : Int) < ((i + l.length - 1 : Nat) : Int)) = True := eq_true (by omega)
  have d1'' : (k < i + l.length - 1) = True := eq_true d1
  have wk : IntKind.i64.wrap ((k : Int) + 1) = ((k + 1 : Nat) : Int) := by rw [i64_in _ (by omega)]; omega
  have ay0 := fun {hp'} => at' k (hp' := hp')
  have ay1 := fun {hp'} => at' (k + 1) (hp' := hp')
  have sD := hs.at (i := k) l0
  have sE := hs.at (i := k + 1) l0
  have vD := pvs_vt (i := k) l0
  have vE := pvs_vt (i := k + 1) l0
  have o4 := meet_of sA sB sD sE
  rw [← vA, ← vB, ← vD, ← vE] at o4
  have xh : ExtL N h hp2 = True := eq_true hh2
  generalize hD : pqAt l (k % l.length) = D at *
  generalize hE : pqAt l ((k + 1) % l.length) = E at *
  cases z4 : meetB (vt (pvs l) i) (vt (pvs l) (i + 1)) (vt (pvs l) k) (vt (pvs l) (k + 1)) with
  | true =>
    have ev : decide (profP (pvs l)) = false := decide_eq_false fun h => by have := (h.2 i (by omega)).2.2.2 k (by omega) hk2; rw [z4] at this; cases this
    rw [ev]
    rw [z4] at o4
    simp only [↓R0, R1, simprocAttr, -Int.reduceAbs, rdS, callF, t1, t3, t4, t14, t15, t16, t5, t6, t7, t8, b0, b1, bA, bB, wi, wj, d1', d1'', wk, ay0, ay1, pcl_len, pcl_ok, pcl_tk, o4, xh, Fin, isEnd, resL, res1]
    exact ⟨_, rfl, rfl, hh2⟩
  | false =>
    rw [z4] at o4
    simp only [↓R0, R1, simprocAttr, -Int.reduceAbs, rdS, callF, t1, t3, t4, t14, t15, t16, t5, t6, t7, t8, b0, b1, bA, bB, wi, wj, d1', d1'', wk, ay0, ay1, pcl_len, pcl_ok, pcl_tk, o4, xh]
    refine ⟨d - 1, by omega, k + 1, M2, by omega, by omega, rfl, fun j h1 h2 h3 => ?_, by omega, rfl⟩
    by_cases e : j = k
    · rw [e]; exact z4
    · exact hm j (by omega) h2 h3
end Go.Eng
end
