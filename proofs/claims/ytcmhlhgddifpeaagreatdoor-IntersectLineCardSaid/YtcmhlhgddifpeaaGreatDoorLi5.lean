/-
  A part of the proof: the machine, the contracts of the functions and the plain laws, merged from smaller texts.
-/
import Derived.Test.YtcmhlhgddifpeaaGreatDoorLi4
section
set_option linter.unusedVariables false
set_option linter.unusedSimpArgs false
set_option linter.unusedSectionVars false
set_option maxRecDepth 20000
namespace Go.Eng
open Go Go.Proofs Go.IntWalk
theorem shows_new {h : Heap} {N a kb off len cap : Nat} {b : Option Blk} (hk : kb < N) : shows ((N + a, b) :: h) (.slice (some ⟨kb, off, none⟩) len cap) = shows h (.slice (some ⟨kb, off, none⟩) len cap) := by
  simp only [shows, hget, if_neg (show ¬ N + a = kb by omega)]
def spLong : List Value → Heap → Option ((Nat → Nat → Value) × Blk × Blk)
  | [vu, vd], h => match shows h vu, shows h vd with
    | some us, some ds => if uok us = true ∧ uok ds = true ∧ 2 ≤ ds.length ∧ ds.length ≤ us.length ∧ us.length ≤ 8589934592 ∧ 4294967296 ^ (ds.length - 1) ≤ ud ds then
        some (fun a b => .tuple ⟨[.slice (some ⟨a, 0, none⟩) (us.length + 1 - ds.length) (us.length + 1 - ds.length), .slice (some ⟨b, 0, none⟩) ds.length ds.length]⟩,
          ⟨118, 1, false, tb (us.length + 1 - ds.length) (lm (ud us / ud ds))⟩, ⟨118, 1, false, tb ds.length (lm (ud us % ud ds))⟩) else none
    | _, _ => none
  | _, _ => none
def c114 : ICode :=
  (.seq (.reg [⟨(some 4), none, (.mv (.c (.slice none 0 0)))⟩, ⟨(some 5), none, (.mv (.c (.slice none 0 0)))⟩])
  (.seq (.reg [⟨(some 15), none, (.mv (.t 1))⟩, ⟨(some 16), none, (.mv (.t 1))⟩, ⟨(some 17), none, (.lensl (.t 16))⟩, ⟨(some 18), none, (.bin .sub (.t 17) (.c (.int .i64 1)))⟩, ⟨(some 19), none, (.ixsl 1 (.t 15) (.t 18))⟩, ⟨(some 20), none, (.load false 1 (.t 19))⟩, ⟨(some 21), none, (.call 135 [(.t 20)])⟩, ⟨(some 6), none, (.mv (.t 21))⟩])
  (.seq (.reg [⟨(some 22), none, (.mv (.t 1))⟩, ⟨(some 23), none, (.mv (.t 6))⟩, ⟨(some 24), none, (.call 136 [(.t 22), (.t 23)])⟩, ⟨(some 25), none, (.mv (.t 1))⟩, ⟨(some 26), none, (.lensl (.t 25))⟩, ⟨(some 27), none, (.slsl 1 (.t 24) none (some (.t 26)))⟩, ⟨(some 1), none, (.mv (.t 27))⟩])
  (.seq (.reg [⟨(some 28), none, (.mv (.t 0))⟩, ⟨(some 29), none, (.mv (.t 6))⟩, ⟨(some 30), none, (.call 136 [(.t 28), (.t 29)])⟩, ⟨(some 0), none, (.mv (.t 30))⟩])
  (.seq (.reg [⟨(some 31), none, (.mv (.t 1))⟩, ⟨(some 32), none, (.lensl (.t 31))⟩, ⟨(some 7), none, (.mv (.t 32))⟩])
  (.seq (.reg [⟨(some 33), none, (.mv (.t 1))⟩, ⟨(some 34), none, (.mv (.t 7))⟩, ⟨(some 35), none, (.bin .sub (.t 34) (.c (.int .i64 1)))⟩, ⟨(some 36), none, (.ixsl 1 (.t 33) (.t 35))⟩, ⟨(some 37), none, (.load false 1 (.t 36))⟩, ⟨(some 8), none, (.mv (.t 37))⟩])
  (.seq (.reg [⟨(some 38), none, (.mv (.t 0))⟩, ⟨(some 39), none, (.lensl (.t 38))⟩, ⟨(some 40), none, (.mv (.t 7))⟩, ⟨(some 41), none, (.bin .sub (.t 39) (.t 40))⟩, ⟨(some 42), none, (.mxmn true (.t 41) (.c (.int .i64 0)))⟩, ⟨(some 43), none, (.mkslice 118 1 4 [(.int .u32 0)] (.t 42) (.t 42))⟩, ⟨(some 9), none, (.mv (.t 43))⟩])
  (.seq (.seq (.reg [⟨(some 44), none, (.mv (.t 9))⟩, ⟨(some 45), none, (.lensl (.t 44))⟩, ⟨(some 46), none, (.mv (.c (.int .i64 0)))⟩])
  (.block 0 (.loop (.seq (.reg [⟨(some 47), none, (.bin .lss (.t 46) (.t 45))⟩])
  (.seq (.cond (.t 47)
  .skip
  (.exit 0))
  (.seq (.block 1 (.seq (.reg [⟨(some 48), none, (.mv (.t 46))⟩, ⟨(some 10), none, (.mv (.t 48))⟩])
  (.seq (.reg [⟨(some 49), none, (.mv (.t 9))⟩, ⟨(some 50), none, (.lensl (.t 49))⟩, ⟨(some 51), none, (.bin .sub (.t 50) (.c (.int .i64 1)))⟩, ⟨(some 52), none, (.mv (.t 10))⟩, ⟨(some 53), none, (.bin .sub (.t 51) (.t 52))⟩, ⟨(some 11), none, (.mv (.t 53))⟩])
  (.seq (.dreg [⟨(some 54), none, [], (.mv (.t 0))⟩, ⟨(some 55), none, [], (.mv (.t 11))⟩, ⟨(some 56), none, [], (.mv (.t 7))⟩, ⟨(some 57), none, [], (.bin .add (.t 55) (.t 56))⟩, ⟨(some 58), none, [], (.ixsl 1 (.t 54) (.t 57))⟩, ⟨(some 59), none, [], (.load false 1 (.t 58))⟩, ⟨(some 60), none, [], (.conv .u64 (.t 59))⟩, ⟨(some 61), none, [], (.bin .shl (.t 60) (.c (.int .u64 32)))⟩, ⟨(some 62), none, [], (.mv (.t 0))⟩, ⟨(some 63), none, [], (.mv (.t 11))⟩, ⟨(some 64), none, [], (.mv (.t 7))⟩, ⟨(some 65), none, [], (.bin .add (.t 63) (.t 64))⟩, ⟨(some 66), none, [], (.bin .sub (.t 65) (.c (.int .i64 1)))⟩, ⟨(some 67), none, [], (.ixsl 1 (.t 62) (.t 66))⟩, ⟨(some 68), none, [], (.load false 1 (.t 67))⟩, ⟨(some 69), none, [], (.conv .u64 (.t 68))⟩, ⟨(some 70), none, [], (.bin .or (.t 61) (.t 69))⟩, ⟨(some 12), none, [], (.mv (.t 70))⟩])
  (.seq (.dreg [⟨(some 71), none, [], (.mv (.t 12))⟩, ⟨(some 72), none, [], (.mv (.t 8))⟩, ⟨(some 73), none, [], (.conv .u64 (.t 72))⟩, ⟨(some 74), none, [], (.bin .quo (.t 71) (.t 73))⟩, ⟨(some 75), none, [], (.mv (.t 12))⟩, ⟨(some 76), none, [], (.mv (.t 8))⟩, ⟨(some 77), none, [], (.conv .u64 (.t 76))⟩, ⟨(some 78), none, [], (.bin .rem (.t 75) (.t 77))⟩, ⟨(some 13), none, [], (.mv (.t 74))⟩, ⟨(some 14), none, [], (.mv (.t 78))⟩])
  (.seq (.block 2 (.loop (.seq (.seq (.dreg [⟨(some 79), none, [], (.mv (.t 13))⟩, ⟨(some 80), none, [], (.bin .gtr (.t 79) (.c (.int .u64 4294967295)))⟩, ⟨(some 81), none, [], (.mv (.t 80))⟩, ⟨(some 82), (some (81, false)), [], (.mv (.t 13))⟩, ⟨(some 83), (some (81, false)), [], (.mv (.t 1))⟩, ⟨(some 84), (some (81, false)), [], (.mv (.t 7))⟩, ⟨(some 85), (some (81, false)), [], (.bin .sub (.t 84) (.c (.int .i64 2)))⟩, ⟨(some 86), (some (81, false)), [], (.ixsl 1 (.t 83) (.t 85))⟩, ⟨(some 87), (some (81, false)), [], (.load false 1 (.t 86))⟩, ⟨(some 88), (some (81, false)), [], (.conv .u64 (.t 87))⟩, ⟨(some 89), (some (81, false)), [], (.bin .mul (.t 82) (.t 88))⟩, ⟨(some 90), (some (81, false)), [], (.mv (.t 14))⟩, ⟨(some 91), (some (81, false)), [], (.bin .shl (.t 90) (.c (.int .u64 32)))⟩, ⟨(some 92), (some (81, false)), [], (.mv (.t 0))⟩, ⟨(some 93), (some (81, false)), [], (.mv (.t 11))⟩, ⟨(some 94), (some (81, false)), [], (.mv (.t 7))⟩, ⟨(some 95), (some (81, false)), [], (.bin .add (.t 93) (.t 94))⟩, ⟨(some 96), (some (81, false)), [], (.bin .sub (.t 95) (.c (.int .i64 2)))⟩, ⟨(some 97), (some (81, false)), [], (.ixsl 1 (.t 92) (.t 96))⟩, ⟨(some 98), (some (81, false)), [], (.load false 1 (.t 97))⟩, ⟨(some 99), (some (81, false)), [], (.conv .u64 (.t 98))⟩, ⟨(some 100), (some (81, false)), [], (.bin .or (.t 91) (.t 99))⟩, ⟨(some 101), (some (81, false)), [], (.bin .gtr (.t 89) (.t 100))⟩, ⟨(some 102), none, [], (.pick (.t 81) (.c (.bool true)) (.t 101))⟩])
  (.cond (.t 102)
  .skip
  (.exit 2)))
  (.block 3 (.seq (.reg [⟨(some 103), none, (.mv (.t 13))⟩, ⟨(some 104), none, (.bin .sub (.t 103) (.c (.int .u64 1)))⟩, ⟨(some 105), none, (.mv (.t 14))⟩, ⟨(some 106), none, (.mv (.t 8))⟩, ⟨(some 107), none, (.conv .u64 (.t 106))⟩, ⟨(some 108), none, (.bin .add (.t 105) (.t 107))⟩, ⟨(some 13), none, (.mv (.t 104))⟩, ⟨(some 14), none, (.mv (.t 108))⟩])
  (.seq (.reg [⟨(some 109), none, (.mv (.t 14))⟩, ⟨(some 110), none, (.bin .gtr (.t 109) (.c (.int .u64 4294967295)))⟩])
  (.cond (.t 110)
  (.exit 2)
  .skip)))))))
  (.seq (.seq (.reg [⟨(some 111), none, (.mv (.t 0))⟩, ⟨(some 112), none, (.mv (.t 11))⟩, ⟨(some 113), none, (.mv (.t 11))⟩, ⟨(some 114), none, (.mv (.t 7))⟩, ⟨(some 115), none, (.bin .add (.t 113) (.t 114))⟩, ⟨(some 116), none, (.bin .add (.t 115) (.c (.int .i64 1)))⟩, ⟨(some 117), none, (.slsl 1 (.t 111) (some (.t 112)) (some (.t 116)))⟩, ⟨(some 118), none, (.mv (.t 1))⟩, ⟨(some 119), none, (.mv (.t 13))⟩, ⟨(some 120), none, (.conv .u32 (.t 119))⟩, ⟨(some 121), none, (.call 137 [(.t 117), (.t 118), (.t 120)])⟩])
  (.cond (.t 121)
  (.reg [⟨(some 122), none, (.mv (.t 13))⟩, ⟨(some 123), none, (.bin .sub (.t 122) (.c (.int .u64 1)))⟩, ⟨(some 13), none, (.mv (.t 123))⟩])
  .skip))
  (.reg [⟨(some 124), none, (.mv (.t 9))⟩, ⟨(some 125), none, (.mv (.t 11))⟩, ⟨(some 126), none, (.mv (.t 13))⟩, ⟨(some 127), none, (.conv .u32 (.t 126))⟩, ⟨(some 128), none, (.ixsl 1 (.t 124) (.t 125))⟩, ⟨none, none, (.store 1 (.t 128) (.t 127))⟩]))))))))
  (.reg [⟨(some 129), none, (.bin .add (.t 46) (.c (.int .i64 1)))⟩, ⟨(some 46), none, (.mv (.t 129))⟩])))))))
  (.seq (.reg [⟨(some 130), none, (.mv (.t 9))⟩, ⟨(some 131), none, (.mv (.t 0))⟩, ⟨(some 132), none, (.mv (.t 7))⟩, ⟨(some 133), none, (.slsl 1 (.t 131) none (some (.t 132)))⟩, ⟨(some 134), none, (.mv (.t 6))⟩, ⟨(some 135), none, (.call 138 [(.t 133), (.t 134)])⟩, ⟨(some 4), none, (.mv (.t 130))⟩, ⟨(some 5), none, (.mv (.t 135))⟩])
  .ret)))))))))
theorem tr114 : trFun Tryz.prog 114 = some ⟨136, [.t 4, .t 5], c114⟩ := by kernel_rfl
theorem lm_lt_int (n j : Nat) : ((lm n j : Nat) : Int) < 4294967296 := by have := lm_lt n j; omega
theorem vr2_sl (l1 c1 l2 c2 : Nat) : vr2 fun a b => .tuple ⟨[.slice (some ⟨a, 0, none⟩) l1 c1, .slice (some ⟨b, 0, none⟩) l2 c2]⟩ :=
  fun β i j i' j' h h' => .tup _ _ (.cons _ _ _ _ (.sl i 0 l1 c1 ⟨j, 0, []⟩ h) (.cons _ _ _ _ (.sl i' 0 l2 c2 ⟨j', 0, []⟩ h') .nil))
theorem lz_fits {D p : Nat} (hD : D < 4294967296 ^ (p + 2)) (h1 : 4294967296 ^ (p + 1) ≤ D) : 32 - l32 (lm D (p + 1)) < 32 ∧ D * 2 ^ (32 - l32 (lm D (p + 1))) < 4294967296 ^ (p + 2) := by
  have ht : 1 ≤ lm D (p + 1) := by
    rw [lm_top (j := p + 1) hD]
    exact (Nat.le_div_iff_mul_le (pB _)).2 (by rw [Nat.one_mul]; exact h1)
  have hlt := lm_lt D (p + 1)
  have hp := l32_pos (n := lm D (p + 1)) (by omega) hlt
  have hle := l32_le hlt
  have hl := l32_lt hlt
  refine ⟨by omega, ?_⟩
  have hd : D < (lm D (p + 1) + 1) * 4294967296 ^ (p + 1) := by
    rw [lm_top (j := p + 1) hD, Nat.mul_comm]
    exact Nat.lt_mul_div_succ _ (pB _)
  have h2 : (lm D (p + 1) + 1) * 4294967296 ^ (p + 1) ≤ 2 ^ l32 (lm D (p + 1)) * 4294967296 ^ (p + 1) := Nat.mul_le_mul_right _ hl
  have h3 : D * 2 ^ (32 - l32 (lm D (p + 1))) < 2 ^ l32 (lm D (p + 1)) * 4294967296 ^ (p + 1) * 2 ^ (32 - l32 (lm D (p + 1))) :=
    Nat.mul_lt_mul_of_pos_right (by omega) (Nat.pow_pos (by omega))
  have e : 2 ^ l32 (lm D (p + 1)) * 4294967296 ^ (p + 1) * 2 ^ (32 - l32 (lm D (p + 1))) = 4294967296 ^ (p + 2) := by
    rw [Nat.mul_right_comm, ← Nat.pow_add, show l32 (lm D (p + 1)) + (32 - l32 (lm D (p + 1))) = 32 by omega, show p + 2 = p + 1 + 1 by omega, Nat.pow_succ 4294967296 (p + 1), Nat.mul_comm]
  omega
theorem spLz32_nat {n : Nat} (h : (n : Int) < 4294967296) : spLz32 [.int .u32 (n : Nat)] = some (.int .i64 ((32 - l32 n : Nat) : Int)) := by
  unfold spLz32
  simp only [Int.toNat_natCast]
  rw [if_pos ⟨Int.natCast_nonneg _, h⟩]
theorem lz_all {U D p lu : Nat} (hU : U < 4294967296 ^ lu) (hD : D < 4294967296 ^ (p + 2)) (hD1 : 4294967296 ^ (p + 1) ≤ D) (hmu : p + 2 ≤ lu) :
    32 - l32 (lm D (p + 1)) < 32 ∧ D * 2 ^ (32 - l32 (lm D (p + 1))) < 4294967296 ^ (p + 2) ∧ spLz32 [.int .u32 (lm D (p + 1) : Nat)] = some (.int .i64 ((32 - l32 (lm D (p + 1)) : Nat) : Int)) ∧
    LG (U * 2 ^ (32 - l32 (lm D (p + 1)))) (D * 2 ^ (32 - l32 (lm D (p + 1)))) p (lu + 1 - (p + 2)) (lu + 1) ∧
    U * 2 ^ (32 - l32 (lm D (p + 1))) / (D * 2 ^ (32 - l32 (lm D (p + 1)))) = U / D ∧
    U * 2 ^ (32 - l32 (lm D (p + 1))) % (D * 2 ^ (32 - l32 (lm D (p + 1)))) / 2 ^ (32 - l32 (lm D (p + 1))) = U % D := by
  obtain ⟨hs, hDs⟩ := lz_fits hD hD1
  refine ⟨hs, hDs, ?_, ?_⟩
  · exact spLz32_nat (lm_lt_int _ _)
  generalize 32 - l32 (lm D (p + 1)) = s at *
  have h2 : 0 < 2 ^ s := Nat.pow_pos (by omega)
  refine ⟨⟨hDs, Nat.le_trans hD1 (Nat.le_mul_of_pos_right _ h2), ?_, ?_⟩, Nat.mul_div_mul_right _ _ h2, by rw [Nat.mul_mod_mul_right, Nat.mul_div_cancel _ h2]⟩
  · have h1 : U * 2 ^ s < 4294967296 ^ lu * 2 ^ s := Nat.mul_lt_mul_of_pos_right hU h2
    have h3 : 4294967296 ^ lu * 2 ^ s = 4294967296 ^ (p + 1) * 2 ^ s * 4294967296 ^ (lu + 1 - (p + 2)) := by
      rw [Nat.mul_right_comm, ← Nat.pow_add, show p + 1 + (lu + 1 - (p + 2)) = lu by omega]
    rw [h3] at h1
    exact Nat.lt_of_lt_of_le h1 (Nat.mul_le_mul_right _ (Nat.mul_le_mul_right _ hD1))
  · rw [Nat.pow_succ]
    have : 2 ^ s ≤ 2 ^ 32 := Nat.pow_le_pow_right (by omega) (by omega)
    exact Nat.mul_lt_mul_of_lt_of_le hU this (by omega)
theorem bv_or64 {x c : Nat} (hx : x < 4294967296) (hc : c < 4294967296) : IntKind.u64.wrap ((BitVec.ofInt IntKind.u64.bits ((c * 2 ^ 32 : Nat) : Int) ||| BitVec.ofInt IntKind.u64.bits (x : Int)).toNat : Int) = ((w2 c x : Nat) : Int) := by
  unfold w2
  have h := or_u64 (x := x) (c := c) (s := 32) (by omega) (by omega)
  rw [BitVec.or_comm, h]; omega
set_option maxHeartbeats 4000000 in
theorem nlong_wp {h : Heap} {N ku ou lu cu kd od p cd s dtop Uv Dv K : Nat} {blkd : Blk}
    (hbd : hget h kd = some blkd) (hcell1 : blkd.cells[od + (p + 1)]? = some (.int .u32 (dtop : Nat)))
    (hz : spLz32 [.int .u32 (dtop : Nat)] = some (.int .i64 (s : Nat)))
    (hd : spShift [.slice (some ⟨kd, od, none⟩) (p + 2) cd, .int .i64 (s : Nat)] h = some (fun k => .slice (some ⟨k, 0, none⟩) (p + 2 + 1) (p + 2 + 1), ⟨118, 1, false, tb (p + 2 + 1) (lm Dv)⟩))
    (hu : ∀ x, spShift [.slice (some ⟨ku, ou, none⟩) lu cu, .int .i64 (s : Nat)] ((N + 0, x) :: h) = some (fun k => .slice (some ⟨k, 0, none⟩) (lu + 1) (lu + 1), ⟨118, 1, false, tb (lu + 1) (lm Uv)⟩))
    (hs : s < 32) (g : LG Uv Dv p K (lu + 1)) (hK : K + (p + 2) = lu + 1) (hmu : p + 2 ≤ lu) (hku : lu ≤ 8589934592) :
    wpI (mkEnv [(135, flat spLz32), (136, nwS spShift), (138, nwS spUnshift), (137, upS spTake)]) c114
      (Fin2 [.t 4, .t 5] (fun a b => .tuple ⟨[.slice (some ⟨a, 0, none⟩) K K, .slice (some ⟨b, 0, none⟩) (p + 2) (p + 2)]⟩) ⟨118, 1, false, tb K (lm (Uv / Dv))⟩ ⟨118, 1, false, tb (p + 2) (lm (Uv % Dv / 2 ^ s))⟩ h N)
      ⟨initT [.slice (some ⟨ku, ou, none⟩) lu cu, .slice (some ⟨kd, od, none⟩) (p + 2) cd], h, N + 0⟩ := by
  have e1 : IntKind.i64.wrap (((p + 2 : Nat) : Int) - 1) = ((p + 1 : Nat) : Int) := by rw [i64_in _ (by omega)]; omega
  have c1 : p + 1 < p + 2 := by omega
  have c2 : p + 2 ≤ p + 2 + 1 := by omega
  have c3 : p + 1 ≤ p + 2 := by omega
  have e7 : IntKind.i64.wrap (((lu + 1 : Nat) : Int) - ((p + 2 : Nat) : Int)) = (K : Int) := by rw [i64_in _ (by omega)]; omega
  have e8 : (if (K : Int) < 0 then (0 : Int) else (K : Int)) = (K : Int) := by rw [if_neg (by omega)]
  have e9 : p + 2 - 0 = p + 2 := rfl
  obtain ⟨top, htop⟩ : ∃ top, lm Dv (p + 1) = top := ⟨_, rfl⟩
  have ktop : (tb (p + 2 + 1) (lm Dv))[p + 1]? = some (.int .u32 (top : Nat)) := by rw [tb_get' (lm Dv) (show p + 1 < p + 2 + 1 by omega), htop]
  have e10 : 4 * (K : Int) ≤ 281474976710656 := by omega
  have e11 : (K : Int) ≤ 9223372036854775807 := by omega
  simp only [c114, initT, List.zipIdx_cons, List.zipIdx_nil, List.map_cons, List.map_nil, Nat.reduceAdd]
  simp only [↓R0, R1, rdL, rdH, isCall, istep, ibin, vcells, fillI, setR, flat, okCell, isBase, List.set, List.drop, List.take, List.append, bnds, bhi, blo, srcOf, ↓reduceIte, Nat.reduceEqDiff, Nat.reduceAdd, Nat.reduceLeDiff, reduceCtorEq, Nat.reduceSub, Int.reduceEq, Int.reduceLT, Int.reduceLE, Int.reduceGT, Int.reduceGE, Int.reduceSub, Int.reduceAdd, Int.reduceMul, Int.reduceNe, Int.reduceNeg, Int.reduceToNat, Nat.reduceMul, e1, c1, c2, c3, hbd, hcell1, hz, nwS, hd, hu, mkSl, e7, e8, Nat.sub_zero, ktop, e9, e10, e11, tb_rep]
  clear hbd hcell1 hz hd hu e1 c3 e7 e8 e9 ktop e10 e11
  refine lp_parts (fun M tm hp nx => ∃ (i : Nat) (f : Nat → Nat), M + i = K ∧ tmget tm 0 = .slice (some ⟨N + 1, 0, none⟩) (lu + 1) (lu + 1) ∧ tmget tm 1 = .slice (some ⟨N + 0, 0, none⟩) (p + 2) (p + 2 + 1) ∧
      tmget tm 6 = .int .i64 s ∧ tmget tm 7 = .int .i64 (p + 2 : Nat) ∧ tmget tm 8 = .int .u32 top ∧ tmget tm 9 = .slice (some ⟨N + 2, 0, none⟩) K K ∧ tmget tm 45 = .int .i64 K ∧ tmget tm 46 = .int .i64 i ∧
      hget hp (N + 0) = some ⟨118, 1, false, tb (p + 2 + 1) (lm Dv)⟩ ∧ hget hp (N + 1) = some ⟨118, 1, false, tb (lu + 1) (lm (lgR Uv Dv M))⟩ ∧ hget hp (N + 2) = some ⟨118, 1, false, tb K f⟩ ∧
      (∀ j, M ≤ j → j < K → f j = lm (Uv / Dv) j) ∧ (∀ q, q < N → hget hp q = hget h q) ∧ nx = N + 3) ?_ K
    ⟨0, fun _ => 0, by omega, ?_, ?_, ?_, ?_, ?_, ?_, ?_, ?_, ?_, ?_, ?_, fun j hj hj2 => by omega, ?_, rfl⟩
  · intro M tm hp nx ⟨i, f, hM, h0, h1, h6, h7, h8, h9, h45, h46, hb0, hb1, hb2, hf, hh, hnx⟩
    subst hnx
    by_cases c4 : i < K
    · obtain ⟨k, rfl⟩ : ∃ k, M = k + 1 := ⟨M - 1, by omega⟩
      obtain ⟨t2, t1, t0, top', d2, qd, X, g1, g2, g3, g4, g5, g6, gX, b2, b1, b0, bt, bd, ht, bq, bX, hI0, hI1, hI2, hI3, hI4, hcells⟩ := lg_step2 g (show k < K by omega) (show k + (p + 2) < lu + 1 by omega)
      rw [htop] at g4
      subst g4
      have e1 : IntKind.i64.wrap ((K : Int) - 1) = ((K - 1 : Nat) : Int) := by rw [i64_in _ (by omega)]; omega
      have e2 : IntKind.i64.wrap (((K - 1 : Nat) : Int) - (i : Int)) = (k : Int) := by rw [i64_in _ (by omega)]; omega
      have e3 : IntKind.i64.wrap ((k : Int) + ((p + 2 : Nat) : Int)) = ((k + (p + 2) : Nat) : Int) := by rw [i64_in _ (by omega)]; omega
      have e4 : IntKind.i64.wrap (((k + (p + 2) : Nat) : Int) - 1) = ((k + (p + 1) : Nat) : Int) := by rw [i64_in _ (by omega)]; omega
      have e5 : IntKind.i64.wrap (((p + 2 : Nat) : Int) - 2) = (p : Int) := by rw [i64_in _ (by omega)]; omega
      have e6 : IntKind.i64.wrap (((k + (p + 2) : Nat) : Int) - 2) = ((k + p : Nat) : Int) := by rw [i64_in _ (by omega)]; omega
      have e7 : IntKind.i64.wrap (((k + (p + 2) : Nat) : Int) + 1) = ((k + (p + 2) + 1 : Nat) : Int) := by rw [i64_in _ (by omega)]; omega
      have e8 : IntKind.i64.wrap ((i : Int) + 1) = ((i + 1 : Nat) : Int) := by rw [i64_in _ (by omega)]; omega
      have k2 : (tb (lu + 1) (lm (lgR Uv Dv (k + 1))))[k + (p + 2)]? = some (.int .u32 (t2 : Nat)) := by rw [tb_get' _ (by omega), g1]
      have k1 : (tb (lu + 1) (lm (lgR Uv Dv (k + 1))))[k + (p + 1)]? = some (.int .u32 (t1 : Nat)) := by rw [tb_get' _ (by omega), g2]
      have k0 : (tb (lu + 1) (lm (lgR Uv Dv (k + 1))))[k + p]? = some (.int .u32 (t0 : Nat)) := by rw [tb_get' _ (by omega), g3]
      have kd2 : (tb (p + 2 + 1) (lm Dv))[p]? = some (.int .u32 (d2 : Nat)) := by rw [tb_get' _ (by omega), g5]
      have a1 : k + (p + 2) < lu + 1 := by omega
      have a2 : k + (p + 1) < lu + 1 := by omega
      have a3 : k + p < lu + 1 := by omega
      have a4 : p < p + 2 := by omega
      have a5 : k < K := by omega
      have a5' : k + 1 ≤ K := by omega
      have a6 : ¬ (lu + 1 = k) := by omega
      have a7 : k + (p + 2) + 1 ≤ lu + 1 := by omega
      have a8 : k + (p + 2) ≤ lu := by omega
      have a9 : k ≤ k + (p + 2) + 1 := by omega
      have a10 : k + (p + 2) + 1 - k = p + 2 + 1 := by omega
      have x2 := u64_nat (n := t2) (by omega)
      have x1 := u64_nat (n := t1) (by omega)
      have x0 := u64_nat (n := t0) (by omega)
      have xd := u64_nat (n := d2) (by omega)
      have xt := u64_nat (n := top) (by omega)
      have s2 : IntKind.u64.wrap ((t2 : Int) * 2 ^ min 32 IntKind.u64.bits) = ((t2 * 2 ^ 32 : Nat) : Int) := shl64 (c := t2) (s := 32) (by omega) (by omega)
      have o2 := bv_or64 b1 b2
      rw [gX] at o2
      clear g1 g2 g3 g5 gX
      have z1 : ¬ ((top : Int) = 0) := by omega
      have z2 : ¬ (top = 0) := by omega
      have q1 : (X : Int).tdiv (top : Int) = ((X / top : Nat) : Int) := by rw [Int.tdiv_eq_ediv_of_nonneg (by omega)]; rfl
      have q2 : (X : Int).tmod (top : Int) = ((X % top : Nat) : Int) := by rw [Int.tmod_eq_emod_of_nonneg (by omega)]; rfl
      have hml := Nat.mod_lt X (show top > 0 by omega)
      have q3 := u64_nat (n := X / top) (Nat.lt_of_le_of_lt (hI4 _ _ hI0) bX)
      have hr0 : X % top < 4294967296 := by omega
      simp only [↓R0, R1, rdL, rdH, isCall, istep, ibin, vcells, fillI, setR, flat, okCell, isBase, List.set, List.drop, List.take, List.append, bnds, bhi, blo, srcOf, ↓reduceIte, Nat.reduceEqDiff, Nat.reduceAdd, Nat.reduceLeDiff, reduceCtorEq, Nat.reduceSub, Int.reduceEq, Int.reduceLT, Int.reduceLE, Int.reduceGT, Int.reduceGE, Int.reduceSub, Int.reduceAdd, Int.reduceMul, Int.reduceNe, Int.reduceNeg, Int.reduceToNat, Nat.reduceMul, h0, h1, h6, h7, h8, h9, h45, h46, hb0, hb1, hb2, c4, e1, e2, e3, e4, k2, k1, a1, a2, x2, x1, xt, s2, o2, z1, z2, q1, q2, q3]
      refine lp_parts (fun m2 tm hp nx => ∃ (r : Nat), LI X top qd m2 r ∧ r < 4294967296 ∧ tmget tm 0 = .slice (some ⟨N + 1, 0, none⟩) (lu + 1) (lu + 1) ∧ tmget tm 1 = .slice (some ⟨N + 0, 0, none⟩) (p + 2) (p + 2 + 1) ∧
        tmget tm 6 = .int .i64 s ∧ tmget tm 7 = .int .i64 (p + 2 : Nat) ∧ tmget tm 8 = .int .u32 top ∧ tmget tm 9 = .slice (some ⟨N + 2, 0, none⟩) K K ∧ tmget tm 45 = .int .i64 K ∧ tmget tm 46 = .int .i64 i ∧
        tmget tm 11 = .int .i64 k ∧ tmget tm 13 = .int .u64 m2 ∧ tmget tm 14 = .int .u64 r ∧
        hget hp (N + 0) = some ⟨118, 1, false, tb (p + 2 + 1) (lm Dv)⟩ ∧ hget hp (N + 1) = some ⟨118, 1, false, tb (lu + 1) (lm (lgR Uv Dv (k + 1)))⟩ ∧ hget hp (N + 2) = some ⟨118, 1, false, tb K f⟩ ∧
        (∀ q, q < N → hget hp q = hget h q) ∧ nx = N + 3) ?_ (X / top)
        ⟨X % top, hI0, hr0, ?_, ?_, ?_, ?_, ?_, ?_, ?_, ?_, ?_, ?_, ?_, hb0, hb1, hb2, hh, rfl⟩
      · clear h0 h1 h6 h7 h8 h9 h45 h46 hb0 hb1 hb2 hh q1 q2 q3 hml hr0 hI0
        clear tm hp
        intro q tm hp nx ⟨r, hI, hr, h0, h1, h6, h7, h8, h9, h45, h46, h11, h13, h14, hb0, hb1, hb2, hh, hnx⟩
        subst hnx
        have htake : ∀ q' : Nat, qd ≤ q' → q' ≤ qd + 1 → q' < 4294967296 → spTake [.slice (some ⟨N + 1, k, none⟩) (p + 2 + 1) (lu + 1 - k), .slice (some ⟨N + 0, 0, none⟩) (p + 2) (p + 2 + 1), .int .u32 (q' : Nat)] hp = some (.bool (Nat.beq q' (qd + 1)), N + 1, ⟨118, 1, false, tb (lu + 1) (lm (lgR Uv Dv k))⟩) := by
          intro q' l1 l2 l3
          obtain ⟨t1, t2⟩ := hcells q' l1 l2
          have hsh : shows hp (.slice (some ⟨N + 0, 0, none⟩) (p + 2) (p + 2 + 1)) = some (tb (p + 2) (lm Dv)) := by
            simp only [shows, hb0, tb_length, Nat.zero_add]
            rw [if_pos (by omega), List.drop_zero, tb_take _ (by omega)]
          unfold spTake
          simp only [hb1, hsh]
          rw [if_pos ⟨uok_lm _ _, uok_lm _ _, trivial, by rw [tb_length]; omega, by omega, by omega, by omega, by omega⟩]
          rw [Int.toNat_natCast, lg_ud g, lg_dv g, tb_length, t1, t2]
        by_cases c5 : q < 4294967296
        · have n1 : ¬ ((q : Int) > 4294967295) := by omega
          have hqd2 : q * d2 ≤ 4294967295 * 4294967295 := Nat.mul_le_mul (by omega) (by omega)
          have n2 : IntKind.u64.wrap ((q : Int) * (d2 : Int)) = ((q * d2 : Nat) : Int) := by rw [← Int.natCast_mul, u64_nat (by omega)]
          have n3 : IntKind.u64.wrap ((r : Int) * 2 ^ min 32 IntKind.u64.bits) = ((r * 2 ^ 32 : Nat) : Int) := shl64 (c := r) (s := 32) (by omega) (by omega)
          have n4 := bv_or64 b0 hr
          by_cases c7 : w2 r t0 < q * d2
          · have hcond : 4294967296 ≤ q ∨ w2 r t0 < q * d2 := .inr c7
            have n5 : ((q * d2 : Nat) : Int) > ((w2 r t0 : Nat) : Int) := by omega
            obtain ⟨y1, y2⟩ := hI1 q r hI hcond
            have hqX := hI4 q r hI
            have u1 : IntKind.u64.wrap ((q : Int) - 1) = ((q - 1 : Nat) : Int) := by rw [u64_in _ (by omega)]; omega
            have u2 : IntKind.u64.wrap ((r : Int) + (top : Int)) = ((r + top : Nat) : Int) := by rw [u64_in _ (by omega)]; omega
            by_cases c6 : r + top < 4294967296
            · have u3 : ¬ (((r + top : Nat) : Int) > 4294967295) := by omega
              simp only [↓R0, R1, rdL, rdH, isCall, istep, ibin, vcells, fillI, setR, flat, okCell, isBase, List.set, List.drop, List.take, List.append, bnds, bhi, blo, srcOf, ↓reduceIte, Nat.reduceEqDiff, Nat.reduceAdd, Nat.reduceLeDiff, reduceCtorEq, Nat.reduceSub, Int.reduceEq, Int.reduceLT, Int.reduceLE, Int.reduceGT, Int.reduceGE, Int.reduceSub, Int.reduceAdd, Int.reduceMul, Int.reduceNe, Int.reduceNeg, Int.reduceToNat, Nat.reduceMul, h0, h1, h6, h7, h8, h9, h45, h46, h11, h13, h14, hb0, hb1, hb2, e5, e3, e6, a3, a4, k0, kd2, x0, xd, xt, u1, u2, u3, n1, n2, n3, n4, n5]
              exact ⟨q - 1, by omega, r + top, y2, c6, rfl, rfl, hh⟩
            · obtain ⟨f1', f2', f3⟩ := hI3 (q - 1) (r + top) y2 (by omega)
              have u3 : ((r + top : Nat) : Int) > 4294967295 := by omega
              simp only [↓R0, R1, rdL, rdH, isCall, istep, ibin, vcells, fillI, setR, flat, okCell, isBase, List.set, List.drop, List.take, List.append, bnds, bhi, blo, srcOf, ↓reduceIte, Nat.reduceEqDiff, Nat.reduceAdd, Nat.reduceLeDiff, reduceCtorEq, Nat.reduceSub, Int.reduceEq, Int.reduceLT, Int.reduceLE, Int.reduceGT, Int.reduceGE, Int.reduceSub, Int.reduceAdd, Int.reduceMul, Int.reduceNe, Int.reduceNeg, Int.reduceToNat, Nat.reduceMul, h0, h1, h6, h7, h8, h9, h45, h46, h11, h13, h14, hb0, hb1, hb2, e5, e3, e6, a3, a4, k0, kd2, x0, xd, xt, u1, u2, u3, n1, n2, n3, n4, n5]
              have f1 := u32_nat f3
              have f4 := htake (q - 1) f1' f2' f3
              have f5 : IntKind.u32.wrap (qd : Int) = (qd : Int) := u32_nat bq
              by_cases fq : (q - 1) = qd + 1
              · have f6 : Nat.beq (q - 1) (qd + 1) = true := by rw [Nat.beq_eq]; exact fq
                have f7 : IntKind.u64.wrap ((((q - 1) : Nat) : Int) - 1) = (qd : Int) := by rw [u64_in _ (by omega)]; omega
                rw [f6] at f4
                simp only [↓R0, R1, rdL, rdH, isCall, istep, ibin, vcells, fillI, setR, flat, okCell, isBase, List.set, List.drop, List.take, List.append, bnds, bhi, blo, srcOf, ↓reduceIte, Nat.reduceEqDiff, Nat.reduceAdd, Nat.reduceLeDiff, reduceCtorEq, Nat.reduceSub, Int.reduceEq, Int.reduceLT, Int.reduceLE, Int.reduceGT, Int.reduceGE, Int.reduceSub, Int.reduceAdd, Int.reduceMul, Int.reduceNe, Int.reduceNeg, Int.reduceToNat, Nat.reduceMul, h0, h1, h6, h7, h8, h9, h45, h46, h11, h13, h14, hb0, hb1, hb2, c4, e2, e3, e4, e5, e6, e7, e8, a4, a5, a5', a6, a7, a8, a9, a10, mkSl, upS, f1, f4, f5, f7, tb_length, tb_set, u3]
                refine ⟨k, by omega, i + 1, _, by omega, rfl, rfl, rfl, fun j hj hj2 => ?_, ?_⟩
                · by_cases gj : j = k
                  · rw [if_pos gj, gj, g6]
                  · rw [if_neg gj]; exact hf j (by omega) hj2
                · intro q hq
                  simp only [if_neg (show ¬ N + 2 = q by omega), if_neg (show ¬ N + 1 = q by omega)]
                  exact hh q hq
              · have f6 : Nat.beq (q - 1) (qd + 1) = false := by
                  cases hb : Nat.beq (q - 1) (qd + 1) with
                  | false => rfl
                  | true => rw [Nat.beq_eq] at hb; exact absurd hb fq
                have f8 : (q - 1) = qd := by omega
                rw [f6] at f4
                simp only [↓R0, R1, rdL, rdH, isCall, istep, ibin, vcells, fillI, setR, flat, okCell, isBase, List.set, List.drop, List.take, List.append, bnds, bhi, blo, srcOf, ↓reduceIte, Nat.reduceEqDiff, Nat.reduceAdd, Nat.reduceLeDiff, reduceCtorEq, Nat.reduceSub, Int.reduceEq, Int.reduceLT, Int.reduceLE, Int.reduceGT, Int.reduceGE, Int.reduceSub, Int.reduceAdd, Int.reduceMul, Int.reduceNe, Int.reduceNeg, Int.reduceToNat, Nat.reduceMul, h0, h1, h6, h7, h8, h9, h45, h46, h11, h13, h14, hb0, hb1, hb2, c4, e2, e3, e4, e5, e6, e7, e8, a4, a5, a5', a6, a7, a8, a9, a10, mkSl, upS, f1, f4, tb_length, tb_set, u3]
                refine ⟨k, by omega, i + 1, _, by omega, rfl, rfl, rfl, fun j hj hj2 => ?_, ?_⟩
                · by_cases gj : j = k
                  · rw [if_pos gj, gj, g6, f8]
                  · rw [if_neg gj]; exact hf j (by omega) hj2
                · intro q hq
                  simp only [if_neg (show ¬ N + 2 = q by omega), if_neg (show ¬ N + 1 = q by omega)]
                  exact hh q hq
          · obtain ⟨f1', f2', f3⟩ := hI2 q r hI c5 (by omega)
            have n5 : ¬ (((q * d2 : Nat) : Int) > ((w2 r t0 : Nat) : Int)) := by omega
            simp only [↓R0, R1, rdL, rdH, isCall, istep, ibin, vcells, fillI, setR, flat, okCell, isBase, List.set, List.drop, List.take, List.append, bnds, bhi, blo, srcOf, ↓reduceIte, Nat.reduceEqDiff, Nat.reduceAdd, Nat.reduceLeDiff, reduceCtorEq, Nat.reduceSub, Int.reduceEq, Int.reduceLT, Int.reduceLE, Int.reduceGT, Int.reduceGE, Int.reduceSub, Int.reduceAdd, Int.reduceMul, Int.reduceNe, Int.reduceNeg, Int.reduceToNat, Nat.reduceMul, h0, h1, h6, h7, h8, h9, h45, h46, h11, h13, h14, hb0, hb1, hb2, e5, e3, e6, a3, a4, k0, kd2, x0, xd, xt, n1, n2, n3, n4, n5]
            have f1 := u32_nat f3
            have f4 := htake q f1' f2' f3
            have f5 : IntKind.u32.wrap (qd : Int) = (qd : Int) := u32_nat bq
            by_cases fq : q = qd + 1
            · have f6 : Nat.beq q (qd + 1) = true := by rw [Nat.beq_eq]; exact fq
              have f7 : IntKind.u64.wrap (((q : Nat) : Int) - 1) = (qd : Int) := by rw [u64_in _ (by omega)]; omega
              rw [f6] at f4
              simp only [↓R0, R1, rdL, rdH, isCall, istep, ibin, vcells, fillI, setR, flat, okCell, isBase, List.set, List.drop, List.take, List.append, bnds, bhi, blo, srcOf, ↓reduceIte, Nat.reduceEqDiff, Nat.reduceAdd, Nat.reduceLeDiff, reduceCtorEq, Nat.reduceSub, Int.reduceEq, Int.reduceLT, Int.reduceLE, Int.reduceGT, Int.reduceGE, Int.reduceSub, Int.reduceAdd, Int.reduceMul, Int.reduceNe, Int.reduceNeg, Int.reduceToNat, Nat.reduceMul, h0, h1, h6, h7, h8, h9, h45, h46, h11, h13, h14, hb0, hb1, hb2, c4, e2, e3, e4, e5, e6, e7, e8, a4, a5, a5', a6, a7, a8, a9, a10, mkSl, upS, f1, f4, f5, f7, tb_length, tb_set, n1]
              refine ⟨k, by omega, i + 1, _, by omega, rfl, rfl, rfl, fun j hj hj2 => ?_, ?_⟩
              · by_cases gj : j = k
                · rw [if_pos gj, gj, g6]
                · rw [if_neg gj]; exact hf j (by omega) hj2
              · intro q hq
                simp only [if_neg (show ¬ N + 2 = q by omega), if_neg (show ¬ N + 1 = q by omega)]
                exact hh q hq
            · have f6 : Nat.beq q (qd + 1) = false := by
                cases hb : Nat.beq q (qd + 1) with
                | false => rfl
                | true => rw [Nat.beq_eq] at hb; exact absurd hb fq
              have f8 : q = qd := by omega
              rw [f6] at f4
              simp only [↓R0, R1, rdL, rdH, isCall, istep, ibin, vcells, fillI, setR, flat, okCell, isBase, List.set, List.drop, List.take, List.append, bnds, bhi, blo, srcOf, ↓reduceIte, Nat.reduceEqDiff, Nat.reduceAdd, Nat.reduceLeDiff, reduceCtorEq, Nat.reduceSub, Int.reduceEq, Int.reduceLT, Int.reduceLE, Int.reduceGT, Int.reduceGE, Int.reduceSub, Int.reduceAdd, Int.reduceMul, Int.reduceNe, Int.reduceNeg, Int.reduceToNat, Nat.reduceMul, h0, h1, h6, h7, h8, h9, h45, h46, h11, h13, h14, hb0, hb1, hb2, c4, e2, e3, e4, e5, e6, e7, e8, a4, a5, a5', a6, a7, a8, a9, a10, mkSl, upS, f1, f4, tb_length, tb_set, n1]
              refine ⟨k, by omega, i + 1, _, by omega, rfl, rfl, rfl, fun j hj hj2 => ?_, ?_⟩
              · by_cases gj : j = k
                · rw [if_pos gj, gj, g6, f8]
                · rw [if_neg gj]; exact hf j (by omega) hj2
              · intro q hq
                simp only [if_neg (show ¬ N + 2 = q by omega), if_neg (show ¬ N + 1 = q by omega)]
                exact hh q hq
        · have n1 : (q : Int) > 4294967295 := by omega
          have hcond : 4294967296 ≤ q ∨ w2 r t0 < q * d2 := .inl (by omega)
          obtain ⟨y1, y2⟩ := hI1 q r hI hcond
          have hqX := hI4 q r hI
          have u1 : IntKind.u64.wrap ((q : Int) - 1) = ((q - 1 : Nat) : Int) := by rw [u64_in _ (by omega)]; omega
          have u2 : IntKind.u64.wrap ((r : Int) + (top : Int)) = ((r + top : Nat) : Int) := by rw [u64_in _ (by omega)]; omega
          by_cases c6 : r + top < 4294967296
          · have u3 : ¬ (((r + top : Nat) : Int) > 4294967295) := by omega
            simp only [↓R0, R1, rdL, rdH, isCall, istep, ibin, vcells, fillI, setR, flat, okCell, isBase, List.set, List.drop, List.take, List.append, bnds, bhi, blo, srcOf, ↓reduceIte, Nat.reduceEqDiff, Nat.reduceAdd, Nat.reduceLeDiff, reduceCtorEq, Nat.reduceSub, Int.reduceEq, Int.reduceLT, Int.reduceLE, Int.reduceGT, Int.reduceGE, Int.reduceSub, Int.reduceAdd, Int.reduceMul, Int.reduceNe, Int.reduceNeg, Int.reduceToNat, Nat.reduceMul, h0, h1, h6, h7, h8, h9, h45, h46, h11, h13, h14, hb0, hb1, hb2, e5, e3, e6, a3, a4, k0, kd2, x0, xd, xt, u1, u2, u3, n1]
            exact ⟨q - 1, by omega, r + top, y2, c6, rfl, rfl, hh⟩
          · obtain ⟨f1', f2', f3⟩ := hI3 (q - 1) (r + top) y2 (by omega)
            have u3 : ((r + top : Nat) : Int) > 4294967295 := by omega
            simp only [↓R0, R1, rdL, rdH, isCall, istep, ibin, vcells, fillI, setR, flat, okCell, isBase, List.set, List.drop, List.take, List.append, bnds, bhi, blo, srcOf, ↓reduceIte, Nat.reduceEqDiff, Nat.reduceAdd, Nat.reduceLeDiff, reduceCtorEq, Nat.reduceSub, Int.reduceEq, Int.reduceLT, Int.reduceLE, Int.reduceGT, Int.reduceGE, Int.reduceSub, Int.reduceAdd, Int.reduceMul, Int.reduceNe, Int.reduceNeg, Int.reduceToNat, Nat.reduceMul, h0, h1, h6, h7, h8, h9, h45, h46, h11, h13, h14, hb0, hb1, hb2, e5, e3, e6, a3, a4, k0, kd2, x0, xd, xt, u1, u2, u3, n1]
            have f1 := u32_nat f3
            have f4 := htake (q - 1) f1' f2' f3
            have f5 : IntKind.u32.wrap (qd : Int) = (qd : Int) := u32_nat bq
            by_cases fq : (q - 1) = qd + 1
            · have f6 : Nat.beq (q - 1) (qd + 1) = true := by rw [Nat.beq_eq]; exact fq
              have f7 : IntKind.u64.wrap ((((q - 1) : Nat) : Int) - 1) = (qd : Int) := by rw [u64_in _ (by omega)]; omega
              rw [f6] at f4
              simp only [↓R0, R1, rdL, rdH, isCall, istep, ibin, vcells, fillI, setR, flat, okCell, isBase, List.set, List.drop, List.take, List.append, bnds, bhi, blo, srcOf, ↓reduceIte, Nat.reduceEqDiff, Nat.reduceAdd, Nat.reduceLeDiff, reduceCtorEq, Nat.reduceSub, Int.reduceEq, Int.reduceLT, Int.reduceLE, Int.reduceGT, Int.reduceGE, Int.reduceSub, Int.reduceAdd, Int.reduceMul, Int.reduceNe, Int.reduceNeg, Int.reduceToNat, Nat.reduceMul, h0, h1, h6, h7, h8, h9, h45, h46, h11, h13, h14, hb0, hb1, hb2, c4, e2, e3, e4, e5, e6, e7, e8, a4, a5, a5', a6, a7, a8, a9, a10, mkSl, upS, f1, f4, f5, f7, tb_length, tb_set, u3]
              refine ⟨k, by omega, i + 1, _, by omega, rfl, rfl, rfl, fun j hj hj2 => ?_, ?_⟩
              · by_cases gj : j = k
                · rw [if_pos gj, gj, g6]
                · rw [if_neg gj]; exact hf j (by omega) hj2
              · intro q hq
                simp only [if_neg (show ¬ N + 2 = q by omega), if_neg (show ¬ N + 1 = q by omega)]
                exact hh q hq
            · have f6 : Nat.beq (q - 1) (qd + 1) = false := by
                cases hb : Nat.beq (q - 1) (qd + 1) with
                | false => rfl
                | true => rw [Nat.beq_eq] at hb; exact absurd hb fq
              have f8 : (q - 1) = qd := by omega
              rw [f6] at f4
              simp only [↓R0, R1, rdL, rdH, isCall, istep, ibin, vcells, fillI, setR, flat, okCell, isBase, List.set, List.drop, List.take, List.append, bnds, bhi, blo, srcOf, ↓reduceIte, Nat.reduceEqDiff, Nat.reduceAdd, Nat.reduceLeDiff, reduceCtorEq, Nat.reduceSub, Int.reduceEq, Int.reduceLT, Int.reduceLE, Int.reduceGT, Int.reduceGE, Int.reduceSub, Int.reduceAdd, Int.reduceMul, Int.reduceNe, Int.reduceNeg, Int.reduceToNat, Nat.reduceMul, h0, h1, h6, h7, h8, h9, h45, h46, h11, h13, h14, hb0, hb1, hb2, c4, e2, e3, e4, e5, e6, e7, e8, a4, a5, a5', a6, a7, a8, a9, a10, mkSl, upS, f1, f4, tb_length, tb_set, u3]
              refine ⟨k, by omega, i + 1, _, by omega, rfl, rfl, rfl, fun j hj hj2 => ?_, ?_⟩
              · by_cases gj : j = k
                · rw [if_pos gj, gj, g6, f8]
                · rw [if_neg gj]; exact hf j (by omega) hj2
              · intro q hq
                simp only [if_neg (show ¬ N + 2 = q by omega), if_neg (show ¬ N + 1 = q by omega)]
                exact hh q hq
      · (first | (simp only [↓R0, R1, rdL, rdH, isCall, istep, ibin, vcells, fillI, setR, flat, okCell, isBase, List.set, List.drop, List.take, List.append, bnds, bhi, blo, srcOf, ↓reduceIte, Nat.reduceEqDiff, Nat.reduceAdd, Nat.reduceLeDiff, reduceCtorEq, Nat.reduceSub, Int.reduceEq, Int.reduceLT, Int.reduceLE, Int.reduceGT, Int.reduceGE, Int.reduceSub, Int.reduceAdd, Int.reduceMul, Int.reduceNe, Int.reduceNeg, Int.reduceToNat, Nat.reduceMul, h0]; done) | (simp only [↓R0, R1, rdL, rdH, isCall, istep, ibin, vcells, fillI, setR, flat, okCell, isBase, List.set, List.drop, List.take, List.append, bnds, bhi, blo, srcOf, ↓reduceIte, Nat.reduceEqDiff, Nat.reduceAdd, Nat.reduceLeDiff, reduceCtorEq, Nat.reduceSub, Int.reduceEq, Int.reduceLT, Int.reduceLE, Int.reduceGT, Int.reduceGE, Int.reduceSub, Int.reduceAdd, Int.reduceMul, Int.reduceNe, Int.reduceNeg, Int.reduceToNat, Nat.reduceMul, h0]; rfl) | rfl)
      · (first | (simp only [↓R0, R1, rdL, rdH, isCall, istep, ibin, vcells, fillI, setR, flat, okCell, isBase, List.set, List.drop, List.take, List.append, bnds, bhi, blo, srcOf, ↓reduceIte, Nat.reduceEqDiff, Nat.reduceAdd, Nat.reduceLeDiff, reduceCtorEq, Nat.reduceSub, Int.reduceEq, Int.reduceLT, Int.reduceLE, Int.reduceGT, Int.reduceGE, Int.reduceSub, Int.reduceAdd, Int.reduceMul, Int.reduceNe, Int.reduceNeg, Int.reduceToNat, Nat.reduceMul, h1]; done) | (simp only [↓R0, R1, rdL, rdH, isCall, istep, ibin, vcells, fillI, setR, flat, okCell, isBase, List.set, List.drop, List.take, List.append, bnds, bhi, blo, srcOf, ↓reduceIte, Nat.reduceEqDiff, Nat.reduceAdd, Nat.reduceLeDiff, reduceCtorEq, Nat.reduceSub, Int.reduceEq, Int.reduceLT, Int.reduceLE, Int.reduceGT, Int.reduceGE, Int.reduceSub, Int.reduceAdd, Int.reduceMul, Int.reduceNe, Int.reduceNeg, Int.reduceToNat, Nat.reduceMul, h1]; rfl) | rfl)
      · (first | (simp only [↓R0, R1, rdL, rdH, isCall, istep, ibin, vcells, fillI, setR, flat, okCell, isBase, List.set, List.drop, List.take, List.append, bnds, bhi, blo, srcOf, ↓reduceIte, Nat.reduceEqDiff, Nat.reduceAdd, Nat.reduceLeDiff, reduceCtorEq, Nat.reduceSub, Int.reduceEq, Int.reduceLT, Int.reduceLE, Int.reduceGT, Int.reduceGE, Int.reduceSub, Int.reduceAdd, Int.reduceMul, Int.reduceNe, Int.reduceNeg, Int.reduceToNat, Nat.reduceMul, h6]; done) | (simp only [↓R0, R1, rdL, rdH, isCall, istep, ibin, vcells, fillI, setR, flat, okCell, isBase, List.set, List.drop, List.take, List.append, bnds, bhi, blo, srcOf, ↓reduceIte, Nat.reduceEqDiff, Nat.reduceAdd, Nat.reduceLeDiff, reduceCtorEq, Nat.reduceSub, Int.reduceEq, Int.reduceLT, Int.reduceLE, Int.reduceGT, Int.reduceGE, Int.reduceSub, Int.reduceAdd, Int.reduceMul, Int.reduceNe, Int.reduceNeg, Int.reduceToNat, Nat.reduceMul, h6]; rfl) | rfl)
      · (first | (simp only [↓R0, R1, rdL, rdH, isCall, istep, ibin, vcells, fillI, setR, flat, okCell, isBase, List.set, List.drop, List.take, List.append, bnds, bhi, blo, srcOf, ↓reduceIte, Nat.reduceEqDiff, Nat.reduceAdd, Nat.reduceLeDiff, reduceCtorEq, Nat.reduceSub, Int.reduceEq, Int.reduceLT, Int.reduceLE, Int.reduceGT, Int.reduceGE, Int.reduceSub, Int.reduceAdd, Int.reduceMul, Int.reduceNe, Int.reduceNeg, Int.reduceToNat, Nat.reduceMul, h7]; done) | (simp only [↓R0, R1, rdL, rdH, isCall, istep, ibin, vcells, fillI, setR, flat, okCell, isBase, List.set, List.drop, List.take, List.append, bnds, bhi, blo, srcOf, ↓reduceIte, Nat.reduceEqDiff, Nat.reduceAdd, Nat.reduceLeDiff, reduceCtorEq, Nat.reduceSub, Int.reduceEq, Int.reduceLT, Int.reduceLE, Int.reduceGT, Int.reduceGE, Int.reduceSub, Int.reduceAdd, Int.reduceMul, Int.reduceNe, Int.reduceNeg, Int.reduceToNat, Nat.reduceMul, h7]; rfl) | rfl)
      · (first | (simp only [↓R0, R1, rdL, rdH, isCall, istep, ibin, vcells, fillI, setR, flat, okCell, isBase, List.set, List.drop, List.take, List.append, bnds, bhi, blo, srcOf, ↓reduceIte, Nat.reduceEqDiff, Nat.reduceAdd, Nat.reduceLeDiff, reduceCtorEq, Nat.reduceSub, Int.reduceEq, Int.reduceLT, Int.reduceLE, Int.reduceGT, Int.reduceGE, Int.reduceSub, Int.reduceAdd, Int.reduceMul, Int.reduceNe, Int.reduceNeg, Int.reduceToNat, Nat.reduceMul, h8]; done) | (simp only [↓R0, R1, rdL, rdH, isCall, istep, ibin, vcells, fillI, setR, flat, okCell, isBase, List.set, List.drop, List.take, List.append, bnds, bhi, blo, srcOf, ↓reduceIte, Nat.reduceEqDiff, Nat.reduceAdd, Nat.reduceLeDiff, reduceCtorEq, Nat.reduceSub, Int.reduceEq, Int.reduceLT, Int.reduceLE, Int.reduceGT, Int.reduceGE, Int.reduceSub, Int.reduceAdd, Int.reduceMul, Int.reduceNe, Int.reduceNeg, Int.reduceToNat, Nat.reduceMul, h8]; rfl) | rfl)
      · (first | (simp only [↓R0, R1, rdL, rdH, isCall, istep, ibin, vcells, fillI, setR, flat, okCell, isBase, List.set, List.drop, List.take, List.append, bnds, bhi, blo, srcOf, ↓reduceIte, Nat.reduceEqDiff, Nat.reduceAdd, Nat.reduceLeDiff, reduceCtorEq, Nat.reduceSub, Int.reduceEq, Int.reduceLT, Int.reduceLE, Int.reduceGT, Int.reduceGE, Int.reduceSub, Int.reduceAdd, Int.reduceMul, Int.reduceNe, Int.reduceNeg, Int.reduceToNat, Nat.reduceMul, h9]; done) | (simp only [↓R0, R1, rdL, rdH, isCall, istep, ibin, vcells, fillI, setR, flat, okCell, isBase, List.set, List.drop, List.take, List.append, bnds, bhi, blo, srcOf, ↓reduceIte, Nat.reduceEqDiff, Nat.reduceAdd, Nat.reduceLeDiff, reduceCtorEq, Nat.reduceSub, Int.reduceEq, Int.reduceLT, Int.reduceLE, Int.reduceGT, Int.reduceGE, Int.reduceSub, Int.reduceAdd, Int.reduceMul, Int.reduceNe, Int.reduceNeg, Int.reduceToNat, Nat.reduceMul, h9]; rfl) | rfl)
      · (first | (simp only [↓R0, R1, rdL, rdH, isCall, istep, ibin, vcells, fillI, setR, flat, okCell, isBase, List.set, List.drop, List.take, List.append, bnds, bhi, blo, srcOf, ↓reduceIte, Nat.reduceEqDiff, Nat.reduceAdd, Nat.reduceLeDiff, reduceCtorEq, Nat.reduceSub, Int.reduceEq, Int.reduceLT, Int.reduceLE, Int.reduceGT, Int.reduceGE, Int.reduceSub, Int.reduceAdd, Int.reduceMul, Int.reduceNe, Int.reduceNeg, Int.reduceToNat, Nat.reduceMul, h45]; done) | (simp only [↓R0, R1, rdL, rdH, isCall, istep, ibin, vcells, fillI, setR, flat, okCell, isBase, List.set, List.drop, List.take, List.append, bnds, bhi, blo, srcOf, ↓reduceIte, Nat.reduceEqDiff, Nat.reduceAdd, Nat.reduceLeDiff, reduceCtorEq, Nat.reduceSub, Int.reduceEq, Int.reduceLT, Int.reduceLE, Int.reduceGT, Int.reduceGE, Int.reduceSub, Int.reduceAdd, Int.reduceMul, Int.reduceNe, Int.reduceNeg, Int.reduceToNat, Nat.reduceMul, h45]; rfl) | rfl)
      · (first | (simp only [↓R0, R1, rdL, rdH, isCall, istep, ibin, vcells, fillI, setR, flat, okCell, isBase, List.set, List.drop, List.take, List.append, bnds, bhi, blo, srcOf, ↓reduceIte, Nat.reduceEqDiff, Nat.reduceAdd, Nat.reduceLeDiff, reduceCtorEq, Nat.reduceSub, Int.reduceEq, Int.reduceLT, Int.reduceLE, Int.reduceGT, Int.reduceGE, Int.reduceSub, Int.reduceAdd, Int.reduceMul, Int.reduceNe, Int.reduceNeg, Int.reduceToNat, Nat.reduceMul, h46]; done) | (simp only [↓R0, R1, rdL, rdH, isCall, istep, ibin, vcells, fillI, setR, flat, okCell, isBase, List.set, List.drop, List.take, List.append, bnds, bhi, blo, srcOf, ↓reduceIte, Nat.reduceEqDiff, Nat.reduceAdd, Nat.reduceLeDiff, reduceCtorEq, Nat.reduceSub, Int.reduceEq, Int.reduceLT, Int.reduceLE, Int.reduceGT, Int.reduceGE, Int.reduceSub, Int.reduceAdd, Int.reduceMul, Int.reduceNe, Int.reduceNeg, Int.reduceToNat, Nat.reduceMul, h46]; rfl) | rfl)
      · (first | (simp only [↓R0, R1, rdL, rdH, isCall, istep, ibin, vcells, fillI, setR, flat, okCell, isBase, List.set, List.drop, List.take, List.append, bnds, bhi, blo, srcOf, ↓reduceIte, Nat.reduceEqDiff, Nat.reduceAdd, Nat.reduceLeDiff, reduceCtorEq, Nat.reduceSub, Int.reduceEq, Int.reduceLT, Int.reduceLE, Int.reduceGT, Int.reduceGE, Int.reduceSub, Int.reduceAdd, Int.reduceMul, Int.reduceNe, Int.reduceNeg, Int.reduceToNat, Nat.reduceMul]; done) | (simp only [↓R0, R1, rdL, rdH, isCall, istep, ibin, vcells, fillI, setR, flat, okCell, isBase, List.set, List.drop, List.take, List.append, bnds, bhi, blo, srcOf, ↓reduceIte, Nat.reduceEqDiff, Nat.reduceAdd, Nat.reduceLeDiff, reduceCtorEq, Nat.reduceSub, Int.reduceEq, Int.reduceLT, Int.reduceLE, Int.reduceGT, Int.reduceGE, Int.reduceSub, Int.reduceAdd, Int.reduceMul, Int.reduceNe, Int.reduceNeg, Int.reduceToNat, Nat.reduceMul]; rfl) | rfl)
      · (first | (simp only [↓R0, R1, rdL, rdH, isCall, istep, ibin, vcells, fillI, setR, flat, okCell, isBase, List.set, List.drop, List.take, List.append, bnds, bhi, blo, srcOf, ↓reduceIte, Nat.reduceEqDiff, Nat.reduceAdd, Nat.reduceLeDiff, reduceCtorEq, Nat.reduceSub, Int.reduceEq, Int.reduceLT, Int.reduceLE, Int.reduceGT, Int.reduceGE, Int.reduceSub, Int.reduceAdd, Int.reduceMul, Int.reduceNe, Int.reduceNeg, Int.reduceToNat, Nat.reduceMul]; done) | (simp only [↓R0, R1, rdL, rdH, isCall, istep, ibin, vcells, fillI, setR, flat, okCell, isBase, List.set, List.drop, List.take, List.append, bnds, bhi, blo, srcOf, ↓reduceIte, Nat.reduceEqDiff, Nat.reduceAdd, Nat.reduceLeDiff, reduceCtorEq, Nat.reduceSub, Int.reduceEq, Int.reduceLT, Int.reduceLE, Int.reduceGT, Int.reduceGE, Int.reduceSub, Int.reduceAdd, Int.reduceMul, Int.reduceNe, Int.reduceNeg, Int.reduceToNat, Nat.reduceMul]; rfl) | rfl)
      · (first | (simp only [↓R0, R1, rdL, rdH, isCall, istep, ibin, vcells, fillI, setR, flat, okCell, isBase, List.set, List.drop, List.take, List.append, bnds, bhi, blo, srcOf, ↓reduceIte, Nat.reduceEqDiff, Nat.reduceAdd, Nat.reduceLeDiff, reduceCtorEq, Nat.reduceSub, Int.reduceEq, Int.reduceLT, Int.reduceLE, Int.reduceGT, Int.reduceGE, Int.reduceSub, Int.reduceAdd, Int.reduceMul, Int.reduceNe, Int.reduceNeg, Int.reduceToNat, Nat.reduceMul]; done) | (simp only [↓R0, R1, rdL, rdH, isCall, istep, ibin, vcells, fillI, setR, flat, okCell, isBase, List.set, List.drop, List.take, List.append, bnds, bhi, blo, srcOf, ↓reduceIte, Nat.reduceEqDiff, Nat.reduceAdd, Nat.reduceLeDiff, reduceCtorEq, Nat.reduceSub, Int.reduceEq, Int.reduceLT, Int.reduceLE, Int.reduceGT, Int.reduceGE, Int.reduceSub, Int.reduceAdd, Int.reduceMul, Int.reduceNe, Int.reduceNeg, Int.reduceToNat, Nat.reduceMul]; rfl) | rfl)
    · have ei : i = K := by omega
      have em : M = 0 := by omega
      subst em
      subst ei
      have hun : spUnshift [.slice (some ⟨N + 1, 0, none⟩) (p + 2) (lu + 1), .int .i64 (s : Nat)] hp = some (fun k => .slice (some ⟨k, 0, none⟩) (p + 2) (p + 2), ⟨118, 1, false, tb (p + 2) (lm (Uv % Dv / 2 ^ s))⟩) := by
        have hsh : shows hp (.slice (some ⟨N + 1, 0, none⟩) (p + 2) (lu + 1)) = some (tb (p + 2) (lm (lgR Uv Dv 0))) := by
          simp only [shows, hb1, tb_length, Nat.zero_add]
          rw [if_pos (by omega), List.drop_zero, tb_take _ (by omega)]
        unfold spUnshift
        simp only [hsh]
        rw [if_pos ⟨uok_lm _ _, by rw [tb_length]; omega, by omega, by omega⟩]
        rw [Int.toNat_natCast, lg_end g, tb_length]
      have htb : tb i f = tb i (lm (Uv / Dv)) := tb_congr fun j hj => hf j (by omega) hj
      have a6 : ¬ (lu + 1 = 0) := by omega
      have a7 : p + 2 ≤ lu + 1 := by omega
      have a8 : p + 1 ≤ lu := by omega
      have a9 : p + 2 - 0 = p + 2 := rfl
      have a10 : lu + 1 - 0 = lu + 1 := rfl
      simp only [↓R0, R1, rdL, rdH, isCall, istep, ibin, vcells, fillI, setR, flat, okCell, isBase, List.set, List.drop, List.take, List.append, bnds, bhi, blo, srcOf, ↓reduceIte, Nat.reduceEqDiff, Nat.reduceAdd, Nat.reduceLeDiff, reduceCtorEq, Nat.reduceSub, Int.reduceEq, Int.reduceLT, Int.reduceLE, Int.reduceGT, Int.reduceGE, Int.reduceSub, Int.reduceAdd, Int.reduceMul, Int.reduceNe, Int.reduceNeg, Int.reduceToNat, Nat.reduceMul, h0, h1, h6, h7, h8, h9, h45, h46, hb0, hb1, hb2, c4, mkSl, a6, a7, a8, a9, a10, nwS, hun]
      refine ⟨trivial, _, N + 2, N + 3, false, false, rfl, ?_, by omega, by omega, by omega, ?_, ?_, ?_⟩
      · (first | (simp only [↓R0, R1, rdL, rdH, isCall, istep, ibin, vcells, fillI, setR, flat, okCell, isBase, List.set, List.drop, List.take, List.append, bnds, bhi, blo, srcOf, ↓reduceIte, Nat.reduceEqDiff, Nat.reduceAdd, Nat.reduceLeDiff, reduceCtorEq, Nat.reduceSub, Int.reduceEq, Int.reduceLT, Int.reduceLE, Int.reduceGT, Int.reduceGE, Int.reduceSub, Int.reduceAdd, Int.reduceMul, Int.reduceNe, Int.reduceNeg, Int.reduceToNat, Nat.reduceMul, one]; done) | (simp only [↓R0, R1, rdL, rdH, isCall, istep, ibin, vcells, fillI, setR, flat, okCell, isBase, List.set, List.drop, List.take, List.append, bnds, bhi, blo, srcOf, ↓reduceIte, Nat.reduceEqDiff, Nat.reduceAdd, Nat.reduceLeDiff, reduceCtorEq, Nat.reduceSub, Int.reduceEq, Int.reduceLT, Int.reduceLE, Int.reduceGT, Int.reduceGE, Int.reduceSub, Int.reduceAdd, Int.reduceMul, Int.reduceNe, Int.reduceNeg, Int.reduceToNat, Nat.reduceMul, one]; rfl) | rfl)
      · simp only [↓R0, R1, rdL, rdH, isCall, istep, ibin, vcells, fillI, setR, flat, okCell, isBase, List.set, List.drop, List.take, List.append, bnds, bhi, blo, srcOf, ↓reduceIte, Nat.reduceEqDiff, Nat.reduceAdd, Nat.reduceLeDiff, reduceCtorEq, Nat.reduceSub, Int.reduceEq, Int.reduceLT, Int.reduceLE, Int.reduceGT, Int.reduceGE, Int.reduceSub, Int.reduceAdd, Int.reduceMul, Int.reduceNe, Int.reduceNeg, Int.reduceToNat, Nat.reduceMul, hb2, htb]
      · simp only [↓R0, R1, rdL, rdH, isCall, istep, ibin, vcells, fillI, setR, flat, okCell, isBase, List.set, List.drop, List.take, List.append, bnds, bhi, blo, srcOf, ↓reduceIte, Nat.reduceEqDiff, Nat.reduceAdd, Nat.reduceLeDiff, reduceCtorEq, Nat.reduceSub, Int.reduceEq, Int.reduceLT, Int.reduceLE, Int.reduceGT, Int.reduceGE, Int.reduceSub, Int.reduceAdd, Int.reduceMul, Int.reduceNe, Int.reduceNeg, Int.reduceToNat, Nat.reduceMul]
      · intro q hq
        simp only [↓R0, R1, rdL, rdH, isCall, istep, ibin, vcells, fillI, setR, flat, okCell, isBase, List.set, List.drop, List.take, List.append, bnds, bhi, blo, srcOf, ↓reduceIte, Nat.reduceEqDiff, Nat.reduceAdd, Nat.reduceLeDiff, reduceCtorEq, Nat.reduceSub, Int.reduceEq, Int.reduceLT, Int.reduceLE, Int.reduceGT, Int.reduceGE, Int.reduceSub, Int.reduceAdd, Int.reduceMul, Int.reduceNe, Int.reduceNeg, Int.reduceToNat, Nat.reduceMul, hget_new hq]
        exact hh q hq
  · (first | (simp only [↓R0, R1, rdL, rdH, isCall, istep, ibin, vcells, fillI, setR, flat, okCell, isBase, List.set, List.drop, List.take, List.append, bnds, bhi, blo, srcOf, ↓reduceIte, Nat.reduceEqDiff, Nat.reduceAdd, Nat.reduceLeDiff, reduceCtorEq, Nat.reduceSub, Int.reduceEq, Int.reduceLT, Int.reduceLE, Int.reduceGT, Int.reduceGE, Int.reduceSub, Int.reduceAdd, Int.reduceMul, Int.reduceNe, Int.reduceNeg, Int.reduceToNat, Nat.reduceMul]; done) | (simp only [↓R0, R1, rdL, rdH, isCall, istep, ibin, vcells, fillI, setR, flat, okCell, isBase, List.set, List.drop, List.take, List.append, bnds, bhi, blo, srcOf, ↓reduceIte, Nat.reduceEqDiff, Nat.reduceAdd, Nat.reduceLeDiff, reduceCtorEq, Nat.reduceSub, Int.reduceEq, Int.reduceLT, Int.reduceLE, Int.reduceGT, Int.reduceGE, Int.reduceSub, Int.reduceAdd, Int.reduceMul, Int.reduceNe, Int.reduceNeg, Int.reduceToNat, Nat.reduceMul]; rfl) | rfl)
  · (first | (simp only [↓R0, R1, rdL, rdH, isCall, istep, ibin, vcells, fillI, setR, flat, okCell, isBase, List.set, List.drop, List.take, List.append, bnds, bhi, blo, srcOf, ↓reduceIte, Nat.reduceEqDiff, Nat.reduceAdd, Nat.reduceLeDiff, reduceCtorEq, Nat.reduceSub, Int.reduceEq, Int.reduceLT, Int.reduceLE, Int.reduceGT, Int.reduceGE, Int.reduceSub, Int.reduceAdd, Int.reduceMul, Int.reduceNe, Int.reduceNeg, Int.reduceToNat, Nat.reduceMul]; done) | (simp only [↓R0, R1, rdL, rdH, isCall, istep, ibin, vcells, fillI, setR, flat, okCell, isBase, List.set, List.drop, List.take, List.append, bnds, bhi, blo, srcOf, ↓reduceIte, Nat.reduceEqDiff, Nat.reduceAdd, Nat.reduceLeDiff, reduceCtorEq, Nat.reduceSub, Int.reduceEq, Int.reduceLT, Int.reduceLE, Int.reduceGT, Int.reduceGE, Int.reduceSub, Int.reduceAdd, Int.reduceMul, Int.reduceNe, Int.reduceNeg, Int.reduceToNat, Nat.reduceMul]; rfl) | rfl)
  · (first | (simp only [↓R0, R1, rdL, rdH, isCall, istep, ibin, vcells, fillI, setR, flat, okCell, isBase, List.set, List.drop, List.take, List.append, bnds, bhi, blo, srcOf, ↓reduceIte, Nat.reduceEqDiff, Nat.reduceAdd, Nat.reduceLeDiff, reduceCtorEq, Nat.reduceSub, Int.reduceEq, Int.reduceLT, Int.reduceLE, Int.reduceGT, Int.reduceGE, Int.reduceSub, Int.reduceAdd, Int.reduceMul, Int.reduceNe, Int.reduceNeg, Int.reduceToNat, Nat.reduceMul]; done) | (simp only [↓R0, R1, rdL, rdH, isCall, istep, ibin, vcells, fillI, setR, flat, okCell, isBase, List.set, List.drop, List.take, List.append, bnds, bhi, blo, srcOf, ↓reduceIte, Nat.reduceEqDiff, Nat.reduceAdd, Nat.reduceLeDiff, reduceCtorEq, Nat.reduceSub, Int.reduceEq, Int.reduceLT, Int.reduceLE, Int.reduceGT, Int.reduceGE, Int.reduceSub, Int.reduceAdd, Int.reduceMul, Int.reduceNe, Int.reduceNeg, Int.reduceToNat, Nat.reduceMul]; rfl) | rfl)
  · (first | (simp only [↓R0, R1, rdL, rdH, isCall, istep, ibin, vcells, fillI, setR, flat, okCell, isBase, List.set, List.drop, List.take, List.append, bnds, bhi, blo, srcOf, ↓reduceIte, Nat.reduceEqDiff, Nat.reduceAdd, Nat.reduceLeDiff, reduceCtorEq, Nat.reduceSub, Int.reduceEq, Int.reduceLT, Int.reduceLE, Int.reduceGT, Int.reduceGE, Int.reduceSub, Int.reduceAdd, Int.reduceMul, Int.reduceNe, Int.reduceNeg, Int.reduceToNat, Nat.reduceMul]; done) | (simp only [↓R0, R1, rdL, rdH, isCall, istep, ibin, vcells, fillI, setR, flat, okCell, isBase, List.set, List.drop, List.take, List.append, bnds, bhi, blo, srcOf, ↓reduceIte, Nat.reduceEqDiff, Nat.reduceAdd, Nat.reduceLeDiff, reduceCtorEq, Nat.reduceSub, Int.reduceEq, Int.reduceLT, Int.reduceLE, Int.reduceGT, Int.reduceGE, Int.reduceSub, Int.reduceAdd, Int.reduceMul, Int.reduceNe, Int.reduceNeg, Int.reduceToNat, Nat.reduceMul]; rfl) | rfl)
  · (first | (simp only [↓R0, R1, rdL, rdH, isCall, istep, ibin, vcells, fillI, setR, flat, okCell, isBase, List.set, List.drop, List.take, List.append, bnds, bhi, blo, srcOf, ↓reduceIte, Nat.reduceEqDiff, Nat.reduceAdd, Nat.reduceLeDiff, reduceCtorEq, Nat.reduceSub, Int.reduceEq, Int.reduceLT, Int.reduceLE, Int.reduceGT, Int.reduceGE, Int.reduceSub, Int.reduceAdd, Int.reduceMul, Int.reduceNe, Int.reduceNeg, Int.reduceToNat, Nat.reduceMul]; done) | (simp only [↓R0, R1, rdL, rdH, isCall, istep, ibin, vcells, fillI, setR, flat, okCell, isBase, List.set, List.drop, List.take, List.append, bnds, bhi, blo, srcOf, ↓reduceIte, Nat.reduceEqDiff, Nat.reduceAdd, Nat.reduceLeDiff, reduceCtorEq, Nat.reduceSub, Int.reduceEq, Int.reduceLT, Int.reduceLE, Int.reduceGT, Int.reduceGE, Int.reduceSub, Int.reduceAdd, Int.reduceMul, Int.reduceNe, Int.reduceNeg, Int.reduceToNat, Nat.reduceMul]; rfl) | rfl)
  · (first | (simp only [↓R0, R1, rdL, rdH, isCall, istep, ibin, vcells, fillI, setR, flat, okCell, isBase, List.set, List.drop, List.take, List.append, bnds, bhi, blo, srcOf, ↓reduceIte, Nat.reduceEqDiff, Nat.reduceAdd, Nat.reduceLeDiff, reduceCtorEq, Nat.reduceSub, Int.reduceEq, Int.reduceLT, Int.reduceLE, Int.reduceGT, Int.reduceGE, Int.reduceSub, Int.reduceAdd, Int.reduceMul, Int.reduceNe, Int.reduceNeg, Int.reduceToNat, Nat.reduceMul]; done) | (simp only [↓R0, R1, rdL, rdH, isCall, istep, ibin, vcells, fillI, setR, flat, okCell, isBase, List.set, List.drop, List.take, List.append, bnds, bhi, blo, srcOf, ↓reduceIte, Nat.reduceEqDiff, Nat.reduceAdd, Nat.reduceLeDiff, reduceCtorEq, Nat.reduceSub, Int.reduceEq, Int.reduceLT, Int.reduceLE, Int.reduceGT, Int.reduceGE, Int.reduceSub, Int.reduceAdd, Int.reduceMul, Int.reduceNe, Int.reduceNeg, Int.reduceToNat, Nat.reduceMul]; rfl) | rfl)
  · (first | (simp only [↓R0, R1, rdL, rdH, isCall, istep, ibin, vcells, fillI, setR, flat, okCell, isBase, List.set, List.drop, List.take, List.append, bnds, bhi, blo, srcOf, ↓reduceIte, Nat.reduceEqDiff, Nat.reduceAdd, Nat.reduceLeDiff, reduceCtorEq, Nat.reduceSub, Int.reduceEq, Int.reduceLT, Int.reduceLE, Int.reduceGT, Int.reduceGE, Int.reduceSub, Int.reduceAdd, Int.reduceMul, Int.reduceNe, Int.reduceNeg, Int.reduceToNat, Nat.reduceMul]; done) | (simp only [↓R0, R1, rdL, rdH, isCall, istep, ibin, vcells, fillI, setR, flat, okCell, isBase, List.set, List.drop, List.take, List.append, bnds, bhi, blo, srcOf, ↓reduceIte, Nat.reduceEqDiff, Nat.reduceAdd, Nat.reduceLeDiff, reduceCtorEq, Nat.reduceSub, Int.reduceEq, Int.reduceLT, Int.reduceLE, Int.reduceGT, Int.reduceGE, Int.reduceSub, Int.reduceAdd, Int.reduceMul, Int.reduceNe, Int.reduceNeg, Int.reduceToNat, Nat.reduceMul]; rfl) | rfl)
  · (first | (simp only [↓R0, R1, rdL, rdH, isCall, istep, ibin, vcells, fillI, setR, flat, okCell, isBase, List.set, List.drop, List.take, List.append, bnds, bhi, blo, srcOf, ↓reduceIte, Nat.reduceEqDiff, Nat.reduceAdd, Nat.reduceLeDiff, reduceCtorEq, Nat.reduceSub, Int.reduceEq, Int.reduceLT, Int.reduceLE, Int.reduceGT, Int.reduceGE, Int.reduceSub, Int.reduceAdd, Int.reduceMul, Int.reduceNe, Int.reduceNeg, Int.reduceToNat, Nat.reduceMul]; done) | (simp only [↓R0, R1, rdL, rdH, isCall, istep, ibin, vcells, fillI, setR, flat, okCell, isBase, List.set, List.drop, List.take, List.append, bnds, bhi, blo, srcOf, ↓reduceIte, Nat.reduceEqDiff, Nat.reduceAdd, Nat.reduceLeDiff, reduceCtorEq, Nat.reduceSub, Int.reduceEq, Int.reduceLT, Int.reduceLE, Int.reduceGT, Int.reduceGE, Int.reduceSub, Int.reduceAdd, Int.reduceMul, Int.reduceNe, Int.reduceNeg, Int.reduceToNat, Nat.reduceMul]; rfl) | rfl)
  · (first | (simp only [↓R0, R1, rdL, rdH, isCall, istep, ibin, vcells, fillI, setR, flat, okCell, isBase, List.set, List.drop, List.take, List.append, bnds, bhi, blo, srcOf, ↓reduceIte, Nat.reduceEqDiff, Nat.reduceAdd, Nat.reduceLeDiff, reduceCtorEq, Nat.reduceSub, Int.reduceEq, Int.reduceLT, Int.reduceLE, Int.reduceGT, Int.reduceGE, Int.reduceSub, Int.reduceAdd, Int.reduceMul, Int.reduceNe, Int.reduceNeg, Int.reduceToNat, Nat.reduceMul]; done) | (simp only [↓R0, R1, rdL, rdH, isCall, istep, ibin, vcells, fillI, setR, flat, okCell, isBase, List.set, List.drop, List.take, List.append, bnds, bhi, blo, srcOf, ↓reduceIte, Nat.reduceEqDiff, Nat.reduceAdd, Nat.reduceLeDiff, reduceCtorEq, Nat.reduceSub, Int.reduceEq, Int.reduceLT, Int.reduceLE, Int.reduceGT, Int.reduceGE, Int.reduceSub, Int.reduceAdd, Int.reduceMul, Int.reduceNe, Int.reduceNeg, Int.reduceToNat, Nat.reduceMul]; rfl) | rfl)
  · (first | (simp only [↓R0, R1, rdL, rdH, isCall, istep, ibin, vcells, fillI, setR, flat, okCell, isBase, List.set, List.drop, List.take, List.append, bnds, bhi, blo, srcOf, ↓reduceIte, Nat.reduceEqDiff, Nat.reduceAdd, Nat.reduceLeDiff, reduceCtorEq, Nat.reduceSub, Int.reduceEq, Int.reduceLT, Int.reduceLE, Int.reduceGT, Int.reduceGE, Int.reduceSub, Int.reduceAdd, Int.reduceMul, Int.reduceNe, Int.reduceNeg, Int.reduceToNat, Nat.reduceMul, lgR_top g]; done) | (simp only [↓R0, R1, rdL, rdH, isCall, istep, ibin, vcells, fillI, setR, flat, okCell, isBase, List.set, List.drop, List.take, List.append, bnds, bhi, blo, srcOf, ↓reduceIte, Nat.reduceEqDiff, Nat.reduceAdd, Nat.reduceLeDiff, reduceCtorEq, Nat.reduceSub, Int.reduceEq, Int.reduceLT, Int.reduceLE, Int.reduceGT, Int.reduceGE, Int.reduceSub, Int.reduceAdd, Int.reduceMul, Int.reduceNe, Int.reduceNeg, Int.reduceToNat, Nat.reduceMul, lgR_top g]; rfl) | rfl)
  · (first | (simp only [↓R0, R1, rdL, rdH, isCall, istep, ibin, vcells, fillI, setR, flat, okCell, isBase, List.set, List.drop, List.take, List.append, bnds, bhi, blo, srcOf, ↓reduceIte, Nat.reduceEqDiff, Nat.reduceAdd, Nat.reduceLeDiff, reduceCtorEq, Nat.reduceSub, Int.reduceEq, Int.reduceLT, Int.reduceLE, Int.reduceGT, Int.reduceGE, Int.reduceSub, Int.reduceAdd, Int.reduceMul, Int.reduceNe, Int.reduceNeg, Int.reduceToNat, Nat.reduceMul]; done) | (simp only [↓R0, R1, rdL, rdH, isCall, istep, ibin, vcells, fillI, setR, flat, okCell, isBase, List.set, List.drop, List.take, List.append, bnds, bhi, blo, srcOf, ↓reduceIte, Nat.reduceEqDiff, Nat.reduceAdd, Nat.reduceLeDiff, reduceCtorEq, Nat.reduceSub, Int.reduceEq, Int.reduceLT, Int.reduceLE, Int.reduceGT, Int.reduceGE, Int.reduceSub, Int.reduceAdd, Int.reduceMul, Int.reduceNe, Int.reduceNeg, Int.reduceToNat, Nat.reduceMul]; rfl) | rfl)
  · intro q hq
    simp only [↓R0, R1, rdL, rdH, isCall, istep, ibin, vcells, fillI, setR, flat, okCell, isBase, List.set, List.drop, List.take, List.append, bnds, bhi, blo, srcOf, ↓reduceIte, Nat.reduceEqDiff, Nat.reduceAdd, Nat.reduceLeDiff, reduceCtorEq, Nat.reduceSub, Int.reduceEq, Int.reduceLT, Int.reduceLE, Int.reduceGT, Int.reduceGE, Int.reduceSub, Int.reduceAdd, Int.reduceMul, Int.reduceNe, Int.reduceNeg, Int.reduceToNat, Nat.reduceMul, hget_new hq]
theorem ok_nlong : SpecOK Tryz.prog 114 (nw2S spLong) := by
  refine nw2_run (env_cons ok_lz32 (env_cons ok_nshift (env_cons ok_nunshift (env_cons ok_ntake (env_nil _))))) mixed tr114 ?_ ?_
  · intro args h h' v hle e
    unfold spLong at e ⊢
    split at e
    · split at e
      · rename_i us ds hcu hcd
        simp only [shows_mono hle hcu, shows_mono hle hcd]; exact e
      · cases e
    · cases e
  intro args vf b b' h N hG hN
  unfold spLong at hG
  split at hG
  case h_2 => cases hG
  rename_i _ vu vd
  split at hG
  case h_2 => cases hG
  rename_i us ds hcu hcd
  split at hG
  case isFalse => cases hG
  rename_i hl
  obtain ⟨huu, hud, hm2, hmu, hku, hD1⟩ := hl
  cases hG
  refine ⟨rfl, rfl, tb_base _ _, tb_base _ _, vr2_sl _ _ _ _, by simp, ?_⟩
  obtain ⟨ku, ou, lu, cu, blku, rfl, hbu, hleu, hcellu, hU, hlenu⟩ := shows_tb hcu huu
  obtain ⟨kd, od, m, cd, blkd, rfl, hbd, hled, hcelld, hD, hlend⟩ := shows_tb hcd hud
  have hku' := hN _ _ hbu
  have hkd' := hN _ _ hbd
  rw [hlenu] at hmu hku ⊢
  rw [hlend] at hm2 hmu hD1 ⊢
  obtain ⟨p, rfl⟩ : ∃ p, m = p + 2 := ⟨m - 2, by omega⟩
  rw [show p + 2 - 1 = p + 1 by omega] at hD1
  have hcell1 := hcelld (p + 1) (by omega)
  obtain ⟨hs, hDs, hz, g, hdiv, hmod⟩ := lz_all hU hD hD1 hmu
  generalize 32 - l32 (lm (ud ds) (p + 1)) = s at *
  have hd : spShift [.slice (some ⟨kd, od, none⟩) (p + 2) cd, .int .i64 (s : Nat)] h = some (fun k => .slice (some ⟨k, 0, none⟩) (p + 2 + 1) (p + 2 + 1), ⟨118, 1, false, tb (p + 2 + 1) (lm (ud ds * 2 ^ s))⟩) := by
    unfold spShift
    simp only [hcd]
    rw [if_pos ⟨hud, by rw [hlend]; omega, by omega, by omega⟩, Int.toNat_natCast, hlend]
  have hu : ∀ x, spShift [.slice (some ⟨ku, ou, none⟩) lu cu, .int .i64 (s : Nat)] ((N + 0, x) :: h) = some (fun k => .slice (some ⟨k, 0, none⟩) (lu + 1) (lu + 1), ⟨118, 1, false, tb (lu + 1) (lm (ud us * 2 ^ s))⟩) := by
    intro x
    unfold spShift
    simp only [shows_new hku', hcu]
    rw [if_pos ⟨huu, by rw [hlenu]; omega, by omega, by omega⟩, Int.toNat_natCast, hlenu]
  have := nlong_wp hbd hcell1 hz hd hu hs g (by omega) hmu hku
  rw [hdiv, hmod] at this
  exact this
end Go.Eng
end
section
set_option linter.unusedVariables false
set_option linter.unusedSimpArgs false
set_option linter.unusedSectionVars false
set_option maxRecDepth 4000
namespace Go.Eng
open Go Go.Proofs Go.IntWalk
def spNDiv : List Value → Option Value
  | [.string ⟨⟨l⟩⟩, .string ⟨⟨m⟩⟩] => if l.length ≤ 34359738368 ∧ m.length ≤ 34359738368 then
      (if nl m = 0 then some (.tuple ⟨[.string ⟨⟨[]⟩⟩, .string ⟨⟨[]⟩⟩, .bool false]⟩) else some (.tuple ⟨[.string ⟨⟨bl (nl l / nl m)⟩⟩, .string ⟨⟨bl (nl l % nl m)⟩⟩, .bool true]⟩)) else none
  | _ => none
def c68 : ICode :=
  (.seq (.reg [⟨(some 4), none, (.mv (.c (.string ⟨⟨[]⟩⟩)))⟩, ⟨(some 5), none, (.mv (.c (.string ⟨⟨[]⟩⟩)))⟩, ⟨(some 6), none, (.mv (.c (.bool false)))⟩])
  (.seq (.reg [⟨(some 12), none, (.mv (.t 1))⟩, ⟨(some 13), none, (.call 110 [(.t 12)])⟩, ⟨(some 7), none, (.mv (.t 13))⟩])
  (.seq (.block 0 (.seq (.reg [⟨(some 15), none, (.mv (.t 7))⟩, ⟨(some 16), none, (.lensl (.t 15))⟩, ⟨(some 17), none, (.bin .eql (.t 16) (.c (.int .i64 0)))⟩, ⟨(some 14), none, (.mv (.t 17))⟩])
  (.cond (.t 14)
  (.seq (.reg [⟨(some 4), none, (.mv (.c (.string ⟨⟨[]⟩⟩)))⟩, ⟨(some 5), none, (.mv (.c (.string ⟨⟨[]⟩⟩)))⟩, ⟨(some 6), none, (.mv (.c (.bool false)))⟩])
  .ret)
  (.seq (.reg [⟨(some 19), none, (.mv (.t 0))⟩, ⟨(some 20), none, (.mv (.t 1))⟩, ⟨(some 21), none, (.call 111 [(.t 19), (.t 20)])⟩, ⟨(some 22), none, (.bin .lss (.t 21) (.c (.int .i64 0)))⟩, ⟨(some 18), none, (.mv (.t 22))⟩])
  (.cond (.t 18)
  (.seq (.reg [⟨(some 23), none, (.mv (.t 0))⟩, ⟨(some 24), none, (.call 108 [(.t 23)])⟩, ⟨(some 4), none, (.mv (.c (.string ⟨⟨[]⟩⟩)))⟩, ⟨(some 5), none, (.mv (.t 24))⟩, ⟨(some 6), none, (.mv (.c (.bool true)))⟩])
  .ret)
  (.seq (.reg [⟨(some 26), none, (.mv (.t 7))⟩, ⟨(some 27), none, (.lensl (.t 26))⟩, ⟨(some 28), none, (.bin .eql (.t 27) (.c (.int .i64 1)))⟩, ⟨(some 25), none, (.mv (.t 28))⟩])
  (.cond (.t 25)
  (.seq (.dreg [⟨(some 30), none, [], (.mv (.t 0))⟩, ⟨(some 31), none, [], (.call 110 [(.t 30)])⟩, ⟨(some 32), none, [], (.mv (.t 7))⟩, ⟨(some 33), none, [], (.ixsl 1 (.t 32) (.c (.int .i64 0)))⟩, ⟨(some 34), none, [1], (.load false 1 (.t 33))⟩, ⟨(some 35), none, [], (.call 112 [(.t 31), (.t 34)])⟩, ⟨(some 29), none, [], (.mv (.t 35))⟩, ⟨(some 36), none, [], (.ext (.t 29) 0)⟩, ⟨(some 37), none, [], (.ext (.t 29) 1)⟩, ⟨(some 8), none, [], (.mv (.t 36))⟩, ⟨(some 9), none, [], (.mv (.t 37))⟩])
  (.seq (.reg [⟨(some 38), none, (.mv (.t 8))⟩, ⟨(some 39), none, (.call 113 [(.t 38)])⟩, ⟨(some 40), none, (.mv (.t 9))⟩, ⟨(some 41), none, (.conv .u64 (.t 40))⟩, ⟨(some 42), none, (.call 70 [(.t 41)])⟩, ⟨(some 4), none, (.mv (.t 39))⟩, ⟨(some 5), none, (.mv (.t 42))⟩, ⟨(some 6), none, (.mv (.c (.bool true)))⟩])
  .ret))
  .skip)))))))
  (.seq (.reg [⟨(some 44), none, (.mv (.t 0))⟩, ⟨(some 45), none, (.call 110 [(.t 44)])⟩, ⟨(some 46), none, (.mv (.t 7))⟩, ⟨(some 47), none, (.call 114 [(.t 45), (.t 46)])⟩, ⟨(some 43), none, (.mv (.t 47))⟩, ⟨(some 48), none, (.ext (.t 43) 0)⟩, ⟨(some 49), none, (.ext (.t 43) 1)⟩, ⟨(some 10), none, (.mv (.t 48))⟩, ⟨(some 11), none, (.mv (.t 49))⟩])
  (.seq (.reg [⟨(some 50), none, (.mv (.t 10))⟩, ⟨(some 51), none, (.call 113 [(.t 50)])⟩, ⟨(some 52), none, (.mv (.t 11))⟩, ⟨(some 53), none, (.call 113 [(.t 52)])⟩, ⟨(some 4), none, (.mv (.t 51))⟩, ⟨(some 5), none, (.mv (.t 53))⟩, ⟨(some 6), none, (.mv (.c (.bool true)))⟩])
  .ret)))))
theorem tr68 : trFun Tryz.prog 68 = some ⟨54, [.t 4, .t 5, .t 6], c68⟩ := by kernel_rfl
theorem lk_low {n : Nat} (h : n ≠ 0) : 4294967296 ^ (lk n - 1) ≤ n := by
  have h0 : lk n ≠ 0 := fun e => h (lk_zero.1 e)
  exact lk_top (k := lk n - 1) (by omega)
theorem lk_mono {a b : Nat} (h : a ≤ b) : lk a ≤ lk b := by
  have := bl_length_mono h
  unfold lk; omega
theorem short_at {h : Heap} {N a b : Nat} (hb0 : b ≠ 0) (hb1 : lk b = 1) (ha : lk a ≤ 8589934592) :
    spShort [.slice (some ⟨N + 1, 0, none⟩) (lk a) (lk a), .int .u32 (b : Nat)] ((N + 1, some ⟨118, 1, false, tb (lk a) (lm a)⟩) :: (N + 0, some ⟨118, 1, false, tb 1 (lm b)⟩) :: h) =
      some (fun k => .tuple ⟨[.slice (some ⟨k, 0, none⟩) (lk a) (lk a), .int .u32 (a % b : Nat)]⟩, ⟨118, 1, false, tb (lk a) (lm (a / b))⟩) := by
  have hb : b < 4294967296 := by have := lk_lt b; rw [hb1] at this; omega
  unfold spShort
  simp only [shows, hget, if_true, tb_length, Nat.zero_add, Nat.le_refl, List.drop_zero, tb_all]
  rw [if_pos ⟨uok_lm _ _, by omega, by omega, by omega⟩, Int.toNat_natCast, ud_tb, Nat.mod_eq_of_lt (lk_lt a)]
theorem long_at {h : Heap} {N a b : Nat} (hb1 : 2 ≤ lk b) (hab : b ≤ a) (ha : lk a ≤ 8589934592) :
    spLong [.slice (some ⟨N + 1, 0, none⟩) (lk a) (lk a), .slice (some ⟨N + 0, 0, none⟩) (lk b) (lk b)] ((N + 1, some ⟨118, 1, false, tb (lk a) (lm a)⟩) :: (N + 0, some ⟨118, 1, false, tb (lk b) (lm b)⟩) :: h) =
      some (fun x y => .tuple ⟨[.slice (some ⟨x, 0, none⟩) (lk a + 1 - lk b) (lk a + 1 - lk b), .slice (some ⟨y, 0, none⟩) (lk b) (lk b)]⟩, ⟨118, 1, false, tb (lk a + 1 - lk b) (lm (a / b))⟩, ⟨118, 1, false, tb (lk b) (lm (a % b))⟩) := by
  have hb0 : b ≠ 0 := fun e => by rw [lk_zero.2 e] at hb1; omega
  unfold spLong
  simp only [shows, hget, if_true, if_neg (show ¬ N + 1 = N + 0 by omega), tb_length, Nat.zero_add, Nat.le_refl, List.drop_zero, tb_all]
  have ea : ud (tb (lk a) (lm a)) = a := by rw [ud_tb, Nat.mod_eq_of_lt (lk_lt a)]
  have eb : ud (tb (lk b) (lm b)) = b := by rw [ud_tb, Nat.mod_eq_of_lt (lk_lt b)]
  rw [ea, eb, if_pos ⟨uok_lm _ _, uok_lm _ _, hb1, lk_mono hab, ha, lk_low hb0⟩]
theorem mag_quo {a b : Nat} (hb0 : b ≠ 0) (hab : b ≤ a) : a / b < 4294967296 ^ (lk a + 1 - lk b) := by
  have h1 := lk_low hb0
  have h2 := lk_lt a
  have h3 := lk_mono hab
  have h0 : lk b ≠ 0 := fun e => hb0 (lk_zero.1 e)
  refine (Nat.div_lt_iff_lt_mul (by omega)).2 ?_
  have e : 4294967296 ^ lk a = 4294967296 ^ (lk a + 1 - lk b) * 4294967296 ^ (lk b - 1) := by rw [← Nat.pow_add]; congr 1; omega
  rw [e] at h2
  exact Nat.lt_of_lt_of_le h2 (Nat.mul_le_mul_left _ h1)
set_option maxHeartbeats 1000000 in
theorem ok_nDiv : SpecOK Tryz.prog 68 (flat spNDiv) := by
  refine flat_run (env_cons ok_nlimbs (env_cons ok_nCmp (env_cons ok_nNorm (env_cons ok_nshort (env_cons ok_nmag (env_cons ok_nFU64 (env_cons ok_nlong (env_nil _)))))))) mixed tr68 ?_
  intro args v h N hG
  unfold spNDiv at hG
  split at hG
  case h_2 => cases hG
  rename_i l m
  split at hG
  case isFalse => cases hG
  rename_i hl
  obtain ⟨hl, hm⟩ := hl
  have hl' : l.length ≤ 1099511627776 := by omega
  have hm' : m.length ≤ 1099511627776 := by omega
  have hL : lk (nl l) ≤ 8589934592 := lk_len (Nat.le_trans (bl_length_nl l) (by omega))
  have hM : lk (nl m) ≤ 8589934592 := lk_len (Nat.le_trans (bl_length_nl m) (by omega))
  split at hG
  · rename_i h0
    cases hG
    refine ⟨rfl, by simp, ?_⟩
    have hk : lk 0 = 0 := lk_zero.2 rfl
    simp only [c68, initT, List.zipIdx_cons, List.zipIdx_nil, List.map_cons, List.map_nil, Nat.reduceAdd]
    simp only [↓R0, R1, rdL, rdH, isCall, istep, ibin, vcells, fillI, setR, flat, okCell, isBase, List.set, List.drop, List.take, List.append, bnds, bhi, blo, srcOf, ↓reduceIte, Nat.reduceEqDiff, Nat.reduceAdd, Nat.reduceLeDiff, reduceCtorEq, Nat.reduceSub, Int.reduceEq, Int.reduceLT, Int.reduceLE, Int.reduceGT, Int.reduceGE, Int.reduceSub, Int.reduceAdd, Int.reduceMul, Int.reduceNe, Int.reduceNeg, Int.reduceToNat, Nat.reduceMul, nwS, spLimbs, hl', hm', h0, hk, Int.natCast_zero, Fin, isEnd, resL, res1, iE, rE]
    exact ⟨_, rfl, rfl, fun k hk => by simp only [ne_nb hk, if_false]⟩
  rename_i h0
  cases hG
  refine ⟨rfl, by simp, ?_⟩
  simp only [c68, initT, List.zipIdx_cons, List.zipIdx_nil, List.map_cons, List.map_nil, Nat.reduceAdd]
  generalize ha : nl l = a at *
  generalize hb : nl m = b at *
  have hk0 : ¬ (lk b = 0) := fun e => h0 (lk_zero.1 e)
  have hk0' : ¬ (((lk b : Nat) : Int) = 0) := by omega
  by_cases hlt : a < b
  · rw [Nat.div_eq_of_lt hlt, Nat.mod_eq_of_lt hlt, bl_zero]
    simp only [↓R0, R1, rdL, rdH, isCall, istep, ibin, vcells, fillI, setR, flat, okCell, isBase, List.set, List.drop, List.take, List.append, bnds, bhi, blo, srcOf, ↓reduceIte, Nat.reduceEqDiff, Nat.reduceAdd, Nat.reduceLeDiff, reduceCtorEq, Nat.reduceSub, Int.reduceEq, Int.reduceLT, Int.reduceLE, Int.reduceGT, Int.reduceGE, Int.reduceSub, Int.reduceAdd, Int.reduceMul, Int.reduceNe, Int.reduceNeg, Int.reduceToNat, Nat.reduceMul, nwS, spLimbs, hl', hm', ha, hb, hk0, hk0', spNCmp, cmpN_neg, hlt, spNNorm, Fin, isEnd, resL, res1, iE, rE]
    exact ⟨_, rfl, rfl, fun k hk => by simp only [ne_nb hk, if_false]⟩
  by_cases hk1 : lk b = 1
  · have hb1 : b < 4294967296 := by have := lk_lt b; rw [hk1] at this; omega
    have t0 : (tb 1 (lm b))[0]? = some (.int .u32 (b : Nat)) := by rw [tb_get' _ (by omega), lm_zero, Nat.mod_eq_of_lt hb1]
    have hr := Nat.mod_lt a (show b > 0 by omega)
    have w1 := u64_nat (n := a % b) (by omega)
    have w2 : ((a % b : Nat) : Int) < 18446744073709551616 := by omega
    have hq : ud (tb (lk a) (lm (a / b))) = a / b := by rw [ud_tb, Nat.mod_eq_of_lt (Nat.lt_of_le_of_lt (Nat.div_le_self _ _) (lk_lt a))]
    have c5 : lk a ≤ 34359738368 := by omega
    have ss := fun h => short_at (h := h) (N := N) h0 hk1 hL
    simp only [↓R0, R1, rdL, rdH, isCall, istep, ibin, vcells, fillI, setR, flat, okCell, isBase, List.set, List.drop, List.take, List.append, bnds, bhi, blo, srcOf, ↓reduceIte, Nat.reduceEqDiff, Nat.reduceAdd, Nat.reduceLeDiff, reduceCtorEq, Nat.reduceSub, Int.reduceEq, Int.reduceLT, Int.reduceLE, Int.reduceGT, Int.reduceGE, Int.reduceSub, Int.reduceAdd, Int.reduceMul, Int.reduceNe, Int.reduceNeg, Int.reduceToNat, Nat.reduceMul, nwS, spLimbs, hl', hm', ha, hb, hk0, hk0', spNCmp, cmpN_neg, hlt, hk1, t0, ss, rdS, spMag, shows, tb_all, uok_lm, tb_length, c5, hq, w1, w2, spFU64, Fin, isEnd, resL, res1, iE, rE]
    exact ⟨_, rfl, rfl, fun k hk => by simp only [ne_nb hk, if_false]⟩
  · have hk2 : 2 ≤ lk b := by omega
    have hk1' : ¬ (((lk b : Nat) : Int) = 1) := by omega
    have nn : ¬ (N = N + 1) := by omega
    have ss := fun h => long_at (h := h) (N := N) hk2 (show b ≤ a by omega) hL
    have hq : ud (tb (lk a + 1 - lk b) (lm (a / b))) = a / b := by rw [ud_tb, Nat.mod_eq_of_lt (mag_quo h0 (by omega))]
    have hr : ud (tb (lk b) (lm (a % b))) = a % b := by rw [ud_tb, Nat.mod_eq_of_lt (Nat.lt_trans (Nat.mod_lt a (by omega)) (lk_lt b))]
    have c5 : lk a + 1 - lk b ≤ 34359738368 := by omega
    have c6 : lk b ≤ 34359738368 := by omega
    simp only [↓R0, R1, rdL, rdH, isCall, istep, ibin, vcells, fillI, setR, flat, okCell, isBase, List.set, List.drop, List.take, List.append, bnds, bhi, blo, srcOf, ↓reduceIte, Nat.reduceEqDiff, Nat.reduceAdd, Nat.reduceLeDiff, reduceCtorEq, Nat.reduceSub, Int.reduceEq, Int.reduceLT, Int.reduceLE, Int.reduceGT, Int.reduceGE, Int.reduceSub, Int.reduceAdd, Int.reduceMul, Int.reduceNe, Int.reduceNeg, Int.reduceToNat, Nat.reduceMul, nwS, spLimbs, hl', hm', ha, hb, hk0, hk0', spNCmp, cmpN_neg, hlt, hk1, hk1', nn, ss, nw2S, a_call2, rdS, spMag, shows, tb_all, uok_lm, tb_length, c5, c6, hq, hr, Fin, isEnd, resL, res1, iE, rE]
    exact ⟨_, rfl, rfl, fun k hk => by simp only [ne_nb hk, if_false]; rw [if_neg (by omega)]⟩
def spNGcd : List Value → Option Value
  | [.string ⟨⟨l⟩⟩, .string ⟨⟨m⟩⟩] => if l.length ≤ 34359738368 ∧ m.length ≤ 34359738368 then some (.string ⟨⟨bl (Nat.gcd (nl l) (nl m))⟩⟩) else none
  | _ => none
def c66 : ICode :=
  (.seq (.reg [⟨(some 4), none, (.mv (.c (.string ⟨⟨[]⟩⟩)))⟩])
  (.seq (.block 0 (.loop (.seq (.seq (.reg [⟨(some 12), none, (.mv (.t 1))⟩, ⟨(some 13), none, (.call 108 [(.t 12)])⟩, ⟨(some 14), none, (.bin .neq (.t 13) (.c (.string ⟨⟨[]⟩⟩)))⟩])
  (.cond (.t 14)
  .skip
  (.exit 0)))
  (.block 1 (.seq (.reg [⟨(some 16), none, (.mv (.t 0))⟩, ⟨(some 17), none, (.call 109 [(.t 16)])⟩, ⟨(some 15), none, (.mv (.t 17))⟩, ⟨(some 18), none, (.ext (.t 15) 0)⟩, ⟨(some 19), none, (.ext (.t 15) 1)⟩, ⟨(some 5), none, (.mv (.t 18))⟩, ⟨(some 6), none, (.mv (.t 19))⟩])
  (.seq (.reg [⟨(some 21), none, (.mv (.t 1))⟩, ⟨(some 22), none, (.call 109 [(.t 21)])⟩, ⟨(some 20), none, (.mv (.t 22))⟩, ⟨(some 23), none, (.ext (.t 20) 0)⟩, ⟨(some 24), none, (.ext (.t 20) 1)⟩, ⟨(some 7), none, (.mv (.t 23))⟩, ⟨(some 8), none, (.mv (.t 24))⟩])
  (.seq (.seq (.reg [⟨(some 25), none, (.mv (.t 6))⟩, ⟨(some 26), none, (.mv (.t 25))⟩, ⟨(some 27), (some (26, true)), (.mv (.t 8))⟩, ⟨(some 28), none, (.pick (.t 26) (.t 27) (.c (.bool false)))⟩])
  (.cond (.t 28)
  (.seq (.block 2 (.loop (.seq (.seq (.reg [⟨(some 29), none, (.mv (.t 7))⟩, ⟨(some 30), none, (.bin .neq (.t 29) (.c (.int .u64 0)))⟩])
  (.cond (.t 30)
  .skip
  (.exit 2)))
  (.block 3 (.dreg [⟨(some 31), none, [], (.mv (.t 7))⟩, ⟨(some 32), none, [], (.mv (.t 5))⟩, ⟨(some 33), none, [], (.mv (.t 7))⟩, ⟨(some 34), none, [], (.bin .rem (.t 32) (.t 33))⟩, ⟨(some 5), none, [], (.mv (.t 31))⟩, ⟨(some 7), none, [], (.mv (.t 34))⟩])))))
  (.seq (.reg [⟨(some 35), none, (.mv (.t 5))⟩, ⟨(some 36), none, (.call 70 [(.t 35)])⟩, ⟨(some 4), none, (.mv (.t 36))⟩])
  .ret))
  .skip))
  (.seq (.reg [⟨(some 38), none, (.mv (.t 0))⟩, ⟨(some 39), none, (.mv (.t 1))⟩, ⟨(some 40), none, (.call 68 [(.t 38), (.t 39)])⟩, ⟨(some 37), none, (.mv (.t 40))⟩, ⟨(some 41), none, (.ext (.t 37) 0)⟩, ⟨(some 42), none, (.ext (.t 37) 1)⟩, ⟨(some 43), none, (.ext (.t 37) 2)⟩, ⟨(some 9), none, (.mv (.t 41))⟩, ⟨(some 10), none, (.mv (.t 42))⟩, ⟨(some 11), none, (.mv (.t 43))⟩])
  (.reg [⟨(some 44), none, (.mv (.t 1))⟩, ⟨(some 45), none, (.mv (.t 10))⟩, ⟨(some 0), none, (.mv (.t 44))⟩, ⟨(some 1), none, (.mv (.t 45))⟩])))))))))
  (.seq (.reg [⟨(some 46), none, (.mv (.t 0))⟩, ⟨(some 47), none, (.call 108 [(.t 46)])⟩, ⟨(some 4), none, (.mv (.t 47))⟩])
  .ret)))
theorem tr66 : trFun Tryz.prog 66 = some ⟨48, [.t 4], c66⟩ := by kernel_rfl
theorem gcd_len {a b k : Nat} (hb : b ≠ 0) (h : (bl b).length ≤ k) : (bl (a % b)).length ≤ k :=
  Nat.le_trans (bl_length_mono (Nat.le_of_lt (Nat.mod_lt _ (by omega)))) h
set_option maxHeartbeats 1000000 in
theorem ok_nGcd : SpecOK Tryz.prog 66 (flat spNGcd) := by
  refine flat_run (env_cons ok_nNorm (env_cons ok_nU64 (env_cons ok_nFU64 (env_cons ok_nDiv (env_nil _))))) mixed tr66 ?_
  intro args v h N hG
  unfold spNGcd at hG
  split at hG
  case h_2 => cases hG
  rename_i l m
  split at hG
  case isFalse => cases hG
  rename_i hl
  obtain ⟨hl, hm⟩ := hl
  cases hG
  refine ⟨rfl, by simp, ?_⟩
  simp only [c66, initT, List.zipIdx_cons, List.zipIdx_nil, List.map_cons, List.map_nil, Nat.reduceAdd]
  simp only [↓R0, R1, rdL, rdH, isCall, istep, ibin, vcells, fillI, setR, flat, okCell, isBase, List.set, List.drop, List.take, List.append, bnds, bhi, blo, srcOf, ↓reduceIte, Nat.reduceEqDiff, Nat.reduceAdd, Nat.reduceLeDiff, reduceCtorEq, Nat.reduceSub, Int.reduceEq, Int.reduceLT, Int.reduceLE, Int.reduceGT, Int.reduceGE, Int.reduceSub, Int.reduceAdd, Int.reduceMul, Int.reduceNe, Int.reduceNeg, Int.reduceToNat, Nat.reduceMul]
  refine lp_parts (fun n tm hp nx => ∃ (l' m' : List UInt8), n = nl m' ∧ tmget tm 0 = .string ⟨⟨l'⟩⟩ ∧ tmget tm 1 = .string ⟨⟨m'⟩⟩ ∧ l'.length ≤ 34359738368 ∧ m'.length ≤ 34359738368 ∧ Nat.gcd (nl l') (nl m') = Nat.gcd (nl l) (nl m) ∧
      hp = h ∧ nx = N + 0) ?_ (nl m) ⟨l, m, rfl, ?_, ?_, hl, hm, rfl, rfl, rfl⟩
  · intro n tm hp nx ⟨l', m', hn, h0, h1, hl1, hm1, hg, hh, hnx⟩
    rw [hnx, hh]
    clear hnx hh
    rw [← hg]
    have hl' : l'.length ≤ 1099511627776 := by omega
    have hm' : m'.length ≤ 1099511627776 := by omega
    by_cases hb0 : nl m' = 0
    · rw [hb0, Nat.gcd_zero_right]
      simp only [↓R0, R1, rdL, rdH, isCall, istep, ibin, vcells, fillI, setR, flat, okCell, isBase, List.set, List.drop, List.take, List.append, bnds, bhi, blo, srcOf, ↓reduceIte, Nat.reduceEqDiff, Nat.reduceAdd, Nat.reduceLeDiff, reduceCtorEq, Nat.reduceSub, Int.reduceEq, Int.reduceLT, Int.reduceLE, Int.reduceGT, Int.reduceGE, Int.reduceSub, Int.reduceAdd, Int.reduceMul, Int.reduceNe, Int.reduceNeg, Int.reduceToNat, Nat.reduceMul, h0, h1, spNNorm, hl', hm', hb0, bl_zero, Fin, isEnd, resL, res1, iE, rE]
      exact ⟨_, rfl, rfl, fun k hk => by simp only [ne_nb hk, if_false]⟩
    · have hbn : ¬ (bl (nl m') = []) := fun e => hb0 (bl_eq_nil.1 e)
      by_cases hs : nl l' < 18446744073709551616 ∧ nl m' < 18446744073709551616
      · obtain ⟨hs1, hs2⟩ := hs
        simp only [↓R0, R1, rdL, rdH, isCall, istep, ibin, vcells, fillI, setR, flat, okCell, isBase, List.set, List.drop, List.take, List.append, bnds, bhi, blo, srcOf, ↓reduceIte, Nat.reduceEqDiff, Nat.reduceAdd, Nat.reduceLeDiff, reduceCtorEq, Nat.reduceSub, Int.reduceEq, Int.reduceLT, Int.reduceLE, Int.reduceGT, Int.reduceGE, Int.reduceSub, Int.reduceAdd, Int.reduceMul, Int.reduceNe, Int.reduceNeg, Int.reduceToNat, Nat.reduceMul, h0, h1, spNNorm, hl', hm', hbn, spU64, hs1, hs2]
        generalize nl l' = a at *
        generalize nl m' = b at *
        refine lp_parts (fun n tm hp nx => ∃ (x : Nat), x < 18446744073709551616 ∧ n < 18446744073709551616 ∧ tmget tm 5 = .int .u64 x ∧ tmget tm 7 = .int .u64 n ∧ Nat.gcd x n = Nat.gcd a b ∧ hp = h ∧ nx = N + 0) ?_ b ⟨a, hs1, hs2, ?_, ?_, rfl, rfl, rfl⟩
        · clear h0 h1
          clear tm hp
          intro y tm hp nx ⟨x, hx, hy, h5, h7, hxy, hh, hnx⟩
          rw [hnx, hh]
          clear hnx hh
          by_cases y0 : y = 0
          · subst y0
            rw [Nat.gcd_zero_right] at hxy
            rw [← hxy]
            have f1 : ((x : Nat) : Int) < 18446744073709551616 := by omega
            simp only [↓R0, R1, rdL, rdH, isCall, istep, ibin, vcells, fillI, setR, flat, okCell, isBase, List.set, List.drop, List.take, List.append, bnds, bhi, blo, srcOf, ↓reduceIte, Nat.reduceEqDiff, Nat.reduceAdd, Nat.reduceLeDiff, reduceCtorEq, Nat.reduceSub, Int.reduceEq, Int.reduceLT, Int.reduceLE, Int.reduceGT, Int.reduceGE, Int.reduceSub, Int.reduceAdd, Int.reduceMul, Int.reduceNe, Int.reduceNeg, Int.reduceToNat, Nat.reduceMul, h5, h7, spFU64, f1, Int.natCast_zero, Fin, isEnd, resL, res1, iE, rE]
            exact ⟨_, rfl, rfl, fun k hk => by simp only [ne_nb hk, if_false]⟩
          · have y1 : ¬ ((y : Int) = 0) := by omega
            have e1 : (x : Int).tmod (y : Int) = ((x % y : Nat) : Int) := by rw [Int.tmod_eq_emod_of_nonneg (by omega)]; rfl
            have hmod := Nat.mod_lt x (show y > 0 by omega)
            simp only [↓R0, R1, rdL, rdH, isCall, istep, ibin, vcells, fillI, setR, flat, okCell, isBase, List.set, List.drop, List.take, List.append, bnds, bhi, blo, srcOf, ↓reduceIte, Nat.reduceEqDiff, Nat.reduceAdd, Nat.reduceLeDiff, reduceCtorEq, Nat.reduceSub, Int.reduceEq, Int.reduceLT, Int.reduceLE, Int.reduceGT, Int.reduceGE, Int.reduceSub, Int.reduceAdd, Int.reduceMul, Int.reduceNe, Int.reduceNeg, Int.reduceToNat, Nat.reduceMul, h5, h7, y0, y1, e1]
            refine ⟨x % y, hmod, y, hy, by omega, rfl, rfl, ?_⟩
            rw [← hxy, Nat.gcd_comm x y, Nat.gcd_rec y x, Nat.gcd_comm]
        · (first | (simp only [↓R0, R1, rdL, rdH, isCall, istep, ibin, vcells, fillI, setR, flat, okCell, isBase, List.set, List.drop, List.take, List.append, bnds, bhi, blo, srcOf, ↓reduceIte, Nat.reduceEqDiff, Nat.reduceAdd, Nat.reduceLeDiff, reduceCtorEq, Nat.reduceSub, Int.reduceEq, Int.reduceLT, Int.reduceLE, Int.reduceGT, Int.reduceGE, Int.reduceSub, Int.reduceAdd, Int.reduceMul, Int.reduceNe, Int.reduceNeg, Int.reduceToNat, Nat.reduceMul]; done) | (simp only [↓R0, R1, rdL, rdH, isCall, istep, ibin, vcells, fillI, setR, flat, okCell, isBase, List.set, List.drop, List.take, List.append, bnds, bhi, blo, srcOf, ↓reduceIte, Nat.reduceEqDiff, Nat.reduceAdd, Nat.reduceLeDiff, reduceCtorEq, Nat.reduceSub, Int.reduceEq, Int.reduceLT, Int.reduceLE, Int.reduceGT, Int.reduceGE, Int.reduceSub, Int.reduceAdd, Int.reduceMul, Int.reduceNe, Int.reduceNeg, Int.reduceToNat, Nat.reduceMul]; rfl) | rfl)
        · (first | (simp only [↓R0, R1, rdL, rdH, isCall, istep, ibin, vcells, fillI, setR, flat, okCell, isBase, List.set, List.drop, List.take, List.append, bnds, bhi, blo, srcOf, ↓reduceIte, Nat.reduceEqDiff, Nat.reduceAdd, Nat.reduceLeDiff, reduceCtorEq, Nat.reduceSub, Int.reduceEq, Int.reduceLT, Int.reduceLE, Int.reduceGT, Int.reduceGE, Int.reduceSub, Int.reduceAdd, Int.reduceMul, Int.reduceNe, Int.reduceNeg, Int.reduceToNat, Nat.reduceMul]; done) | (simp only [↓R0, R1, rdL, rdH, isCall, istep, ibin, vcells, fillI, setR, flat, okCell, isBase, List.set, List.drop, List.take, List.append, bnds, bhi, blo, srcOf, ↓reduceIte, Nat.reduceEqDiff, Nat.reduceAdd, Nat.reduceLeDiff, reduceCtorEq, Nat.reduceSub, Int.reduceEq, Int.reduceLT, Int.reduceLE, Int.reduceGT, Int.reduceGE, Int.reduceSub, Int.reduceAdd, Int.reduceMul, Int.reduceNe, Int.reduceNeg, Int.reduceToNat, Nat.reduceMul]; rfl) | rfl)
      · have next : ∃ n', n' < n ∧ n' = nl (bl (nl l' % nl m')) := ⟨_, by rw [nl_bl, hn]; exact Nat.mod_lt _ (by omega), rfl⟩
        have hgg : Nat.gcd (nl m') (nl (bl (nl l' % nl m'))) = Nat.gcd (nl l') (nl m') := by
          rw [nl_bl, Nat.gcd_comm (nl l') (nl m'), Nat.gcd_rec (nl m') (nl l'), Nat.gcd_comm]
        have hlen : (bl (nl l' % nl m')).length ≤ 34359738368 := gcd_len hb0 (Nat.le_trans (bl_length_nl m') hm1)
        obtain ⟨n', hn1, hn2⟩ := next
        by_cases hs1 : nl l' < 18446744073709551616
        · have hs2 : ¬ (nl m' < 18446744073709551616) := fun e => hs ⟨hs1, e⟩
          simp only [↓R0, R1, rdL, rdH, isCall, istep, ibin, vcells, fillI, setR, flat, okCell, isBase, List.set, List.drop, List.take, List.append, bnds, bhi, blo, srcOf, ↓reduceIte, Nat.reduceEqDiff, Nat.reduceAdd, Nat.reduceLeDiff, reduceCtorEq, Nat.reduceSub, Int.reduceEq, Int.reduceLT, Int.reduceLE, Int.reduceGT, Int.reduceGE, Int.reduceSub, Int.reduceAdd, Int.reduceMul, Int.reduceNe, Int.reduceNeg, Int.reduceToNat, Nat.reduceMul, h0, h1, spNNorm, hl', hm', hbn, spU64, hs1, hs2, spNDiv, hl1, hm1, hb0]
          refine ⟨n', hn1, m', bl (nl l' % nl m'), hn2, rfl, rfl, hm1, hlen, hgg⟩
        · by_cases hs2 : nl m' < 18446744073709551616
          · have := hs
            simp only [↓R0, R1, rdL, rdH, isCall, istep, ibin, vcells, fillI, setR, flat, okCell, isBase, List.set, List.drop, List.take, List.append, bnds, bhi, blo, srcOf, ↓reduceIte, Nat.reduceEqDiff, Nat.reduceAdd, Nat.reduceLeDiff, reduceCtorEq, Nat.reduceSub, Int.reduceEq, Int.reduceLT, Int.reduceLE, Int.reduceGT, Int.reduceGE, Int.reduceSub, Int.reduceAdd, Int.reduceMul, Int.reduceNe, Int.reduceNeg, Int.reduceToNat, Nat.reduceMul, h0, h1, spNNorm, hl', hm', hbn, spU64, hs1, hs2, spNDiv, hl1, hm1, hb0]
            refine ⟨n', hn1, m', bl (nl l' % nl m'), hn2, rfl, rfl, hm1, hlen, hgg⟩
          · have := hs
            simp only [↓R0, R1, rdL, rdH, isCall, istep, ibin, vcells, fillI, setR, flat, okCell, isBase, List.set, List.drop, List.take, List.append, bnds, bhi, blo, srcOf, ↓reduceIte, Nat.reduceEqDiff, Nat.reduceAdd, Nat.reduceLeDiff, reduceCtorEq, Nat.reduceSub, Int.reduceEq, Int.reduceLT, Int.reduceLE, Int.reduceGT, Int.reduceGE, Int.reduceSub, Int.reduceAdd, Int.reduceMul, Int.reduceNe, Int.reduceNeg, Int.reduceToNat, Nat.reduceMul, h0, h1, spNNorm, hl', hm', hbn, spU64, hs1, hs2, spNDiv, hl1, hm1, hb0]
            refine ⟨n', hn1, m', bl (nl l' % nl m'), hn2, rfl, rfl, hm1, hlen, hgg⟩
  · (first | (simp only [↓R0, R1, rdL, rdH, isCall, istep, ibin, vcells, fillI, setR, flat, okCell, isBase, List.set, List.drop, List.take, List.append, bnds, bhi, blo, srcOf, ↓reduceIte, Nat.reduceEqDiff, Nat.reduceAdd, Nat.reduceLeDiff, reduceCtorEq, Nat.reduceSub, Int.reduceEq, Int.reduceLT, Int.reduceLE, Int.reduceGT, Int.reduceGE, Int.reduceSub, Int.reduceAdd, Int.reduceMul, Int.reduceNe, Int.reduceNeg, Int.reduceToNat, Nat.reduceMul]; done) | (simp only [↓R0, R1, rdL, rdH, isCall, istep, ibin, vcells, fillI, setR, flat, okCell, isBase, List.set, List.drop, List.take, List.append, bnds, bhi, blo, srcOf, ↓reduceIte, Nat.reduceEqDiff, Nat.reduceAdd, Nat.reduceLeDiff, reduceCtorEq, Nat.reduceSub, Int.reduceEq, Int.reduceLT, Int.reduceLE, Int.reduceGT, Int.reduceGE, Int.reduceSub, Int.reduceAdd, Int.reduceMul, Int.reduceNe, Int.reduceNeg, Int.reduceToNat, Nat.reduceMul]; rfl) | rfl)
  · (first | (simp only [↓R0, R1, rdL, rdH, isCall, istep, ibin, vcells, fillI, setR, flat, okCell, isBase, List.set, List.drop, List.take, List.append, bnds, bhi, blo, srcOf, ↓reduceIte, Nat.reduceEqDiff, Nat.reduceAdd, Nat.reduceLeDiff, reduceCtorEq, Nat.reduceSub, Int.reduceEq, Int.reduceLT, Int.reduceLE, Int.reduceGT, Int.reduceGE, Int.reduceSub, Int.reduceAdd, Int.reduceMul, Int.reduceNe, Int.reduceNeg, Int.reduceToNat, Nat.reduceMul]; done) | (simp only [↓R0, R1, rdL, rdH, isCall, istep, ibin, vcells, fillI, setR, flat, okCell, isBase, List.set, List.drop, List.take, List.append, bnds, bhi, blo, srcOf, ↓reduceIte, Nat.reduceEqDiff, Nat.reduceAdd, Nat.reduceLeDiff, reduceCtorEq, Nat.reduceSub, Int.reduceEq, Int.reduceLT, Int.reduceLE, Int.reduceGT, Int.reduceGE, Int.reduceSub, Int.reduceAdd, Int.reduceMul, Int.reduceNe, Int.reduceNeg, Int.reduceToNat, Nat.reduceMul]; rfl) | rfl)
end Go.Eng
end
section
set_option linter.unusedVariables false
set_option linter.unusedSimpArgs false
set_option linter.unusedSectionVars false
set_option maxRecDepth 4000
namespace Go.Eng
open Go Go.Proofs Go.IntWalk
def spIof : List Value → Option Value
  | [.bool s, .string ⟨⟨l⟩⟩] => if bl (nl l) = l then some (.agg ⟨iE (sv s l)⟩) else none
  | _ => none
def c69 : ICode :=
  (.seq (.reg [⟨(some 4), none, (.alloc 23 2 [(.bool false), (.string ⟨⟨[]⟩⟩)])⟩])
  (.seq (.reg [⟨(some 5), none, (.mv (.t 0))⟩, ⟨(some 6), none, (.mv (.t 5))⟩, ⟨(some 7), (some (6, true)), (.mv (.t 1))⟩, ⟨(some 8), (some (6, true)), (.bin .neq (.t 7) (.c (.string ⟨⟨[]⟩⟩)))⟩, ⟨(some 9), none, (.pick (.t 6) (.t 8) (.c (.bool false)))⟩, ⟨(some 10), none, (.mv (.t 1))⟩, ⟨(some 11), none, (.build [(.bool false), (.string ⟨⟨[]⟩⟩)] [(0, 1, (.t 9)), (1, 1, (.t 10))])⟩, ⟨none, none, (.store 2 (.t 4) (.t 11))⟩])
  .ret))
theorem tr69 : trFun Tryz.prog 69 = some ⟨12, [.cell 4 true 2], c69⟩ := by kernel_rfl
theorem ok_iof : SpecOK Tryz.prog 69 (flat spIof) := by
  refine flat_run (env_nil _) mixed tr69 ?_
  intro args v h N hG
  unfold spIof at hG
  split at hG
  case h_2 => cases hG
  rename_i s l
  split at hG
  case isFalse => cases hG
  rename_i hl
  cases hG
  refine ⟨rfl, by simp, ?_⟩
  rw [iE_sv, hl]
  simp only [c69, initT, List.zipIdx_cons, List.zipIdx_nil, List.map_cons, List.map_nil, Nat.reduceAdd]
  cases s
  · simp only [↓R0, R1, rdL, rdH, isCall, istep, ibin, vcells, fillI, setR, flat, okCell, isBase, List.set, List.drop, List.take, List.append, bnds, bhi, blo, srcOf, ↓reduceIte, Nat.reduceEqDiff, Nat.reduceAdd, Nat.reduceLeDiff, reduceCtorEq, Nat.reduceSub, Int.reduceEq, Int.reduceLT, Int.reduceLE, Int.reduceGT, Int.reduceGE, Int.reduceSub, Int.reduceAdd, Int.reduceMul, Int.reduceNe, Int.reduceNeg, Int.reduceToNat, Nat.reduceMul, Bool.false_and, Fin, isEnd, resL, res1, iE, rE]
    exact ⟨_, rfl, rfl, fun k hk => by simp only [ne_nb hk, if_false]⟩
  · simp only [↓R0, R1, rdL, rdH, isCall, istep, ibin, vcells, fillI, setR, flat, okCell, isBase, List.set, List.drop, List.take, List.append, bnds, bhi, blo, srcOf, ↓reduceIte, Nat.reduceEqDiff, Nat.reduceAdd, Nat.reduceLeDiff, reduceCtorEq, Nat.reduceSub, Int.reduceEq, Int.reduceLT, Int.reduceLE, Int.reduceGT, Int.reduceGE, Int.reduceSub, Int.reduceAdd, Int.reduceMul, Int.reduceNe, Int.reduceNeg, Int.reduceToNat, Nat.reduceMul, Bool.true_and, Fin, isEnd, resL, res1, iE, rE]
    exact ⟨_, rfl, rfl, fun k hk => by simp only [ne_nb hk, if_false]⟩
def spINorm : List Value → Option Value
  | [.agg ⟨[.bool s, .string ⟨⟨l⟩⟩]⟩] => if l.length ≤ 1099511627776 then some (.agg ⟨iE (sv s l)⟩) else none
  | _ => none
def c78 : ICode :=
  (.seq (.reg [⟨(some 1), none, (.box 23 2 (.t 0))⟩, ⟨(some 2), none, (.alloc 23 2 [(.bool false), (.string ⟨⟨[]⟩⟩)])⟩])
  (.seq (.dreg [⟨(some 3), none, [], (.faddr 0 (.t 1))⟩, ⟨(some 4), none, [], (.load false 1 (.t 3))⟩, ⟨(some 5), none, [], (.faddr 1 (.t 1))⟩, ⟨(some 6), none, [], (.load false 1 (.t 5))⟩, ⟨(some 7), none, [], (.call 108 [(.t 6)])⟩, ⟨(some 8), none, [], (.call 69 [(.t 4), (.t 7)])⟩, ⟨none, none, [], (.store 2 (.t 2) (.t 8))⟩])
  .ret))
theorem tr78 : trFun Tryz.prog 78 = some ⟨9, [.cell 2 true 2], c78⟩ := by kernel_rfl
theorem sv_nl (s : Bool) (l : List UInt8) : sv s (bl (nl l)) = sv s l := by cases s <;> simp [sv, nl_bl]
theorem ok_iNorm : SpecOK Tryz.prog 78 (flat spINorm) := by
  refine flat_run (env_cons ok_iof (env_cons ok_nNorm (env_nil _))) mixed tr78 ?_
  intro args v h N hG
  unfold spINorm at hG
  split at hG
  case h_2 => cases hG
  rename_i s l
  split at hG
  case isFalse => cases hG
  rename_i hl
  cases hG
  refine ⟨rfl, by simp, ?_⟩
  simp only [c78, initT, List.zipIdx_cons, List.zipIdx_nil, List.map_cons, List.map_nil, Nat.reduceAdd]
  simp only [↓R0, R1, rdL, rdH, isCall, istep, ibin, vcells, fillI, setR, flat, okCell, isBase, List.set, List.drop, List.take, List.append, bnds, bhi, blo, srcOf, ↓reduceIte, Nat.reduceEqDiff, Nat.reduceAdd, Nat.reduceLeDiff, reduceCtorEq, Nat.reduceSub, Int.reduceEq, Int.reduceLT, Int.reduceLE, Int.reduceGT, Int.reduceGE, Int.reduceSub, Int.reduceAdd, Int.reduceMul, Int.reduceNe, Int.reduceNeg, Int.reduceToNat, Nat.reduceMul, spNNorm, spIof, hl, nl_bl, sv_nl, Fin, isEnd, resL, res1, iE, rE]
  exact ⟨_, rfl, rfl, fun k hk => by simp only [ne_nb hk, if_false]⟩
def spISign : List Value → Option Value
  | [.agg ⟨[.bool s, .string ⟨⟨l⟩⟩]⟩] => if l.length ≤ 1099511627776 then some (.int .i64 (sv s l).sign) else none
  | _ => none
def c65 : ICode :=
  (.seq (.reg [⟨(some 1), none, (.box 23 2 (.t 0))⟩, ⟨(some 2), none, (.mv (.c (.int .i64 0)))⟩])
  (.seq (.seq (.reg [⟨(some 3), none, (.load true 2 (.t 1))⟩, ⟨(some 4), none, (.call 78 [(.t 3)])⟩, ⟨none, none, (.store 2 (.t 1) (.t 4))⟩])
  (.block 0 (.seq (.reg [⟨(some 6), none, (.faddr 0 (.t 1))⟩, ⟨(some 7), none, (.load false 1 (.t 6))⟩, ⟨(some 5), none, (.mv (.t 7))⟩])
  (.cond (.t 5)
  (.seq (.reg [⟨(some 2), none, (.mv (.c (.int .i64 (-1))))⟩])
  .ret)
  (.seq (.reg [⟨(some 9), none, (.faddr 1 (.t 1))⟩, ⟨(some 10), none, (.load false 1 (.t 9))⟩, ⟨(some 11), none, (.bin .neq (.t 10) (.c (.string ⟨⟨[]⟩⟩)))⟩, ⟨(some 8), none, (.mv (.t 11))⟩])
  (.cond (.t 8)
  (.seq (.reg [⟨(some 2), none, (.mv (.c (.int .i64 1)))⟩])
  .ret)
  .skip))))))
  (.seq (.reg [⟨(some 2), none, (.mv (.c (.int .i64 0)))⟩])
  .ret)))
theorem tr65 : trFun Tryz.prog 65 = some ⟨12, [.t 2], c65⟩ := by kernel_rfl
theorem ok_iSign : SpecOK Tryz.prog 65 (flat spISign) := by
  refine flat_run (env_cons ok_iNorm (env_nil _)) mixed tr65 ?_
  intro args v h N hG
  unfold spISign at hG
  split at hG
  case h_2 => cases hG
  rename_i s l
  split at hG
  case isFalse => cases hG
  rename_i hl
  cases hG
  refine ⟨rfl, by simp, ?_⟩
  simp only [c65, initT, List.zipIdx_cons, List.zipIdx_nil, List.map_cons, List.map_nil, Nat.reduceAdd]
  simp only [↓R0, R1, rdL, rdH, isCall, istep, ibin, vcells, fillI, setR, flat, okCell, isBase, List.set, List.drop, List.take, List.append, bnds, bhi, blo, srcOf, ↓reduceIte, Nat.reduceEqDiff, Nat.reduceAdd, Nat.reduceLeDiff, reduceCtorEq, Nat.reduceSub, Int.reduceEq, Int.reduceLT, Int.reduceLE, Int.reduceGT, Int.reduceGE, Int.reduceSub, Int.reduceAdd, Int.reduceMul, Int.reduceNe, Int.reduceNeg, Int.reduceToNat, Nat.reduceMul, spINorm, hl, iE]
  generalize sv s l = z
  rcases Int.lt_trichotomy z 0 with hz | hz | hz
  · rw [Int.sign_eq_neg_one_of_neg hz]
    simp only [↓R0, R1, rdL, rdH, isCall, istep, ibin, vcells, fillI, setR, flat, okCell, isBase, List.set, List.drop, List.take, List.append, bnds, bhi, blo, srcOf, ↓reduceIte, Nat.reduceEqDiff, Nat.reduceAdd, Nat.reduceLeDiff, reduceCtorEq, Nat.reduceSub, Int.reduceEq, Int.reduceLT, Int.reduceLE, Int.reduceGT, Int.reduceGE, Int.reduceSub, Int.reduceAdd, Int.reduceMul, Int.reduceNe, Int.reduceNeg, Int.reduceToNat, Nat.reduceMul, hz, Fin, isEnd, resL, res1, iE, rE]
    exact ⟨_, rfl, rfl, fun k hk => by simp only [ne_nb hk, if_false]⟩
  · subst hz
    have z0 : bl (Int.natAbs 0) = [] := bl_zero
    simp only [↓R0, R1, rdL, rdH, isCall, istep, ibin, vcells, fillI, setR, flat, okCell, isBase, List.set, List.drop, List.take, List.append, bnds, bhi, blo, srcOf, ↓reduceIte, Nat.reduceEqDiff, Nat.reduceAdd, Nat.reduceLeDiff, reduceCtorEq, Nat.reduceSub, Int.reduceEq, Int.reduceLT, Int.reduceLE, Int.reduceGT, Int.reduceGE, Int.reduceSub, Int.reduceAdd, Int.reduceMul, Int.reduceNe, Int.reduceNeg, Int.reduceToNat, Nat.reduceMul, z0, Int.lt_irrefl, Int.sign_zero, Fin, isEnd, resL, res1, iE, rE]
    exact ⟨_, rfl, rfl, fun k hk => by simp only [ne_nb hk, if_false]⟩
  · rw [Int.sign_eq_one_of_pos hz]
    have z1 : ¬ (z < 0) := by omega
    have z2 : ¬ (bl z.natAbs = []) := fun e => by have := bl_eq_nil.1 e; omega
    simp only [↓R0, R1, rdL, rdH, isCall, istep, ibin, vcells, fillI, setR, flat, okCell, isBase, List.set, List.drop, List.take, List.append, bnds, bhi, blo, srcOf, ↓reduceIte, Nat.reduceEqDiff, Nat.reduceAdd, Nat.reduceLeDiff, reduceCtorEq, Nat.reduceSub, Int.reduceEq, Int.reduceLT, Int.reduceLE, Int.reduceGT, Int.reduceGE, Int.reduceSub, Int.reduceAdd, Int.reduceMul, Int.reduceNe, Int.reduceNeg, Int.reduceToNat, Nat.reduceMul, z1, z2, Fin, isEnd, resL, res1, iE, rE]
    exact ⟨_, rfl, rfl, fun k hk => by simp only [ne_nb hk, if_false]⟩
def spINeg : List Value → Option Value
  | [.agg ⟨[.bool s, .string ⟨⟨l⟩⟩]⟩] => if l.length ≤ 1099511627776 then some (.agg ⟨iE (- sv s l)⟩) else none
  | _ => none
def c97 : ICode :=
  (.seq (.reg [⟨(some 1), none, (.box 23 2 (.t 0))⟩, ⟨(some 2), none, (.alloc 23 2 [(.bool false), (.string ⟨⟨[]⟩⟩)])⟩])
  (.seq (.reg [⟨(some 3), none, (.load true 2 (.t 1))⟩, ⟨(some 4), none, (.call 78 [(.t 3)])⟩, ⟨none, none, (.store 2 (.t 1) (.t 4))⟩])
  (.seq (.reg [⟨(some 5), none, (.faddr 0 (.t 1))⟩, ⟨(some 6), none, (.load false 1 (.t 5))⟩, ⟨(some 7), none, (.un .not (.t 6))⟩, ⟨(some 8), none, (.faddr 1 (.t 1))⟩, ⟨(some 9), none, (.load false 1 (.t 8))⟩, ⟨(some 10), none, (.call 69 [(.t 7), (.t 9)])⟩, ⟨none, none, (.store 2 (.t 2) (.t 10))⟩])
  .ret)))
theorem tr97 : trFun Tryz.prog 97 = some ⟨11, [.cell 2 true 2], c97⟩ := by kernel_rfl
theorem ok_iNeg : SpecOK Tryz.prog 97 (flat spINeg) := by
  refine flat_run (env_cons ok_iof (env_cons ok_iNorm (env_nil _))) mixed tr97 ?_
  intro args v h N hG
  unfold spINeg at hG
  split at hG
  case h_2 => cases hG
  rename_i s l
  split at hG
  case isFalse => cases hG
  rename_i hl
  cases hG
  refine ⟨rfl, by simp, ?_⟩
  have hz : sv (!decide (sv s l < 0)) (bl (sv s l).natAbs) = - sv s l := by rw [sv_neg, sv_can]
  simp only [c97, initT, List.zipIdx_cons, List.zipIdx_nil, List.map_cons, List.map_nil, Nat.reduceAdd]
  simp only [↓R0, R1, rdL, rdH, isCall, istep, ibin, vcells, fillI, setR, flat, okCell, isBase, List.set, List.drop, List.take, List.append, bnds, bhi, blo, srcOf, ↓reduceIte, Nat.reduceEqDiff, Nat.reduceAdd, Nat.reduceLeDiff, reduceCtorEq, Nat.reduceSub, Int.reduceEq, Int.reduceLT, Int.reduceLE, Int.reduceGT, Int.reduceGE, Int.reduceSub, Int.reduceAdd, Int.reduceMul, Int.reduceNe, Int.reduceNeg, Int.reduceToNat, Nat.reduceMul, spINorm, spIof, hl, nl_bl, hz, Fin, isEnd, resL, res1, iE, rE]
  exact ⟨_, rfl, rfl, fun k hk => by simp only [ne_nb hk, if_false]⟩
def spIFrom : List Value → Option Value
  | [.int .i64 n] => if -9223372036854775808 ≤ n ∧ n ≤ 9223372036854775807 then some (.agg ⟨iE n⟩) else none
  | _ => none
def c26 : ICode :=
  (.seq (.reg [⟨(some 2), none, (.alloc 23 2 [(.bool false), (.string ⟨⟨[]⟩⟩)])⟩])
  (.seq (.seq (.reg [⟨(some 3), none, (.mv (.t 0))⟩, ⟨(some 4), none, (.bin .lss (.t 3) (.c (.int .i64 0)))⟩])
  (.cond (.t 4)
  (.seq (.reg [⟨(some 5), none, (.mv (.t 0))⟩, ⟨(some 6), none, (.bin .add (.t 5) (.c (.int .i64 1)))⟩, ⟨(some 7), none, (.un .neg (.t 6))⟩, ⟨(some 8), none, (.conv .u64 (.t 7))⟩, ⟨(some 9), none, (.bin .add (.t 8) (.c (.int .u64 1)))⟩, ⟨(some 10), none, (.call 70 [(.t 9)])⟩, ⟨(some 11), none, (.call 69 [(.c (.bool true)), (.t 10)])⟩, ⟨none, none, (.store 2 (.t 2) (.t 11))⟩])
  .ret)
  .skip))
  (.seq (.reg [⟨(some 12), none, (.mv (.t 0))⟩, ⟨(some 13), none, (.conv .u64 (.t 12))⟩, ⟨(some 14), none, (.call 70 [(.t 13)])⟩, ⟨(some 15), none, (.call 69 [(.c (.bool false)), (.t 14)])⟩, ⟨none, none, (.store 2 (.t 2) (.t 15))⟩])
  .ret)))
theorem tr26 : trFun Tryz.prog 26 = some ⟨16, [.cell 2 true 2], c26⟩ := by kernel_rfl
theorem ok_iFrom : SpecOK Tryz.prog 26 (flat spIFrom) := by
  refine flat_run (env_cons ok_iof (env_cons ok_nFU64 (env_nil _))) mixed tr26 ?_
  intro args v h N hG
  unfold spIFrom at hG
  split at hG
  case h_2 => cases hG
  rename_i n
  split at hG
  case isFalse => cases hG
  rename_i hl
  cases hG
  refine ⟨rfl, by simp, ?_⟩
  simp only [c26, initT, List.zipIdx_cons, List.zipIdx_nil, List.map_cons, List.map_nil, Nat.reduceAdd]
  simp only [↓R0, R1, rdL, rdH, isCall, istep, ibin, vcells, fillI, setR, flat, okCell, isBase, List.set, List.drop, List.take, List.append, bnds, bhi, blo, srcOf, ↓reduceIte, Nat.reduceEqDiff, Nat.reduceAdd, Nat.reduceLeDiff, reduceCtorEq, Nat.reduceSub, Int.reduceEq, Int.reduceLT, Int.reduceLE, Int.reduceGT, Int.reduceGE, Int.reduceSub, Int.reduceAdd, Int.reduceMul, Int.reduceNe, Int.reduceNeg, Int.reduceToNat, Nat.reduceMul]
  refine cd_case (fun hb => ?_) (fun hb => ?_)
  · have hn : n < 0 := by simpa using hb
    have hz : sv true (bl n.natAbs) = n := by rw [sv_true, nl_bl]; omega
    have e1 : IntKind.i64.wrap (n + 1) = n + 1 := by rw [i64_in _ (by omega)]
    have e2 : IntKind.i64.wrap (0 - (n + 1)) = (n.natAbs : Int) - 1 := by rw [i64_in _ (by omega)]; omega
    have e3 : IntKind.u64.wrap ((n.natAbs : Int) - 1) = (n.natAbs : Int) - 1 := by rw [u64_in _ (by omega)]
    have e4 : IntKind.u64.wrap ((n.natAbs : Int) - 1 + 1) = (n.natAbs : Int) := by rw [u64_in _ (by omega)]; omega
    have e5 : (n.natAbs : Int) < 18446744073709551616 := by omega
    simp only [↓R0, R1, rdL, rdH, isCall, istep, ibin, vcells, fillI, setR, flat, okCell, isBase, List.set, List.drop, List.take, List.append, bnds, bhi, blo, srcOf, ↓reduceIte, Nat.reduceEqDiff, Nat.reduceAdd, Nat.reduceLeDiff, reduceCtorEq, Nat.reduceSub, Int.reduceEq, Int.reduceLT, Int.reduceLE, Int.reduceGT, Int.reduceGE, Int.reduceSub, Int.reduceAdd, Int.reduceMul, Int.reduceNe, Int.reduceNeg, Int.reduceToNat, Nat.reduceMul, e1, e2, e3, e4, e5, spFU64, spIof, nl_bl, hz, Fin, isEnd, resL, res1, iE, rE]
    exact ⟨_, rfl, rfl, fun k hk => by simp only [ne_nb hk, if_false]⟩
  · have hn : 0 ≤ n := by simpa using hb
    have hz : sv false (bl n.natAbs) = n := by rw [sv_false, nl_bl]; omega
    have e3 : IntKind.u64.wrap n = (n.natAbs : Int) := by rw [u64_in _ (by omega)]; omega
    have e5 : (n.natAbs : Int) < 18446744073709551616 := by omega
    simp only [↓R0, R1, rdL, rdH, isCall, istep, ibin, vcells, fillI, setR, flat, okCell, isBase, List.set, List.drop, List.take, List.append, bnds, bhi, blo, srcOf, ↓reduceIte, Nat.reduceEqDiff, Nat.reduceAdd, Nat.reduceLeDiff, reduceCtorEq, Nat.reduceSub, Int.reduceEq, Int.reduceLT, Int.reduceLE, Int.reduceGT, Int.reduceGE, Int.reduceSub, Int.reduceAdd, Int.reduceMul, Int.reduceNe, Int.reduceNeg, Int.reduceToNat, Nat.reduceMul, e3, e5, spFU64, spIof, nl_bl, hz, Fin, isEnd, resL, res1, iE, rE]
    exact ⟨_, rfl, rfl, fun k hk => by simp only [ne_nb hk, if_false]⟩
def spIAdd : List Value → Option Value
  | [.agg ⟨[.bool s, .string ⟨⟨l⟩⟩]⟩, .agg ⟨[.bool t, .string ⟨⟨m⟩⟩]⟩] => if l.length ≤ 68719476736 ∧ m.length ≤ 68719476736 then some (.agg ⟨iE (sv s l + sv t m)⟩) else none
  | _ => none
def c34 : ICode :=
  (.seq (.reg [⟨(some 2), none, (.box 23 2 (.t 0))⟩, ⟨(some 3), none, (.box 23 2 (.t 1))⟩, ⟨(some 4), none, (.alloc 23 2 [(.bool false), (.string ⟨⟨[]⟩⟩)])⟩])
  (.seq (.dreg [⟨(some 9), none, [], (.load true 2 (.t 2))⟩, ⟨(some 10), none, [], (.call 78 [(.t 9)])⟩, ⟨(some 11), none, [1], (.load true 2 (.t 3))⟩, ⟨(some 12), none, [], (.call 78 [(.t 11)])⟩, ⟨none, none, [], (.store 2 (.t 2) (.t 10))⟩, ⟨none, none, [], (.store 2 (.t 3) (.t 12))⟩])
  (.seq (.seq (.reg [⟨(some 13), none, (.faddr 0 (.t 2))⟩, ⟨(some 14), none, (.load false 1 (.t 13))⟩, ⟨(some 15), none, (.faddr 0 (.t 3))⟩, ⟨(some 16), none, (.load false 1 (.t 15))⟩, ⟨(some 17), none, (.eqb false (.t 14) (.t 16))⟩])
  (.cond (.t 17)
  (.seq (.dreg [⟨(some 18), none, [], (.faddr 0 (.t 2))⟩, ⟨(some 19), none, [], (.load false 1 (.t 18))⟩, ⟨(some 20), none, [], (.faddr 1 (.t 2))⟩, ⟨(some 21), none, [], (.load false 1 (.t 20))⟩, ⟨(some 22), none, [], (.faddr 1 (.t 3))⟩, ⟨(some 23), none, [], (.load false 1 (.t 22))⟩, ⟨(some 24), none, [], (.call 79 [(.t 21), (.t 23)])⟩, ⟨(some 25), none, [], (.call 69 [(.t 19), (.t 24)])⟩, ⟨none, none, [], (.store 2 (.t 4) (.t 25))⟩])
  .ret)
  .skip))
  (.seq (.seq (.reg [⟨(some 27), none, (.faddr 1 (.t 2))⟩, ⟨(some 28), none, (.load false 1 (.t 27))⟩, ⟨(some 29), none, (.faddr 1 (.t 3))⟩, ⟨(some 30), none, (.load false 1 (.t 29))⟩, ⟨(some 31), none, (.call 80 [(.t 28), (.t 30)])⟩, ⟨(some 26), none, (.mv (.t 31))⟩, ⟨(some 32), none, (.ext (.t 26) 0)⟩, ⟨(some 33), none, (.ext (.t 26) 1)⟩, ⟨(some 5), none, (.mv (.t 32))⟩, ⟨(some 6), none, (.mv (.t 33))⟩])
  (.seq (.reg [⟨(some 34), none, (.mv (.t 6))⟩])
  (.cond (.t 34)
  (.seq (.reg [⟨(some 35), none, (.faddr 0 (.t 2))⟩, ⟨(some 36), none, (.load false 1 (.t 35))⟩, ⟨(some 37), none, (.mv (.t 5))⟩, ⟨(some 38), none, (.call 69 [(.t 36), (.t 37)])⟩, ⟨none, none, (.store 2 (.t 4) (.t 38))⟩])
  .ret)
  .skip)))
  (.seq (.reg [⟨(some 40), none, (.faddr 1 (.t 3))⟩, ⟨(some 41), none, (.load false 1 (.t 40))⟩, ⟨(some 42), none, (.faddr 1 (.t 2))⟩, ⟨(some 43), none, (.load false 1 (.t 42))⟩, ⟨(some 44), none, (.call 80 [(.t 41), (.t 43)])⟩, ⟨(some 39), none, (.mv (.t 44))⟩, ⟨(some 45), none, (.ext (.t 39) 0)⟩, ⟨(some 46), none, (.ext (.t 39) 1)⟩, ⟨(some 7), none, (.mv (.t 45))⟩, ⟨(some 8), none, (.mv (.t 46))⟩])
  (.seq (.reg [⟨(some 47), none, (.faddr 0 (.t 3))⟩, ⟨(some 48), none, (.load false 1 (.t 47))⟩, ⟨(some 49), none, (.mv (.t 7))⟩, ⟨(some 50), none, (.call 69 [(.t 48), (.t 49)])⟩, ⟨none, none, (.store 2 (.t 4) (.t 50))⟩])
  .ret))))))
theorem tr34 : trFun Tryz.prog 34 = some ⟨51, [.cell 4 true 2], c34⟩ := by kernel_rfl
theorem iadd_same {x y : Int} (h : decide (x < 0) = decide (y < 0)) : sv (decide (y < 0)) (bl (x.natAbs + y.natAbs)) = x + y := by
  rw [sv_bl]
  by_cases hx : x < 0
  · have hy : y < 0 := by simpa [hx] using h
    simp [hy]; omega
  · have hy : ¬ y < 0 := by simpa [hx] using h
    simp [hy]; omega
theorem iadd_diff {x y : Int} (h : ¬ decide (x < 0) = decide (y < 0)) :
    (x.natAbs < y.natAbs → sv (decide (y < 0)) (bl (y.natAbs - x.natAbs)) = x + y) ∧ (¬ x.natAbs < y.natAbs → sv (decide (x < 0)) (bl (x.natAbs - y.natAbs)) = x + y) := by
  rw [sv_bl, sv_bl]
  by_cases hx : x < 0
  · have hy : ¬ y < 0 := by simpa [hx] using h
    constructor
    · intro g; simp [hy]; omega
    · intro g; simp [hx]; omega
  · have hy : y < 0 := by simpa [hx] using h
    constructor
    · intro g; simp [hy]; omega
    · intro g; simp [hx]; omega
theorem ok_iAdd : SpecOK Tryz.prog 34 (flat spIAdd) := by
  refine flat_run (env_cons ok_iof (env_cons ok_iNorm (env_cons ok_nAdd (env_cons ok_nSub (env_nil _))))) mixed tr34 ?_
  intro args v h N hG
  unfold spIAdd at hG
  split at hG
  case h_2 => cases hG
  rename_i s l t m
  split at hG
  case isFalse => cases hG
  rename_i hl
  obtain ⟨hl, hm⟩ := hl
  cases hG
  refine ⟨rfl, by simp, ?_⟩
  have hl' : l.length ≤ 1099511627776 := by omega
  have hm' : m.length ≤ 1099511627776 := by omega
  have n1 := len_sv (s := s) hl
  have n2 := len_sv (s := t) hm
  simp only [c34, initT, List.zipIdx_cons, List.zipIdx_nil, List.map_cons, List.map_nil, Nat.reduceAdd]
  simp only [↓R0, R1, rdL, rdH, isCall, istep, ibin, vcells, fillI, setR, flat, okCell, isBase, List.set, List.drop, List.take, List.append, bnds, bhi, blo, srcOf, ↓reduceIte, Nat.reduceEqDiff, Nat.reduceAdd, Nat.reduceLeDiff, reduceCtorEq, Nat.reduceSub, Int.reduceEq, Int.reduceLT, Int.reduceLE, Int.reduceGT, Int.reduceGE, Int.reduceSub, Int.reduceAdd, Int.reduceMul, Int.reduceNe, Int.reduceNeg, Int.reduceToNat, Nat.reduceMul, spINorm, hl', hm', iE]
  generalize sv s l = x at *
  generalize sv t m = y at *
  by_cases hst : decide (x < 0) = decide (y < 0)
  · have hz := iadd_same hst
    simp only [↓R0, R1, rdL, rdH, isCall, istep, ibin, vcells, fillI, setR, flat, okCell, isBase, List.set, List.drop, List.take, List.append, bnds, bhi, blo, srcOf, ↓reduceIte, Nat.reduceEqDiff, Nat.reduceAdd, Nat.reduceLeDiff, reduceCtorEq, Nat.reduceSub, Int.reduceEq, Int.reduceLT, Int.reduceLE, Int.reduceGT, Int.reduceGE, Int.reduceSub, Int.reduceAdd, Int.reduceMul, Int.reduceNe, Int.reduceNeg, Int.reduceToNat, Nat.reduceMul, hst, spNAdd, n1, n2, nl_bl, spIof, hz, Fin, isEnd, resL, res1, iE, rE]
    exact ⟨_, rfl, rfl, fun k hk => by simp only [ne_nb hk, if_false]⟩
  · obtain ⟨d1, d2⟩ := iadd_diff hst
    by_cases hlt : x.natAbs < y.natAbs
    · have hlt2 : ¬ y.natAbs < x.natAbs := by omega
      have hz := d1 hlt
      simp only [↓R0, R1, rdL, rdH, isCall, istep, ibin, vcells, fillI, setR, flat, okCell, isBase, List.set, List.drop, List.take, List.append, bnds, bhi, blo, srcOf, ↓reduceIte, Nat.reduceEqDiff, Nat.reduceAdd, Nat.reduceLeDiff, reduceCtorEq, Nat.reduceSub, Int.reduceEq, Int.reduceLT, Int.reduceLE, Int.reduceGT, Int.reduceGE, Int.reduceSub, Int.reduceAdd, Int.reduceMul, Int.reduceNe, Int.reduceNeg, Int.reduceToNat, Nat.reduceMul, hst, spNSub, n1, n2, nl_bl, hlt, hlt2, spIof, hz, Fin, isEnd, resL, res1, iE, rE]
      exact ⟨_, rfl, rfl, fun k hk => by simp only [ne_nb hk, if_false]⟩
    · have hz := d2 hlt
      simp only [↓R0, R1, rdL, rdH, isCall, istep, ibin, vcells, fillI, setR, flat, okCell, isBase, List.set, List.drop, List.take, List.append, bnds, bhi, blo, srcOf, ↓reduceIte, Nat.reduceEqDiff, Nat.reduceAdd, Nat.reduceLeDiff, reduceCtorEq, Nat.reduceSub, Int.reduceEq, Int.reduceLT, Int.reduceLE, Int.reduceGT, Int.reduceGE, Int.reduceSub, Int.reduceAdd, Int.reduceMul, Int.reduceNe, Int.reduceNeg, Int.reduceToNat, Nat.reduceMul, hst, spNSub, n1, n2, nl_bl, hlt, spIof, hz, Fin, isEnd, resL, res1, iE, rE]
      exact ⟨_, rfl, rfl, fun k hk => by simp only [ne_nb hk, if_false]⟩
def spISub : List Value → Option Value
  | [.agg ⟨[.bool s, .string ⟨⟨l⟩⟩]⟩, .agg ⟨[.bool t, .string ⟨⟨m⟩⟩]⟩] => if l.length ≤ 68719476736 ∧ m.length ≤ 68719476736 then some (.agg ⟨iE (sv s l - sv t m)⟩) else none
  | _ => none
def c54 : ICode :=
  (.seq (.reg [⟨(some 2), none, (.box 23 2 (.t 0))⟩, ⟨(some 3), none, (.box 23 2 (.t 1))⟩, ⟨(some 4), none, (.alloc 23 2 [(.bool false), (.string ⟨⟨[]⟩⟩)])⟩])
  (.seq (.dreg [⟨(some 5), none, [], (.load true 2 (.t 2))⟩, ⟨(some 6), none, [], (.load true 2 (.t 3))⟩, ⟨(some 7), none, [], (.call 97 [(.t 6)])⟩, ⟨(some 8), none, [], (.call 34 [(.t 5), (.t 7)])⟩, ⟨none, none, [], (.store 2 (.t 4) (.t 8))⟩])
  .ret))
theorem tr54 : trFun Tryz.prog 54 = some ⟨9, [.cell 4 true 2], c54⟩ := by kernel_rfl
theorem ok_iSub : SpecOK Tryz.prog 54 (flat spISub) := by
  refine flat_run (env_cons ok_iNeg (env_cons ok_iAdd (env_nil _))) mixed tr54 ?_
  intro args v h N hG
  unfold spISub at hG
  split at hG
  case h_2 => cases hG
  rename_i s l t m
  split at hG
  case isFalse => cases hG
  rename_i hl
  obtain ⟨hl, hm⟩ := hl
  cases hG
  refine ⟨rfl, by simp, ?_⟩
  have hm' : m.length ≤ 1099511627776 := by omega
  have n2 : (bl (-sv t m).natAbs).length ≤ 68719476736 := by rw [Int.natAbs_neg]; exact len_sv hm
  rw [Int.sub_eq_add_neg]
  simp only [c54, initT, List.zipIdx_cons, List.zipIdx_nil, List.map_cons, List.map_nil, Nat.reduceAdd]
  simp only [↓R0, R1, rdL, rdH, isCall, istep, ibin, vcells, fillI, setR, flat, okCell, isBase, List.set, List.drop, List.take, List.append, bnds, bhi, blo, srcOf, ↓reduceIte, Nat.reduceEqDiff, Nat.reduceAdd, Nat.reduceLeDiff, reduceCtorEq, Nat.reduceSub, Int.reduceEq, Int.reduceLT, Int.reduceLE, Int.reduceGT, Int.reduceGE, Int.reduceSub, Int.reduceAdd, Int.reduceMul, Int.reduceNe, Int.reduceNeg, Int.reduceToNat, Nat.reduceMul, spINeg, spIAdd, hl, hm', n2, Fin, isEnd, resL, res1, iE, rE]
  exact ⟨_, rfl, rfl, fun k hk => by simp only [ne_nb hk, if_false]⟩
def spICmp : List Value → Option Value
  | [.agg ⟨[.bool s, .string ⟨⟨l⟩⟩]⟩, .agg ⟨[.bool t, .string ⟨⟨m⟩⟩]⟩] => if l.length ≤ 68719476736 ∧ m.length ≤ 68719476736 then some (.int .i64 (sv s l - sv t m).sign) else none
  | _ => none
def c76 : ICode :=
  (.seq (.reg [⟨(some 2), none, (.box 23 2 (.t 0))⟩, ⟨(some 3), none, (.box 23 2 (.t 1))⟩, ⟨(some 4), none, (.mv (.c (.int .i64 0)))⟩])
  (.seq (.reg [⟨(some 5), none, (.load true 2 (.t 2))⟩, ⟨(some 6), none, (.load true 2 (.t 3))⟩, ⟨(some 7), none, (.call 54 [(.t 5), (.t 6)])⟩, ⟨(some 8), none, (.call 65 [(.t 7)])⟩, ⟨(some 4), none, (.mv (.t 8))⟩])
  .ret))
theorem tr76 : trFun Tryz.prog 76 = some ⟨9, [.t 4], c76⟩ := by kernel_rfl
theorem ok_iCmp : SpecOK Tryz.prog 76 (flat spICmp) := by
  refine flat_run (env_cons ok_iSub (env_cons ok_iSign (env_nil _))) mixed tr76 ?_
  intro args v h N hG
  unfold spICmp at hG
  split at hG
  case h_2 => cases hG
  rename_i s l t m
  split at hG
  case isFalse => cases hG
  rename_i hl
  obtain ⟨hl, hm⟩ := hl
  cases hG
  refine ⟨rfl, by simp, ?_⟩
  have n2 : (bl (-sv t m).natAbs).length ≤ 68719476736 := by rw [Int.natAbs_neg]; exact len_sv hm
  have n3 : (bl (sv s l - sv t m).natAbs).length ≤ 1099511627776 := by rw [Int.sub_eq_add_neg]; exact Nat.le_trans (len_add (len_sv hl) n2) (by omega)
  simp only [c76, initT, List.zipIdx_cons, List.zipIdx_nil, List.map_cons, List.map_nil, Nat.reduceAdd]
  simp only [↓R0, R1, rdL, rdH, isCall, istep, ibin, vcells, fillI, setR, flat, okCell, isBase, List.set, List.drop, List.take, List.append, bnds, bhi, blo, srcOf, ↓reduceIte, Nat.reduceEqDiff, Nat.reduceAdd, Nat.reduceLeDiff, reduceCtorEq, Nat.reduceSub, Int.reduceEq, Int.reduceLT, Int.reduceLE, Int.reduceGT, Int.reduceGE, Int.reduceSub, Int.reduceAdd, Int.reduceMul, Int.reduceNe, Int.reduceNeg, Int.reduceToNat, Nat.reduceMul, spISub, spISign, hl, hm, n3, Fin, isEnd, resL, res1, iE, rE]
  exact ⟨_, rfl, rfl, fun k hk => by simp only [ne_nb hk, if_false]⟩
def spIMul : List Value → Option Value
  | [.agg ⟨[.bool s, .string ⟨⟨l⟩⟩]⟩, .agg ⟨[.bool t, .string ⟨⟨m⟩⟩]⟩] => if l.length ≤ 34359738368 ∧ m.length ≤ 34359738368 then some (.agg ⟨iE (sv s l * sv t m)⟩) else none
  | _ => none
def c35 : ICode :=
  (.seq (.reg [⟨(some 2), none, (.box 23 2 (.t 0))⟩, ⟨(some 3), none, (.box 23 2 (.t 1))⟩, ⟨(some 4), none, (.alloc 23 2 [(.bool false), (.string ⟨⟨[]⟩⟩)])⟩])
  (.seq (.dreg [⟨(some 5), none, [], (.load true 2 (.t 2))⟩, ⟨(some 6), none, [], (.call 78 [(.t 5)])⟩, ⟨(some 7), none, [1], (.load true 2 (.t 3))⟩, ⟨(some 8), none, [], (.call 78 [(.t 7)])⟩, ⟨none, none, [], (.store 2 (.t 2) (.t 6))⟩, ⟨none, none, [], (.store 2 (.t 3) (.t 8))⟩])
  (.seq (.dreg [⟨(some 9), none, [], (.faddr 0 (.t 2))⟩, ⟨(some 10), none, [], (.load false 1 (.t 9))⟩, ⟨(some 11), none, [], (.faddr 0 (.t 3))⟩, ⟨(some 12), none, [], (.load false 1 (.t 11))⟩, ⟨(some 13), none, [], (.eqb true (.t 10) (.t 12))⟩, ⟨(some 14), none, [], (.faddr 1 (.t 2))⟩, ⟨(some 15), none, [], (.load false 1 (.t 14))⟩, ⟨(some 16), none, [], (.faddr 1 (.t 3))⟩, ⟨(some 17), none, [], (.load false 1 (.t 16))⟩, ⟨(some 18), none, [], (.call 81 [(.t 15), (.t 17)])⟩, ⟨(some 19), none, [], (.call 69 [(.t 13), (.t 18)])⟩, ⟨none, none, [], (.store 2 (.t 4) (.t 19))⟩])
  .ret)))
theorem tr35 : trFun Tryz.prog 35 = some ⟨20, [.cell 4 true 2], c35⟩ := by kernel_rfl
theorem imul_sv (x y : Int) : sv (decide (¬ decide (x < 0) = decide (y < 0))) (bl (x.natAbs * y.natAbs)) = x * y := by
  have := sv_mul (decide (x < 0)) (decide (y < 0)) (bl x.natAbs) (bl y.natAbs)
  rw [sv_can, sv_can, nl_bl, nl_bl] at this
  exact this
theorem ok_iMul : SpecOK Tryz.prog 35 (flat spIMul) := by
  refine flat_run (env_cons ok_iof (env_cons ok_iNorm (env_cons ok_nMul (env_nil _)))) mixed tr35 ?_
  intro args v h N hG
  unfold spIMul at hG
  split at hG
  case h_2 => cases hG
  rename_i s l t m
  split at hG
  case isFalse => cases hG
  rename_i hl
  obtain ⟨hl, hm⟩ := hl
  cases hG
  refine ⟨rfl, by simp, ?_⟩
  have hl' : l.length ≤ 1099511627776 := by omega
  have hm' : m.length ≤ 1099511627776 := by omega
  have n1 := len_sv (s := s) hl
  have n2 := len_sv (s := t) hm
  have hz := imul_sv (sv s l) (sv t m)
  simp only [c35, initT, List.zipIdx_cons, List.zipIdx_nil, List.map_cons, List.map_nil, Nat.reduceAdd]
  simp only [↓R0, R1, rdL, rdH, isCall, istep, ibin, vcells, fillI, setR, flat, okCell, isBase, List.set, List.drop, List.take, List.append, bnds, bhi, blo, srcOf, ↓reduceIte, Nat.reduceEqDiff, Nat.reduceAdd, Nat.reduceLeDiff, reduceCtorEq, Nat.reduceSub, Int.reduceEq, Int.reduceLT, Int.reduceLE, Int.reduceGT, Int.reduceGE, Int.reduceSub, Int.reduceAdd, Int.reduceMul, Int.reduceNe, Int.reduceNeg, Int.reduceToNat, Nat.reduceMul, spINorm, spNMul, spIof, hl', hm', n1, n2, nl_bl, hz, Fin, isEnd, resL, res1, iE, rE]
  exact ⟨_, rfl, rfl, fun k hk => by simp only [ne_nb hk, if_false]⟩
end Go.Eng
end
section
set_option linter.unusedVariables false
set_option linter.unusedSimpArgs false
set_option linter.unusedSectionVars false
set_option maxRecDepth 4000
namespace Go.Eng
open Go Go.Proofs Go.IntWalk
theorem idiv_all (x y : Int) (hy : y ≠ 0) :
    (¬ (x < 0 ∧ x.natAbs % y.natAbs ≠ 0) → sv (decide (¬ decide (x < 0) = decide (y < 0))) (bl (x.natAbs / y.natAbs)) = x / y ∧ sv false (bl (x.natAbs % y.natAbs)) = x % y) ∧
    (x < 0 → x.natAbs % y.natAbs ≠ 0 → sv (decide (¬ decide (x < 0) = decide (y < 0))) (bl (x.natAbs / y.natAbs + 1)) = x / y ∧ sv false (bl (y.natAbs - x.natAbs % y.natAbs)) = x % y) := by
  have hM0 : 0 < y.natAbs := by omega
  have hd := Nat.div_add_mod x.natAbs y.natAbs
  have hr := Nat.mod_lt x.natAbs hM0
  simp only [sv_bl]
  generalize x.natAbs / y.natAbs = q at *
  generalize x.natAbs % y.natAbs = r at *
  have hdi : (y.natAbs : Int) * (q : Int) + (r : Int) = (x.natAbs : Int) := by rw [← hd]; simp
  have uni : ∀ Q R : Int, R + y * Q = x → 0 ≤ R → R < (y.natAbs : Int) → Q = x / y ∧ R = x % y := fun Q R h1 h2 h3 => by
    rcases Int.lt_or_gt_of_ne hy with g | g
    · have := (Int.ediv_emod_unique' g (a := x) (r := R) (q := Q)).2 ⟨h1, h2, by omega⟩
      exact ⟨this.1.symm, this.2.symm⟩
    · have := (Int.ediv_emod_unique g (a := x) (r := R) (q := Q)).2 ⟨h1, h2, by omega⟩
      exact ⟨this.1.symm, this.2.symm⟩
  generalize hM : (y.natAbs : Int) = M at *
  have e1 : M * (-(q : Int)) = -(M * (q : Int)) := by rw [Int.mul_neg]
  have e2 : -M * (q : Int) = -(M * (q : Int)) := by rw [Int.neg_mul]
  have e3 : -M * (-(q : Int)) = (M * (q : Int)) := by rw [Int.neg_mul, Int.mul_neg]; simp
  have e4 : M * (-((q + 1 : Nat) : Int)) = -(M * (q : Int)) - M := by rw [Int.mul_neg, Int.natCast_add, Int.mul_add]; simp; omega
  have e5 : -M * (((q + 1 : Nat) : Int)) = -(M * (q : Int)) - M := by rw [Int.neg_mul, Int.natCast_add, Int.mul_add]; simp; omega
  by_cases hx : x < 0
  · by_cases hyn : y < 0
    · have hY : y = -M := by omega
      constructor
      · intro h
        have : r = 0 := by
          rcases Nat.eq_zero_or_pos r with e | e
          · exact e
          · exact absurd ⟨hx, by omega⟩ h
        simp only [hx, hyn, decide_true, not_true_eq_false, decide_false, Bool.false_eq_true, if_false]
        exact uni _ _ (by rw [hY, e2]; omega) (by omega) (by omega)
      · intro _ h
        simp only [hx, hyn, decide_true, not_true_eq_false, decide_false, Bool.false_eq_true, if_false]
        exact uni _ _ (by rw [hY, e5]; omega) (by omega) (by omega)
    · have hY : y = M := by omega
      constructor
      · intro h
        have : r = 0 := by
          rcases Nat.eq_zero_or_pos r with e | e
          · exact e
          · exact absurd ⟨hx, by omega⟩ h
        simp only [hx, hyn, decide_true, decide_false, reduceCtorEq, not_false_eq_true, if_true, Bool.false_eq_true, if_false]
        exact uni _ _ (by rw [hY, e1]; omega) (by omega) (by omega)
      · intro _ h
        simp only [hx, hyn, decide_true, decide_false, reduceCtorEq, not_false_eq_true, if_true, Bool.false_eq_true, if_false]
        exact uni _ _ (by rw [hY, e4]; omega) (by omega) (by omega)
  · by_cases hyn : y < 0
    · have hY : y = -M := by omega
      constructor
      · intro h
        simp only [hx, hyn, decide_true, decide_false, reduceCtorEq, not_false_eq_true, if_true, Bool.false_eq_true, if_false]
        exact uni _ _ (by rw [hY, e3]; omega) (by omega) (by omega)
      · intro h; exact absurd h hx
    · have hY : y = M := by omega
      constructor
      · intro h
        simp only [hx, hyn, decide_false, not_true_eq_false, Bool.false_eq_true, if_false]
        exact uni _ _ (by rw [hY]; omega) (by omega) (by omega)
      · intro h; exact absurd h hx
def spIDiv : List Value → Option Value
  | [.agg ⟨[.bool s, .string ⟨⟨l⟩⟩]⟩, .agg ⟨[.bool t, .string ⟨⟨m⟩⟩]⟩] => if l.length ≤ 34359738368 ∧ m.length ≤ 34359738368 then
      (if sv t m = 0 then some (.tuple ⟨[.agg ⟨[.bool false, .string ⟨⟨[]⟩⟩]⟩, .agg ⟨[.bool false, .string ⟨⟨[]⟩⟩]⟩, .bool false]⟩) else
        some (.tuple ⟨[.agg ⟨iE (sv s l / sv t m)⟩, .agg ⟨iE (sv s l % sv t m)⟩, .bool true]⟩)) else none
  | _ => none
def c121 : ICode :=
  (.seq (.reg [⟨(some 2), none, (.box 23 2 (.t 0))⟩, ⟨(some 3), none, (.box 23 2 (.t 1))⟩, ⟨(some 4), none, (.alloc 23 2 [(.bool false), (.string ⟨⟨[]⟩⟩)])⟩, ⟨(some 5), none, (.alloc 23 2 [(.bool false), (.string ⟨⟨[]⟩⟩)])⟩, ⟨(some 6), none, (.mv (.c (.bool false)))⟩])
  (.seq (.dreg [⟨(some 10), none, [], (.load true 2 (.t 2))⟩, ⟨(some 11), none, [], (.call 78 [(.t 10)])⟩, ⟨(some 12), none, [1], (.load true 2 (.t 3))⟩, ⟨(some 13), none, [], (.call 78 [(.t 12)])⟩, ⟨none, none, [], (.store 2 (.t 2) (.t 11))⟩, ⟨none, none, [], (.store 2 (.t 3) (.t 13))⟩])
  (.seq (.reg [⟨(some 15), none, (.faddr 1 (.t 2))⟩, ⟨(some 16), none, (.load false 1 (.t 15))⟩, ⟨(some 17), none, (.faddr 1 (.t 3))⟩, ⟨(some 18), none, (.load false 1 (.t 17))⟩, ⟨(some 19), none, (.call 68 [(.t 16), (.t 18)])⟩, ⟨(some 14), none, (.mv (.t 19))⟩, ⟨(some 20), none, (.ext (.t 14) 0)⟩, ⟨(some 21), none, (.ext (.t 14) 1)⟩, ⟨(some 22), none, (.ext (.t 14) 2)⟩, ⟨(some 7), none, (.mv (.t 20))⟩, ⟨(some 8), none, (.mv (.t 21))⟩, ⟨(some 9), none, (.mv (.t 22))⟩])
  (.seq (.seq (.reg [⟨(some 23), none, (.mv (.t 9))⟩, ⟨(some 24), none, (.un .not (.t 23))⟩])
  (.cond (.t 24)
  (.seq (.reg [⟨(some 25), none, (.build [(.bool false), (.string ⟨⟨[]⟩⟩)] [])⟩, ⟨(some 26), none, (.build [(.bool false), (.string ⟨⟨[]⟩⟩)] [])⟩, ⟨none, none, (.store 2 (.t 4) (.t 25))⟩, ⟨none, none, (.store 2 (.t 5) (.t 26))⟩, ⟨(some 6), none, (.mv (.c (.bool false)))⟩])
  .ret)
  .skip))
  (.seq (.seq (.reg [⟨(some 27), none, (.faddr 0 (.t 2))⟩, ⟨(some 28), none, (.load false 1 (.t 27))⟩, ⟨(some 29), none, (.mv (.t 28))⟩, ⟨(some 30), (some (29, true)), (.mv (.t 8))⟩, ⟨(some 31), (some (29, true)), (.bin .neq (.t 30) (.c (.string ⟨⟨[]⟩⟩)))⟩, ⟨(some 32), none, (.pick (.t 29) (.t 31) (.c (.bool false)))⟩])
  (.cond (.t 32)
  (.seq (.reg [⟨(some 33), none, (.mv (.t 7))⟩, ⟨(some 34), none, (.call 70 [(.c (.int .u64 1))])⟩, ⟨(some 35), none, (.call 79 [(.t 33), (.t 34)])⟩, ⟨(some 7), none, (.mv (.t 35))⟩])
  (.reg [⟨(some 37), none, (.faddr 1 (.t 3))⟩, ⟨(some 38), none, (.load false 1 (.t 37))⟩, ⟨(some 39), none, (.call 108 [(.t 38)])⟩, ⟨(some 40), none, (.mv (.t 8))⟩, ⟨(some 41), none, (.call 80 [(.t 39), (.t 40)])⟩, ⟨(some 36), none, (.mv (.t 41))⟩, ⟨(some 42), none, (.ext (.t 36) 0)⟩, ⟨(some 43), none, (.ext (.t 36) 1)⟩, ⟨(some 8), none, (.mv (.t 42))⟩]))
  .skip))
  (.seq (.reg [⟨(some 44), none, (.faddr 0 (.t 2))⟩, ⟨(some 45), none, (.load false 1 (.t 44))⟩, ⟨(some 46), none, (.faddr 0 (.t 3))⟩, ⟨(some 47), none, (.load false 1 (.t 46))⟩, ⟨(some 48), none, (.eqb true (.t 45) (.t 47))⟩, ⟨(some 49), none, (.mv (.t 7))⟩, ⟨(some 50), none, (.call 69 [(.t 48), (.t 49)])⟩, ⟨(some 51), none, (.mv (.t 8))⟩, ⟨(some 52), none, (.call 69 [(.c (.bool false)), (.t 51)])⟩, ⟨none, none, (.store 2 (.t 4) (.t 50))⟩, ⟨none, none, (.store 2 (.t 5) (.t 52))⟩, ⟨(some 6), none, (.mv (.c (.bool true)))⟩])
  .ret))))))
theorem tr121 : trFun Tryz.prog 121 = some ⟨53, [.cell 4 true 2, .cell 5 true 2, .t 6], c121⟩ := by kernel_rfl
set_option maxHeartbeats 1000000 in
theorem ok_iDiv : SpecOK Tryz.prog 121 (flat spIDiv) := by
  refine flat_run (env_cons ok_iof (env_cons ok_iNorm (env_cons ok_nDiv (env_cons ok_nFU64 (env_cons ok_nAdd (env_cons ok_nNorm (env_cons ok_nSub (env_nil _)))))))) mixed tr121 ?_
  intro args v h N hG
  unfold spIDiv at hG
  split at hG
  case h_2 => cases hG
  rename_i s l t m
  split at hG
  case isFalse => cases hG
  rename_i hl
  obtain ⟨hl, hm⟩ := hl
  have hl' : l.length ≤ 1099511627776 := by omega
  have hm' : m.length ≤ 1099511627776 := by omega
  have n1 := len_sv (s := s) hl
  have n2 := len_sv (s := t) hm
  split at hG
  · rename_i h0
    cases hG
    refine ⟨rfl, by simp, ?_⟩
    have z0 : (Int.natAbs 0) = 0 := rfl
    rw [h0] at n2
    simp only [c121, initT, List.zipIdx_cons, List.zipIdx_nil, List.map_cons, List.map_nil, Nat.reduceAdd]
    simp only [↓R0, R1, rdL, rdH, isCall, istep, ibin, vcells, fillI, setR, flat, okCell, isBase, List.set, List.drop, List.take, List.append, bnds, bhi, blo, srcOf, ↓reduceIte, Nat.reduceEqDiff, Nat.reduceAdd, Nat.reduceLeDiff, reduceCtorEq, Nat.reduceSub, Int.reduceEq, Int.reduceLT, Int.reduceLE, Int.reduceGT, Int.reduceGE, Int.reduceSub, Int.reduceAdd, Int.reduceMul, Int.reduceNe, Int.reduceNeg, Int.reduceToNat, Nat.reduceMul, spINorm, hl', hm', h0, z0, spNDiv, nl_bl, bl_zero, n1, List.length_nil, Nat.zero_le, Bool.not_false, nl, Int.lt_irrefl, Fin, isEnd, resL, res1, iE, rE]
    exact ⟨_, rfl, rfl, fun k hk => by simp only [ne_nb hk, if_false]⟩
  rename_i h0
  cases hG
  refine ⟨rfl, by simp, ?_⟩
  simp only [c121, initT, List.zipIdx_cons, List.zipIdx_nil, List.map_cons, List.map_nil, Nat.reduceAdd]
  simp only [↓R0, R1, rdL, rdH, isCall, istep, ibin, vcells, fillI, setR, flat, okCell, isBase, List.set, List.drop, List.take, List.append, bnds, bhi, blo, srcOf, ↓reduceIte, Nat.reduceEqDiff, Nat.reduceAdd, Nat.reduceLeDiff, reduceCtorEq, Nat.reduceSub, Int.reduceEq, Int.reduceLT, Int.reduceLE, Int.reduceGT, Int.reduceGE, Int.reduceSub, Int.reduceAdd, Int.reduceMul, Int.reduceNe, Int.reduceNeg, Int.reduceToNat, Nat.reduceMul, spINorm, hl', hm', iE]
  generalize sv s l = x at *
  generalize sv t m = y at *
  have y0 : ¬ (y.natAbs = 0) := by omega
  have hr := Nat.mod_lt x.natAbs (show y.natAbs > 0 by omega)
  have hr2 : ¬ (y.natAbs < x.natAbs % y.natAbs) := by omega
  obtain ⟨d1, d2⟩ := idiv_all x y h0
  have rl : (bl (x.natAbs % y.natAbs)).length ≤ 68719476736 := Nat.le_trans (bl_length_mono (Nat.le_of_lt hr)) (Nat.le_trans n2 (by omega))
  have ql : (bl (x.natAbs / y.natAbs)).length ≤ 68719476736 := Nat.le_trans (bl_length_mono (Nat.div_le_self _ _)) (Nat.le_trans n1 (by omega))
  have n2' : (bl y.natAbs).length ≤ 1099511627776 := by omega
  have n2'' : (bl y.natAbs).length ≤ 68719476736 := by omega
  have o1 : (bl 1).length ≤ 68719476736 := Nat.le_trans (bl_length_le (k := 1).2 (by decide)) (by omega)
  by_cases hx : x < 0
  · by_cases hr0 : x.natAbs % y.natAbs = 0
    · obtain ⟨z1, z2⟩ := d1 (fun e => e.2 hr0)
      rw [hr0] at z2
      simp only [hx, decide_true] at z1
      have b0 : bl 0 = [] := bl_zero
      have z2' : sv false [] = x % y := by rw [← z2, bl_zero]
      simp only [↓R0, R1, rdL, rdH, isCall, istep, ibin, vcells, fillI, setR, flat, okCell, isBase, List.set, List.drop, List.take, List.append, bnds, bhi, blo, srcOf, ↓reduceIte, Nat.reduceEqDiff, Nat.reduceAdd, Nat.reduceLeDiff, reduceCtorEq, Nat.reduceSub, Int.reduceEq, Int.reduceLT, Int.reduceLE, Int.reduceGT, Int.reduceGE, Int.reduceSub, Int.reduceAdd, Int.reduceMul, Int.reduceNe, Int.reduceNeg, Int.reduceToNat, Nat.reduceMul, hx, spNDiv, n1, n2, nl_bl, y0, hr0, spIof, Bool.not_true, z1, b0, nl, z2', Fin, isEnd, resL, res1, iE, rE]
      exact ⟨_, rfl, rfl, fun k hk => by simp only [ne_nb hk, if_false]⟩
    · obtain ⟨z1, z2⟩ := d2 hx hr0
      simp only [hx, decide_true] at z1
      have hb0 : ¬ (bl (x.natAbs % y.natAbs) = []) := fun e => hr0 (bl_eq_nil.1 e)
      simp only [↓R0, R1, rdL, rdH, isCall, istep, ibin, vcells, fillI, setR, flat, okCell, isBase, List.set, List.drop, List.take, List.append, bnds, bhi, blo, srcOf, ↓reduceIte, Nat.reduceEqDiff, Nat.reduceAdd, Nat.reduceLeDiff, reduceCtorEq, Nat.reduceSub, Int.reduceEq, Int.reduceLT, Int.reduceLE, Int.reduceGT, Int.reduceGE, Int.reduceSub, Int.reduceAdd, Int.reduceMul, Int.reduceNe, Int.reduceNeg, Int.reduceToNat, Nat.reduceMul, hx, spNDiv, n1, n2, nl_bl, y0, hb0, spIof, spFU64, o1, spNAdd, spNNorm, n2', n2'', spNSub, rl, ql, hr2, Bool.not_true, z1, z2, Fin, isEnd, resL, res1, iE, rE]
      exact ⟨_, rfl, rfl, fun k hk => by simp only [ne_nb hk, if_false]⟩
  · obtain ⟨z1, z2⟩ := d1 (fun e => hx e.1)
    simp only [hx, decide_false] at z1
    simp only [↓R0, R1, rdL, rdH, isCall, istep, ibin, vcells, fillI, setR, flat, okCell, isBase, List.set, List.drop, List.take, List.append, bnds, bhi, blo, srcOf, ↓reduceIte, Nat.reduceEqDiff, Nat.reduceAdd, Nat.reduceLeDiff, reduceCtorEq, Nat.reduceSub, Int.reduceEq, Int.reduceLT, Int.reduceLE, Int.reduceGT, Int.reduceGE, Int.reduceSub, Int.reduceAdd, Int.reduceMul, Int.reduceNe, Int.reduceNeg, Int.reduceToNat, Nat.reduceMul, hx, spNDiv, n1, n2, nl_bl, y0, spIof, Bool.not_true, z1, z2, Fin, isEnd, resL, res1, iE, rE]
    exact ⟨_, rfl, rfl, fun k hk => by simp only [ne_nb hk, if_false]⟩
def spIGcd : List Value → Heap → Option Value
  | [.slice (some ⟨k, 0, none⟩) len _], h => match hget h k with
    | some blk => match ints blk.cells with
      | some zs => if len ≤ zs.length ∧ len ≤ 1000 ∧ (∀ z ∈ zs, z.2.length ≤ 34359738368) then some (.agg ⟨iE (gcds (zs.take len) : Int)⟩) else none
      | none => none
    | none => none
  | _, _ => none
theorem take2 {cells : List Value} {k : Nat} {a b : Value} (ha : cells[k]? = some a) (hb : cells[k + 1]? = some b) : (cells.drop k).take 2 = [a, b] ∧ k + 2 ≤ cells.length := by
  have h1 := (List.getElem?_eq_some_iff.1 ha)
  have h2 := (List.getElem?_eq_some_iff.1 hb)
  obtain ⟨h1, e1⟩ := h1
  obtain ⟨h2, e2⟩ := h2
  refine ⟨?_, by omega⟩
  rw [List.drop_eq_getElem_cons h1, List.drop_eq_getElem_cons h2, e1, e2]
  rfl
def c120 : ICode :=
  (.seq (.reg [⟨(some 2), none, (.alloc 23 2 [(.bool false), (.string ⟨⟨[]⟩⟩)])⟩])
  (.seq (.reg [⟨(some 3), none, (.mv (.c (.string ⟨⟨[]⟩⟩)))⟩])
  (.seq (.seq (.reg [⟨(some 6), none, (.mv (.t 0))⟩, ⟨(some 7), none, (.lensl (.t 6))⟩, ⟨(some 8), none, (.mv (.c (.int .i64 0)))⟩])
  (.block 0 (.loop (.seq (.reg [⟨(some 9), none, (.bin .lss (.t 8) (.t 7))⟩])
  (.seq (.cond (.t 9)
  .skip
  (.exit 0))
  (.seq (.block 1 (.seq (.reg [⟨(some 10), none, (.ixsl 2 (.t 6) (.t 8))⟩, ⟨(some 11), none, (.load true 2 (.t 10))⟩, ⟨(some 5), none, (.alloc 23 2 [(.bool false), (.string ⟨⟨[]⟩⟩)])⟩, ⟨none, none, (.store 2 (.t 5) (.t 11))⟩])
  (.reg [⟨(some 12), none, (.mv (.t 3))⟩, ⟨(some 13), none, (.faddr 1 (.t 5))⟩, ⟨(some 14), none, (.load false 1 (.t 13))⟩, ⟨(some 15), none, (.call 66 [(.t 12), (.t 14)])⟩, ⟨(some 3), none, (.mv (.t 15))⟩])))
  (.reg [⟨(some 16), none, (.bin .add (.t 8) (.c (.int .i64 1)))⟩, ⟨(some 8), none, (.mv (.t 16))⟩])))))))
  (.seq (.reg [⟨(some 17), none, (.mv (.t 3))⟩, ⟨(some 18), none, (.call 69 [(.c (.bool false)), (.t 17)])⟩, ⟨none, none, (.store 2 (.t 2) (.t 18))⟩])
  .ret))))
theorem tr120 : trFun Tryz.prog 120 = some ⟨19, [.cell 2 true 2], c120⟩ := by kernel_rfl
theorem ok_iGcd : SpecOK Tryz.prog 120 (rdS spIGcd) := by
  refine rd_run (env_cons ok_iof (env_cons ok_nGcd (env_nil _))) mixed tr120 ?_ ?_
  · intro args h h' v hle e
    unfold spIGcd at e ⊢
    split at e
    · rename_i k len c
      split at e
      · rename_i blk hb
        simp only [hle _ _ hb]; exact e
      · cases e
    · cases e
  intro args v h N hG hN
  unfold spIGcd at hG
  split at hG
  case h_2 => cases hG
  rename_i k len c
  split at hG
  case h_2 => cases hG
  rename_i blk hb
  split at hG
  case h_2 => cases hG
  rename_i zs hz
  split at hG
  case isFalse => cases hG
  rename_i hl
  obtain ⟨hl1, hl2, hl3⟩ := hl
  cases hG
  have hk := hN _ _ hb
  refine ⟨rfl, by simp, ?_⟩
  simp only [c120, initT, List.zipIdx_cons, List.zipIdx_nil, List.map_cons, List.map_nil, Nat.reduceAdd]
  simp only [↓R0, R1, rdL, rdH, isCall, istep, ibin, vcells, fillI, setR, flat, okCell, isBase, List.set, List.drop, List.take, List.append, bnds, bhi, blo, srcOf, ↓reduceIte, Nat.reduceEqDiff, Nat.reduceAdd, Nat.reduceLeDiff, reduceCtorEq, Nat.reduceSub, Int.reduceEq, Int.reduceLT, Int.reduceLE, Int.reduceGT, Int.reduceGE, Int.reduceSub, Int.reduceAdd, Int.reduceMul, Int.reduceNe, Int.reduceNeg, Int.reduceToNat, Nat.reduceMul]
  refine lp_parts (fun n tm hp nx => ∃ (i : Nat), n + i = len ∧ tmget tm 6 = .slice (some ⟨k, 0, none⟩) len c ∧ tmget tm 7 = .int .i64 len ∧ tmget tm 8 = .int .i64 i ∧ tmget tm 3 = .string ⟨⟨bl (gcds (zs.take i))⟩⟩ ∧
      tmget tm 2 = .pointer (some ⟨N + 0, 0, none⟩) ∧ hget hp (N + 0) = some ⟨23, 2, true, [.bool false, .string ⟨⟨[]⟩⟩]⟩ ∧ (∀ q, q < N → hget hp q = hget h q) ∧ nx = N + (i + 1) ∧ (bl (gcds (zs.take i))).length ≤ 34359738368) ?_ len
    ⟨0, by omega, ?_, ?_, ?_, ?_, ?_, ?_, ?_, rfl, ?_⟩
  · intro n tm hp nx ⟨i, hn, t6, t7, t8, t3, t2, hb2, hh, hnx, hg⟩
    subst hnx
    by_cases c1 : i < len
    · obtain ⟨⟨s, l⟩, hi⟩ : ∃ z, zs[i]? = some z := ⟨_, List.getElem?_eq_getElem (by omega)⟩
      obtain ⟨g1, g2⟩ := ints_get zs hz i s l hi
      obtain ⟨g3, g4⟩ := take2 g1 g2
      have hbb : hget hp k = some blk := by rw [hh k hk]; exact hb
      have hll : l.length ≤ 34359738368 := hl3 (s, l) (List.mem_of_getElem? hi)
      have e1 : IntKind.i64.wrap ((i : Int) + 1) = ((i + 1 : Nat) : Int) := by rw [i64_in _ (by omega)]; omega
      have hne : ¬ (N + (i + 1) = k) := by omega
      have hgs : gcds (zs.take (i + 1)) = Nat.gcd (gcds (zs.take i)) (nl l) := by
        unfold gcds; rw [List.take_add_one, hi]; simp
      simp only [↓R0, R1, rdL, rdH, isCall, istep, ibin, vcells, fillI, setR, flat, okCell, isBase, List.set, List.drop, List.take, List.append, bnds, bhi, blo, srcOf, ↓reduceIte, Nat.reduceEqDiff, Nat.reduceAdd, Nat.reduceLeDiff, reduceCtorEq, Nat.reduceSub, Int.reduceEq, Int.reduceLT, Int.reduceLE, Int.reduceGT, Int.reduceGE, Int.reduceSub, Int.reduceAdd, Int.reduceMul, Int.reduceNe, Int.reduceNeg, Int.reduceToNat, Nat.reduceMul, t6, t7, t8, t3, t2, c1, hne, hbb, g3, g4, e1, spNGcd, hg, hll, nl_bl]
      refine ⟨n - 1, by omega, i + 1, by omega, rfl, ?_, ?_, ?_, rfl, ?_⟩
      · rw [hgs]
      · first | exact hb2 | (rw [if_neg (by omega)]; exact hb2)
      · intro q hq
        simp only [if_neg (show ¬ N + (i + 1) = q by omega)]
        exact hh q hq
      · rw [hgs]
        rcases Nat.eq_zero_or_pos (nl l) with e | e
        · rw [e, Nat.gcd_zero_right]; exact hg
        · exact Nat.le_trans (bl_length_mono (Nat.gcd_le_right _ e)) (Nat.le_trans (bl_length_nl l) hll)
    · have ei : i = len := by omega
      subst ei
      have hz2 : sv false (bl (gcds (zs.take i))) = (gcds (zs.take i) : Int) := by rw [sv_false, nl_bl]
      simp only [↓R0, R1, rdL, rdH, isCall, istep, ibin, vcells, fillI, setR, flat, okCell, isBase, List.set, List.drop, List.take, List.append, bnds, bhi, blo, srcOf, ↓reduceIte, Nat.reduceEqDiff, Nat.reduceAdd, Nat.reduceLeDiff, reduceCtorEq, Nat.reduceSub, Int.reduceEq, Int.reduceLT, Int.reduceLE, Int.reduceGT, Int.reduceGE, Int.reduceSub, Int.reduceAdd, Int.reduceMul, Int.reduceNe, Int.reduceNeg, Int.reduceToNat, Nat.reduceMul, t6, t7, t8, t3, t2, hb2, c1, spIof, nl_bl, hz2, Fin, isEnd, resL, res1, iE, rE]
      first | exact ⟨_, rfl, rfl, hh⟩ | exact ⟨_, rfl, rfl, fun k hk => by simp only [ne_nb hk, if_false]; exact hh k hk⟩
  · (first | (simp only [↓R0, R1, rdL, rdH, isCall, istep, ibin, vcells, fillI, setR, flat, okCell, isBase, List.set, List.drop, List.take, List.append, bnds, bhi, blo, srcOf, ↓reduceIte, Nat.reduceEqDiff, Nat.reduceAdd, Nat.reduceLeDiff, reduceCtorEq, Nat.reduceSub, Int.reduceEq, Int.reduceLT, Int.reduceLE, Int.reduceGT, Int.reduceGE, Int.reduceSub, Int.reduceAdd, Int.reduceMul, Int.reduceNe, Int.reduceNeg, Int.reduceToNat, Nat.reduceMul]; done) | (simp only [↓R0, R1, rdL, rdH, isCall, istep, ibin, vcells, fillI, setR, flat, okCell, isBase, List.set, List.drop, List.take, List.append, bnds, bhi, blo, srcOf, ↓reduceIte, Nat.reduceEqDiff, Nat.reduceAdd, Nat.reduceLeDiff, reduceCtorEq, Nat.reduceSub, Int.reduceEq, Int.reduceLT, Int.reduceLE, Int.reduceGT, Int.reduceGE, Int.reduceSub, Int.reduceAdd, Int.reduceMul, Int.reduceNe, Int.reduceNeg, Int.reduceToNat, Nat.reduceMul]; rfl) | rfl)
  · (first | (simp only [↓R0, R1, rdL, rdH, isCall, istep, ibin, vcells, fillI, setR, flat, okCell, isBase, List.set, List.drop, List.take, List.append, bnds, bhi, blo, srcOf, ↓reduceIte, Nat.reduceEqDiff, Nat.reduceAdd, Nat.reduceLeDiff, reduceCtorEq, Nat.reduceSub, Int.reduceEq, Int.reduceLT, Int.reduceLE, Int.reduceGT, Int.reduceGE, Int.reduceSub, Int.reduceAdd, Int.reduceMul, Int.reduceNe, Int.reduceNeg, Int.reduceToNat, Nat.reduceMul]; done) | (simp only [↓R0, R1, rdL, rdH, isCall, istep, ibin, vcells, fillI, setR, flat, okCell, isBase, List.set, List.drop, List.take, List.append, bnds, bhi, blo, srcOf, ↓reduceIte, Nat.reduceEqDiff, Nat.reduceAdd, Nat.reduceLeDiff, reduceCtorEq, Nat.reduceSub, Int.reduceEq, Int.reduceLT, Int.reduceLE, Int.reduceGT, Int.reduceGE, Int.reduceSub, Int.reduceAdd, Int.reduceMul, Int.reduceNe, Int.reduceNeg, Int.reduceToNat, Nat.reduceMul]; rfl) | rfl)
  · (first | (simp only [↓R0, R1, rdL, rdH, isCall, istep, ibin, vcells, fillI, setR, flat, okCell, isBase, List.set, List.drop, List.take, List.append, bnds, bhi, blo, srcOf, ↓reduceIte, Nat.reduceEqDiff, Nat.reduceAdd, Nat.reduceLeDiff, reduceCtorEq, Nat.reduceSub, Int.reduceEq, Int.reduceLT, Int.reduceLE, Int.reduceGT, Int.reduceGE, Int.reduceSub, Int.reduceAdd, Int.reduceMul, Int.reduceNe, Int.reduceNeg, Int.reduceToNat, Nat.reduceMul]; done) | (simp only [↓R0, R1, rdL, rdH, isCall, istep, ibin, vcells, fillI, setR, flat, okCell, isBase, List.set, List.drop, List.take, List.append, bnds, bhi, blo, srcOf, ↓reduceIte, Nat.reduceEqDiff, Nat.reduceAdd, Nat.reduceLeDiff, reduceCtorEq, Nat.reduceSub, Int.reduceEq, Int.reduceLT, Int.reduceLE, Int.reduceGT, Int.reduceGE, Int.reduceSub, Int.reduceAdd, Int.reduceMul, Int.reduceNe, Int.reduceNeg, Int.reduceToNat, Nat.reduceMul]; rfl) | rfl)
  · (first | (simp only [↓R0, R1, rdL, rdH, isCall, istep, ibin, vcells, fillI, setR, flat, okCell, isBase, List.set, List.drop, List.take, List.append, bnds, bhi, blo, srcOf, ↓reduceIte, Nat.reduceEqDiff, Nat.reduceAdd, Nat.reduceLeDiff, reduceCtorEq, Nat.reduceSub, Int.reduceEq, Int.reduceLT, Int.reduceLE, Int.reduceGT, Int.reduceGE, Int.reduceSub, Int.reduceAdd, Int.reduceMul, Int.reduceNe, Int.reduceNeg, Int.reduceToNat, Nat.reduceMul, gcds, List.foldl_nil, bl_zero]; done) | (simp only [↓R0, R1, rdL, rdH, isCall, istep, ibin, vcells, fillI, setR, flat, okCell, isBase, List.set, List.drop, List.take, List.append, bnds, bhi, blo, srcOf, ↓reduceIte, Nat.reduceEqDiff, Nat.reduceAdd, Nat.reduceLeDiff, reduceCtorEq, Nat.reduceSub, Int.reduceEq, Int.reduceLT, Int.reduceLE, Int.reduceGT, Int.reduceGE, Int.reduceSub, Int.reduceAdd, Int.reduceMul, Int.reduceNe, Int.reduceNeg, Int.reduceToNat, Nat.reduceMul, gcds, List.foldl_nil, bl_zero]; rfl) | rfl)
  · (first | (simp only [↓R0, R1, rdL, rdH, isCall, istep, ibin, vcells, fillI, setR, flat, okCell, isBase, List.set, List.drop, List.take, List.append, bnds, bhi, blo, srcOf, ↓reduceIte, Nat.reduceEqDiff, Nat.reduceAdd, Nat.reduceLeDiff, reduceCtorEq, Nat.reduceSub, Int.reduceEq, Int.reduceLT, Int.reduceLE, Int.reduceGT, Int.reduceGE, Int.reduceSub, Int.reduceAdd, Int.reduceMul, Int.reduceNe, Int.reduceNeg, Int.reduceToNat, Nat.reduceMul]; done) | (simp only [↓R0, R1, rdL, rdH, isCall, istep, ibin, vcells, fillI, setR, flat, okCell, isBase, List.set, List.drop, List.take, List.append, bnds, bhi, blo, srcOf, ↓reduceIte, Nat.reduceEqDiff, Nat.reduceAdd, Nat.reduceLeDiff, reduceCtorEq, Nat.reduceSub, Int.reduceEq, Int.reduceLT, Int.reduceLE, Int.reduceGT, Int.reduceGE, Int.reduceSub, Int.reduceAdd, Int.reduceMul, Int.reduceNe, Int.reduceNeg, Int.reduceToNat, Nat.reduceMul]; rfl) | rfl)
  · (first | (simp only [↓R0, R1, rdL, rdH, isCall, istep, ibin, vcells, fillI, setR, flat, okCell, isBase, List.set, List.drop, List.take, List.append, bnds, bhi, blo, srcOf, ↓reduceIte, Nat.reduceEqDiff, Nat.reduceAdd, Nat.reduceLeDiff, reduceCtorEq, Nat.reduceSub, Int.reduceEq, Int.reduceLT, Int.reduceLE, Int.reduceGT, Int.reduceGE, Int.reduceSub, Int.reduceAdd, Int.reduceMul, Int.reduceNe, Int.reduceNeg, Int.reduceToNat, Nat.reduceMul]; done) | (simp only [↓R0, R1, rdL, rdH, isCall, istep, ibin, vcells, fillI, setR, flat, okCell, isBase, List.set, List.drop, List.take, List.append, bnds, bhi, blo, srcOf, ↓reduceIte, Nat.reduceEqDiff, Nat.reduceAdd, Nat.reduceLeDiff, reduceCtorEq, Nat.reduceSub, Int.reduceEq, Int.reduceLT, Int.reduceLE, Int.reduceGT, Int.reduceGE, Int.reduceSub, Int.reduceAdd, Int.reduceMul, Int.reduceNe, Int.reduceNeg, Int.reduceToNat, Nat.reduceMul]; rfl) | rfl)
  · intro q hq
    simp only [↓R0, R1, rdL, rdH, isCall, istep, ibin, vcells, fillI, setR, flat, okCell, isBase, List.set, List.drop, List.take, List.append, bnds, bhi, blo, srcOf, ↓reduceIte, Nat.reduceEqDiff, Nat.reduceAdd, Nat.reduceLeDiff, reduceCtorEq, Nat.reduceSub, Int.reduceEq, Int.reduceLT, Int.reduceLE, Int.reduceGT, Int.reduceGE, Int.reduceSub, Int.reduceAdd, Int.reduceMul, Int.reduceNe, Int.reduceNeg, Int.reduceToNat, Nat.reduceMul, hget_new hq]
  · simp [gcds, bl_zero]
end Go.Eng
end
section
set_option linter.unusedVariables false
set_option linter.unusedSimpArgs false
set_option linter.unusedSectionVars false
set_option maxRecDepth 4000
namespace Go.Eng
open Go Go.Proofs Go.IntWalk
def spPNorm : List Value → Option Value
  | [.agg ⟨[.bool s1, .string ⟨⟨l1⟩⟩, .bool s2, .string ⟨⟨l2⟩⟩, .bool s3, .string ⟨⟨l3⟩⟩, .bool s4, .string ⟨⟨l4⟩⟩]⟩] =>
    if l1.length ≤ 34359738368 ∧ l2.length ≤ 34359738368 ∧ l3.length ≤ 34359738368 ∧ l4.length ≤ 34359738368 then some (.agg ⟨pE (sv s1 l1) (sv s2 l2) (sv s3 l3) (sv s4 l4)⟩) else none
  | _ => none
def c75 : ICode :=
  (.seq (.reg [⟨(some 1), none, (.box 30 8 (.t 0))⟩, ⟨(some 2), none, (.alloc 30 8 [(.bool false), (.string ⟨⟨[]⟩⟩), (.bool false), (.string ⟨⟨[]⟩⟩), (.bool false), (.string ⟨⟨[]⟩⟩), (.bool false), (.string ⟨⟨[]⟩⟩)])⟩])
  (.seq (.dreg [⟨(some 8), none, [], (.faddr 0 (.t 1))⟩, ⟨(some 9), none, [], (.load true 2 (.t 8))⟩, ⟨(some 10), none, [], (.call 78 [(.t 9)])⟩, ⟨(some 11), none, [], (.faddr 2 (.t 1))⟩, ⟨(some 12), none, [2], (.load true 2 (.t 11))⟩, ⟨(some 13), none, [], (.call 78 [(.t 12)])⟩, ⟨(some 14), none, [], (.faddr 4 (.t 1))⟩, ⟨(some 15), none, [2, 5], (.load true 2 (.t 14))⟩, ⟨(some 16), none, [], (.call 78 [(.t 15)])⟩, ⟨(some 17), none, [], (.faddr 6 (.t 1))⟩, ⟨(some 18), none, [2, 5, 8], (.load true 2 (.t 17))⟩, ⟨(some 19), none, [], (.call 78 [(.t 18)])⟩, ⟨(some 20), none, [], (.build [(.bool false), (.string ⟨⟨[]⟩⟩), (.bool false), (.string ⟨⟨[]⟩⟩), (.bool false), (.string ⟨⟨[]⟩⟩), (.bool false), (.string ⟨⟨[]⟩⟩)] [(0, 2, (.t 10)), (2, 2, (.t 13)), (4, 2, (.t 16)), (6, 2, (.t 19))])⟩, ⟨(some 3), none, [], (.alloc 108 8 [(.bool false), (.string ⟨⟨[]⟩⟩), (.bool false), (.string ⟨⟨[]⟩⟩), (.bool false), (.string ⟨⟨[]⟩⟩), (.bool false), (.string ⟨⟨[]⟩⟩)])⟩, ⟨none, none, [], (.store 8 (.t 3) (.t 20))⟩])
  (.seq (.seq (.reg [⟨(some 21), none, (.ixarr 4 2 (.t 3) (.c (.int .i64 3)))⟩, ⟨(some 22), none, (.load true 2 (.t 21))⟩, ⟨(some 23), none, (.call 65 [(.t 22)])⟩, ⟨(some 24), none, (.bin .eql (.t 23) (.c (.int .i64 0)))⟩])
  (.cond (.t 24)
  (.reg [⟨(some 25), none, (.call 26 [(.c (.int .i64 1))])⟩, ⟨(some 26), none, (.ixarr 4 2 (.t 3) (.c (.int .i64 3)))⟩, ⟨none, none, (.store 2 (.t 26) (.t 25))⟩])
  .skip))
  (.seq (.reg [⟨(some 27), none, (.slarr 4 2 (.t 3) none none)⟩, ⟨(some 28), none, (.call 120 [(.t 27)])⟩, ⟨(some 4), none, (.alloc 23 2 [(.bool false), (.string ⟨⟨[]⟩⟩)])⟩, ⟨none, none, (.store 2 (.t 4) (.t 28))⟩])
  (.seq (.reg [⟨(some 29), none, (.ixarr 4 2 (.t 3) (.c (.int .i64 3)))⟩, ⟨(some 30), none, (.load true 2 (.t 29))⟩, ⟨(some 31), none, (.call 65 [(.t 30)])⟩, ⟨(some 32), none, (.bin .lss (.t 31) (.c (.int .i64 0)))⟩, ⟨(some 5), none, (.mv (.t 32))⟩])
  (.seq (.seq (.reg [⟨(some 33), none, (.load true 8 (.t 3))⟩, ⟨(some 34), none, (.mv (.c (.int .i64 0)))⟩])
  (.block 0 (.loop (.seq (.reg [⟨(some 35), none, (.bin .lss (.t 34) (.c (.int .i64 4)))⟩])
  (.seq (.cond (.t 35)
  .skip
  (.exit 0))
  (.seq (.block 1 (.seq (.reg [⟨(some 36), none, (.mv (.t 34))⟩, ⟨(some 37), none, (.idarr 4 true 2 (.t 33) (.t 34))⟩, ⟨(some 7), none, (.alloc 23 2 [(.bool false), (.string ⟨⟨[]⟩⟩)])⟩, ⟨(some 6), none, (.mv (.t 36))⟩, ⟨none, none, (.store 2 (.t 7) (.t 37))⟩])
  (.seq (.reg [⟨(some 39), none, (.load true 2 (.t 7))⟩, ⟨(some 40), none, (.load true 2 (.t 4))⟩, ⟨(some 41), none, (.call 121 [(.t 39), (.t 40)])⟩, ⟨(some 38), none, (.mv (.t 41))⟩, ⟨(some 42), none, (.ext (.t 38) 0)⟩, ⟨(some 43), none, (.ext (.t 38) 1)⟩, ⟨(some 44), none, (.ext (.t 38) 2)⟩, ⟨none, none, (.store 2 (.t 7) (.t 42))⟩])
  (.seq (.seq (.reg [⟨(some 45), none, (.mv (.t 5))⟩])
  (.cond (.t 45)
  (.reg [⟨(some 46), none, (.load true 2 (.t 7))⟩, ⟨(some 47), none, (.call 97 [(.t 46)])⟩, ⟨none, none, (.store 2 (.t 7) (.t 47))⟩])
  .skip))
  (.reg [⟨(some 48), none, (.mv (.t 6))⟩, ⟨(some 49), none, (.load true 2 (.t 7))⟩, ⟨(some 50), none, (.ixarr 4 2 (.t 3) (.t 48))⟩, ⟨none, none, (.store 2 (.t 50) (.t 49))⟩])))))
  (.reg [⟨(some 51), none, (.bin .add (.t 34) (.c (.int .i64 1)))⟩, ⟨(some 34), none, (.mv (.t 51))⟩])))))))
  (.seq (.reg [⟨(some 52), none, (.ixarr 4 2 (.t 3) (.c (.int .i64 0)))⟩, ⟨(some 53), none, (.load true 2 (.t 52))⟩, ⟨(some 54), none, (.ixarr 4 2 (.t 3) (.c (.int .i64 1)))⟩, ⟨(some 55), none, (.load true 2 (.t 54))⟩, ⟨(some 56), none, (.ixarr 4 2 (.t 3) (.c (.int .i64 2)))⟩, ⟨(some 57), none, (.load true 2 (.t 56))⟩, ⟨(some 58), none, (.ixarr 4 2 (.t 3) (.c (.int .i64 3)))⟩, ⟨(some 59), none, (.load true 2 (.t 58))⟩, ⟨(some 60), none, (.build [(.bool false), (.string ⟨⟨[]⟩⟩), (.bool false), (.string ⟨⟨[]⟩⟩), (.bool false), (.string ⟨⟨[]⟩⟩), (.bool false), (.string ⟨⟨[]⟩⟩)] [(0, 2, (.t 53)), (2, 2, (.t 55)), (4, 2, (.t 57)), (6, 2, (.t 59))])⟩, ⟨none, none, (.store 8 (.t 2) (.t 60))⟩])
  .ret)))))))
theorem tr75 : trFun Tryz.prog 75 = some ⟨61, [.cell 2 true 8], c75⟩ := by kernel_rfl
set_option maxHeartbeats 2000000 in
theorem ok_pNorm : SpecOK Tryz.prog 75 (flat spPNorm) := by
  refine flat_run (env_cons ok_iNorm (env_cons ok_iSign (env_cons ok_iFrom (env_cons ok_iGcd (env_cons ok_iNeg (env_cons ok_iDiv (env_nil _))))))) mixed tr75 ?_
  intro args v h N hG
  unfold spPNorm at hG
  split at hG
  case h_2 => cases hG
  rename_i s1 l1 s2 l2 s3 l3 s4 l4
  split at hG
  case isFalse => cases hG
  rename_i hl
  obtain ⟨h1, h2, h3, h4⟩ := hl
  cases hG
  refine ⟨rfl, by simp, ?_⟩
  have k1 : l1.length ≤ 1099511627776 := by omega
  have k2 : l2.length ≤ 1099511627776 := by omega
  have k3 : l3.length ≤ 1099511627776 := by omega
  have k4 : l4.length ≤ 1099511627776 := by omega
  have n1 := len_sv (s := s1) h1
  have n2 := len_sv (s := s2) h2
  have n3 := len_sv (s := s3) h3
  have n4 := len_sv (s := s4) h4
  have n4' : (bl (sv s4 l4).natAbs).length ≤ 1099511627776 := by omega
  simp only [c75, initT, List.zipIdx_cons, List.zipIdx_nil, List.map_cons, List.map_nil, Nat.reduceAdd]
  simp only [↓R0, R1, rdL, rdH, isCall, istep, ibin, vcells, fillI, setR, flat, okCell, isBase, List.set, List.drop, List.take, List.append, bnds, bhi, blo, srcOf, ↓reduceIte, Nat.reduceEqDiff, Nat.reduceAdd, Nat.reduceLeDiff, reduceCtorEq, Nat.reduceSub, Int.reduceEq, Int.reduceLT, Int.reduceLE, Int.reduceGT, Int.reduceGE, Int.reduceSub, Int.reduceAdd, Int.reduceMul, Int.reduceNe, Int.reduceNeg, Int.reduceToNat, Nat.reduceMul, spINorm, k1, k2, k3, k4, iE]
  generalize sv s1 l1 = x at *
  generalize sv s2 l2 = y at *
  generalize sv s3 l3 = z at *
  generalize sv s4 l4 = w at *
  have e1 : (w.sign = 0) = (w = 0) := propext Int.sign_eq_zero_iff_zero
  simp only [↓R0, R1, rdL, rdH, isCall, istep, ibin, vcells, fillI, setR, flat, okCell, isBase, List.set, List.drop, List.take, List.append, bnds, bhi, blo, srcOf, ↓reduceIte, Nat.reduceEqDiff, Nat.reduceAdd, Nat.reduceLeDiff, reduceCtorEq, Nat.reduceSub, Int.reduceEq, Int.reduceLT, Int.reduceLE, Int.reduceGT, Int.reduceGE, Int.reduceSub, Int.reduceAdd, Int.reduceMul, Int.reduceNe, Int.reduceNeg, Int.reduceToNat, Nat.reduceMul, spISign, n4', e1]
  have rest : ∀ W : Int, W = pW w → (bl W.natAbs).length ≤ 34359738368 := by
    intro W e
    subst e
    unfold pW; split
    · exact Nat.le_trans (bl_length_le (k := 1).2 (by decide)) (by omega)
    · exact n4
  unfold pE pQ pG
  generalize hW : pW w = W at *
  have nW := rest W rfl
  have nW2 : (bl W.natAbs).length ≤ 1099511627776 := by omega
  have hWne : W ≠ 0 := by rw [← hW]; exact pW_ne w
  have dv1 : (Nat.gcd (Nat.gcd (Nat.gcd x.natAbs y.natAbs) z.natAbs) W.natAbs : Int) ∣ x := by
    refine Int.ofNat_dvd_left.2 ?_; exact Nat.dvd_trans (Nat.gcd_dvd_left _ _) (Nat.dvd_trans (Nat.gcd_dvd_left _ _) (Nat.gcd_dvd_left _ _))
  have dv2 : (Nat.gcd (Nat.gcd (Nat.gcd x.natAbs y.natAbs) z.natAbs) W.natAbs : Int) ∣ y := by
    refine Int.ofNat_dvd_left.2 ?_; exact Nat.dvd_trans (Nat.gcd_dvd_left _ _) (Nat.dvd_trans (Nat.gcd_dvd_left _ _) (Nat.gcd_dvd_right _ _))
  have dv3 : (Nat.gcd (Nat.gcd (Nat.gcd x.natAbs y.natAbs) z.natAbs) W.natAbs : Int) ∣ z := by
    refine Int.ofNat_dvd_left.2 ?_; exact Nat.dvd_trans (Nat.gcd_dvd_left _ _) (Nat.gcd_dvd_right _ _)
  have dv4 : (Nat.gcd (Nat.gcd (Nat.gcd x.natAbs y.natAbs) z.natAbs) W.natAbs : Int) ∣ W := by
    refine Int.ofNat_dvd_left.2 ?_; exact Nat.gcd_dvd_right _ _
  generalize hGG : Nat.gcd (Nat.gcd (Nat.gcd x.natAbs y.natAbs) z.natAbs) W.natAbs = G at *
  have hG0 : 0 < G := by rw [← hGG]; exact Nat.gcd_pos_of_pos_right _ (by omega)
  have mG : (bl G).length ≤ 34359738368 := by
    rw [← hGG]; exact Nat.le_trans (bl_length_mono (Nat.gcd_le_right _ (by omega))) nW
  have f1 : ¬ ((G : Int) < 0) := by omega
  have f2 : ¬ ((G : Int) = 0) := by omega
  have f3 : ¬ (G = 0) := by omega
  have f5 : sv false (bl G) = (G : Int) := by rw [sv_false, nl_bl]
  have q1 : (bl (x / (G : Int)).natAbs).length ≤ 1099511627776 := Nat.le_trans (bl_length_mono (Int.natAbs_ediv_le_natAbs _ _)) (by omega)
  have q2 : (bl (y / (G : Int)).natAbs).length ≤ 1099511627776 := Nat.le_trans (bl_length_mono (Int.natAbs_ediv_le_natAbs _ _)) (by omega)
  have q3 : (bl (z / (G : Int)).natAbs).length ≤ 1099511627776 := Nat.le_trans (bl_length_mono (Int.natAbs_ediv_le_natAbs _ _)) (by omega)
  have q4 : (bl (W / (G : Int)).natAbs).length ≤ 1099511627776 := Nat.le_trans (bl_length_mono (Int.natAbs_ediv_le_natAbs _ _)) (by omega)
  have d1 : -(x / (G : Int)) = -x / (G : Int) := (Int.neg_ediv_of_dvd dv1).symm
  have d2 : -(y / (G : Int)) = -y / (G : Int) := (Int.neg_ediv_of_dvd dv2).symm
  have d3 : -(z / (G : Int)) = -z / (G : Int) := (Int.neg_ediv_of_dvd dv3).symm
  have d4 : -(W / (G : Int)) = -W / (G : Int) := (Int.neg_ediv_of_dvd dv4).symm
  have w1 : IntKind.i64.wrap 1 = 1 := i64_in _ (by omega)
  have w2 : IntKind.i64.wrap 2 = 2 := i64_in _ (by omega)
  have w3 : IntKind.i64.wrap 3 = 3 := i64_in _ (by omega)
  have w4 : IntKind.i64.wrap 4 = 4 := i64_in _ (by omega)
  have eW : (W.sign < 0) = (W < 0) := propext Int.sign_neg_iff
  have z00 : 4 - 0 = 4 := rfl
  by_cases hw : w = 0
  · have hfrom : spIFrom [.int .i64 1] = some (.agg ⟨iE W⟩) := by
      rw [← hW]; unfold pW; rw [if_pos hw]; rfl
    simp only [↓R0, R1, rdL, rdH, isCall, istep, ibin, vcells, fillI, setR, flat, okCell, isBase, List.set, List.drop, List.take, List.append, bnds, bhi, blo, srcOf, ↓reduceIte, Nat.reduceEqDiff, Nat.reduceAdd, Nat.reduceLeDiff, reduceCtorEq, Nat.reduceSub, Int.reduceEq, Int.reduceLT, Int.reduceLE, Int.reduceGT, Int.reduceGE, Int.reduceSub, Int.reduceAdd, Int.reduceMul, Int.reduceNe, Int.reduceNeg, Int.reduceToNat, Nat.reduceMul, hw, hfrom, iE, spISign, nW2, eW, rdS, spIGcd, ints, gcds, mkSl, z00, List.foldl_cons, List.foldl_nil, Nat.gcd_zero_left, nl_bl, List.forall_mem_cons, n1, n2, n3, nW, List.not_mem_nil, false_implies, implies_true, hGG, f1, Int.natAbs_natCast]
    by_cases hn : W < 0
    · have sW : sv true (bl W.natAbs) = W := by rw [sv_true, nl_bl]; omega
      simp only [↓R0, R1, rdL, rdH, isCall, istep, ibin, vcells, fillI, setR, flat, okCell, isBase, List.set, List.drop, List.take, List.append, bnds, bhi, blo, srcOf, ↓reduceIte, Nat.reduceEqDiff, Nat.reduceAdd, Nat.reduceLeDiff, reduceCtorEq, Nat.reduceSub, Int.reduceEq, Int.reduceLT, Int.reduceLE, Int.reduceGT, Int.reduceGE, Int.reduceSub, Int.reduceAdd, Int.reduceMul, Int.reduceNe, Int.reduceNeg, Int.reduceToNat, Nat.reduceMul, hn]
      refine lp_step ?_
      simp only [↓R0, R1, rdL, rdH, isCall, istep, ibin, vcells, fillI, setR, flat, okCell, isBase, List.set, List.drop, List.take, List.append, bnds, bhi, blo, srcOf, ↓reduceIte, Nat.reduceEqDiff, Nat.reduceAdd, Nat.reduceLeDiff, reduceCtorEq, Nat.reduceSub, Int.reduceEq, Int.reduceLT, Int.reduceLE, Int.reduceGT, Int.reduceGE, Int.reduceSub, Int.reduceAdd, Int.reduceMul, Int.reduceNe, Int.reduceNeg, Int.reduceToNat, Nat.reduceMul, hn, spINeg, spIDiv, sW, n1, n2, n3, nW, mG, f1, f2, f3, f5, q1, q2, q3, q4, d1, d2, d3, d4, w1, w2, w3, w4, iE]
      refine lp_step ?_
      simp only [↓R0, R1, rdL, rdH, isCall, istep, ibin, vcells, fillI, setR, flat, okCell, isBase, List.set, List.drop, List.take, List.append, bnds, bhi, blo, srcOf, ↓reduceIte, Nat.reduceEqDiff, Nat.reduceAdd, Nat.reduceLeDiff, reduceCtorEq, Nat.reduceSub, Int.reduceEq, Int.reduceLT, Int.reduceLE, Int.reduceGT, Int.reduceGE, Int.reduceSub, Int.reduceAdd, Int.reduceMul, Int.reduceNe, Int.reduceNeg, Int.reduceToNat, Nat.reduceMul, hn, spINeg, spIDiv, sW, n1, n2, n3, nW, mG, f1, f2, f3, f5, q1, q2, q3, q4, d1, d2, d3, d4, w1, w2, w3, w4, iE]
      refine lp_step ?_
      simp only [↓R0, R1, rdL, rdH, isCall, istep, ibin, vcells, fillI, setR, flat, okCell, isBase, List.set, List.drop, List.take, List.append, bnds, bhi, blo, srcOf, ↓reduceIte, Nat.reduceEqDiff, Nat.reduceAdd, Nat.reduceLeDiff, reduceCtorEq, Nat.reduceSub, Int.reduceEq, Int.reduceLT, Int.reduceLE, Int.reduceGT, Int.reduceGE, Int.reduceSub, Int.reduceAdd, Int.reduceMul, Int.reduceNe, Int.reduceNeg, Int.reduceToNat, Nat.reduceMul, hn, spINeg, spIDiv, sW, n1, n2, n3, nW, mG, f1, f2, f3, f5, q1, q2, q3, q4, d1, d2, d3, d4, w1, w2, w3, w4, iE]
      refine lp_step ?_
      simp only [↓R0, R1, rdL, rdH, isCall, istep, ibin, vcells, fillI, setR, flat, okCell, isBase, List.set, List.drop, List.take, List.append, bnds, bhi, blo, srcOf, ↓reduceIte, Nat.reduceEqDiff, Nat.reduceAdd, Nat.reduceLeDiff, reduceCtorEq, Nat.reduceSub, Int.reduceEq, Int.reduceLT, Int.reduceLE, Int.reduceGT, Int.reduceGE, Int.reduceSub, Int.reduceAdd, Int.reduceMul, Int.reduceNe, Int.reduceNeg, Int.reduceToNat, Nat.reduceMul, hn, spINeg, spIDiv, sW, n1, n2, n3, nW, mG, f1, f2, f3, f5, q1, q2, q3, q4, d1, d2, d3, d4, w1, w2, w3, w4, iE]
      refine lp_step ?_
      simp only [↓R0, R1, rdL, rdH, isCall, istep, ibin, vcells, fillI, setR, flat, okCell, isBase, List.set, List.drop, List.take, List.append, bnds, bhi, blo, srcOf, ↓reduceIte, Nat.reduceEqDiff, Nat.reduceAdd, Nat.reduceLeDiff, reduceCtorEq, Nat.reduceSub, Int.reduceEq, Int.reduceLT, Int.reduceLE, Int.reduceGT, Int.reduceGE, Int.reduceSub, Int.reduceAdd, Int.reduceMul, Int.reduceNe, Int.reduceNeg, Int.reduceToNat, Nat.reduceMul, hn, Fin, isEnd, resL, res1, iE, rE]
      exact ⟨_, rfl, rfl, fun k hk => by simp only [ne_nb hk, if_false]⟩
    · have sW : sv false (bl W.natAbs) = W := by rw [sv_false, nl_bl]; omega
      simp only [↓R0, R1, rdL, rdH, isCall, istep, ibin, vcells, fillI, setR, flat, okCell, isBase, List.set, List.drop, List.take, List.append, bnds, bhi, blo, srcOf, ↓reduceIte, Nat.reduceEqDiff, Nat.reduceAdd, Nat.reduceLeDiff, reduceCtorEq, Nat.reduceSub, Int.reduceEq, Int.reduceLT, Int.reduceLE, Int.reduceGT, Int.reduceGE, Int.reduceSub, Int.reduceAdd, Int.reduceMul, Int.reduceNe, Int.reduceNeg, Int.reduceToNat, Nat.reduceMul, hn]
      refine lp_step ?_
      simp only [↓R0, R1, rdL, rdH, isCall, istep, ibin, vcells, fillI, setR, flat, okCell, isBase, List.set, List.drop, List.take, List.append, bnds, bhi, blo, srcOf, ↓reduceIte, Nat.reduceEqDiff, Nat.reduceAdd, Nat.reduceLeDiff, reduceCtorEq, Nat.reduceSub, Int.reduceEq, Int.reduceLT, Int.reduceLE, Int.reduceGT, Int.reduceGE, Int.reduceSub, Int.reduceAdd, Int.reduceMul, Int.reduceNe, Int.reduceNeg, Int.reduceToNat, Nat.reduceMul, hn, spINeg, spIDiv, sW, n1, n2, n3, nW, mG, f1, f2, f3, f5, q1, q2, q3, q4, d1, d2, d3, d4, w1, w2, w3, w4, iE]
      refine lp_step ?_
      simp only [↓R0, R1, rdL, rdH, isCall, istep, ibin, vcells, fillI, setR, flat, okCell, isBase, List.set, List.drop, List.take, List.append, bnds, bhi, blo, srcOf, ↓reduceIte, Nat.reduceEqDiff, Nat.reduceAdd, Nat.reduceLeDiff, reduceCtorEq, Nat.reduceSub, Int.reduceEq, Int.reduceLT, Int.reduceLE, Int.reduceGT, Int.reduceGE, Int.reduceSub, Int.reduceAdd, Int.reduceMul, Int.reduceNe, Int.reduceNeg, Int.reduceToNat, Nat.reduceMul, hn, spINeg, spIDiv, sW, n1, n2, n3, nW, mG, f1, f2, f3, f5, q1, q2, q3, q4, d1, d2, d3, d4, w1, w2, w3, w4, iE]
      refine lp_step ?_
      simp only [↓R0, R1, rdL, rdH, isCall, istep, ibin, vcells, fillI, setR, flat, okCell, isBase, List.set, List.drop, List.take, List.append, bnds, bhi, blo, srcOf, ↓reduceIte, Nat.reduceEqDiff, Nat.reduceAdd, Nat.reduceLeDiff, reduceCtorEq, Nat.reduceSub, Int.reduceEq, Int.reduceLT, Int.reduceLE, Int.reduceGT, Int.reduceGE, Int.reduceSub, Int.reduceAdd, Int.reduceMul, Int.reduceNe, Int.reduceNeg, Int.reduceToNat, Nat.reduceMul, hn, spINeg, spIDiv, sW, n1, n2, n3, nW, mG, f1, f2, f3, f5, q1, q2, q3, q4, d1, d2, d3, d4, w1, w2, w3, w4, iE]
      refine lp_step ?_
      simp only [↓R0, R1, rdL, rdH, isCall, istep, ibin, vcells, fillI, setR, flat, okCell, isBase, List.set, List.drop, List.take, List.append, bnds, bhi, blo, srcOf, ↓reduceIte, Nat.reduceEqDiff, Nat.reduceAdd, Nat.reduceLeDiff, reduceCtorEq, Nat.reduceSub, Int.reduceEq, Int.reduceLT, Int.reduceLE, Int.reduceGT, Int.reduceGE, Int.reduceSub, Int.reduceAdd, Int.reduceMul, Int.reduceNe, Int.reduceNeg, Int.reduceToNat, Nat.reduceMul, hn, spINeg, spIDiv, sW, n1, n2, n3, nW, mG, f1, f2, f3, f5, q1, q2, q3, q4, d1, d2, d3, d4, w1, w2, w3, w4, iE]
      refine lp_step ?_
      simp only [↓R0, R1, rdL, rdH, isCall, istep, ibin, vcells, fillI, setR, flat, okCell, isBase, List.set, List.drop, List.take, List.append, bnds, bhi, blo, srcOf, ↓reduceIte, Nat.reduceEqDiff, Nat.reduceAdd, Nat.reduceLeDiff, reduceCtorEq, Nat.reduceSub, Int.reduceEq, Int.reduceLT, Int.reduceLE, Int.reduceGT, Int.reduceGE, Int.reduceSub, Int.reduceAdd, Int.reduceMul, Int.reduceNe, Int.reduceNeg, Int.reduceToNat, Nat.reduceMul, hn, Fin, isEnd, resL, res1, iE, rE]
      exact ⟨_, rfl, rfl, fun k hk => by simp only [ne_nb hk, if_false]⟩
  · have hWw : W = w := by rw [← hW]; unfold pW; rw [if_neg hw]
    subst hWw
    simp only [↓R0, R1, rdL, rdH, isCall, istep, ibin, vcells, fillI, setR, flat, okCell, isBase, List.set, List.drop, List.take, List.append, bnds, bhi, blo, srcOf, ↓reduceIte, Nat.reduceEqDiff, Nat.reduceAdd, Nat.reduceLeDiff, reduceCtorEq, Nat.reduceSub, Int.reduceEq, Int.reduceLT, Int.reduceLE, Int.reduceGT, Int.reduceGE, Int.reduceSub, Int.reduceAdd, Int.reduceMul, Int.reduceNe, Int.reduceNeg, Int.reduceToNat, Nat.reduceMul, hw, iE, spISign, nW2, eW, rdS, spIGcd, ints, gcds, mkSl, z00, List.foldl_cons, List.foldl_nil, Nat.gcd_zero_left, nl_bl, List.forall_mem_cons, n1, n2, n3, nW, List.not_mem_nil, false_implies, implies_true, hGG, f1, Int.natAbs_natCast]
    by_cases hn : W < 0
    · have sW : sv true (bl W.natAbs) = W := by rw [sv_true, nl_bl]; omega
      simp only [↓R0, R1, rdL, rdH, isCall, istep, ibin, vcells, fillI, setR, flat, okCell, isBase, List.set, List.drop, List.take, List.append, bnds, bhi, blo, srcOf, ↓reduceIte, Nat.reduceEqDiff, Nat.reduceAdd, Nat.reduceLeDiff, reduceCtorEq, Nat.reduceSub, Int.reduceEq, Int.reduceLT, Int.reduceLE, Int.reduceGT, Int.reduceGE, Int.reduceSub, Int.reduceAdd, Int.reduceMul, Int.reduceNe, Int.reduceNeg, Int.reduceToNat, Nat.reduceMul, hn]
      refine lp_step ?_
      simp only [↓R0, R1, rdL, rdH, isCall, istep, ibin, vcells, fillI, setR, flat, okCell, isBase, List.set, List.drop, List.take, List.append, bnds, bhi, blo, srcOf, ↓reduceIte, Nat.reduceEqDiff, Nat.reduceAdd, Nat.reduceLeDiff, reduceCtorEq, Nat.reduceSub, Int.reduceEq, Int.reduceLT, Int.reduceLE, Int.reduceGT, Int.reduceGE, Int.reduceSub, Int.reduceAdd, Int.reduceMul, Int.reduceNe, Int.reduceNeg, Int.reduceToNat, Nat.reduceMul, hn, spINeg, spIDiv, sW, n1, n2, n3, nW, mG, f1, f2, f3, f5, q1, q2, q3, q4, d1, d2, d3, d4, w1, w2, w3, w4, iE]
      refine lp_step ?_
      simp only [↓R0, R1, rdL, rdH, isCall, istep, ibin, vcells, fillI, setR, flat, okCell, isBase, List.set, List.drop, List.take, List.append, bnds, bhi, blo, srcOf, ↓reduceIte, Nat.reduceEqDiff, Nat.reduceAdd, Nat.reduceLeDiff, reduceCtorEq, Nat.reduceSub, Int.reduceEq, Int.reduceLT, Int.reduceLE, Int.reduceGT, Int.reduceGE, Int.reduceSub, Int.reduceAdd, Int.reduceMul, Int.reduceNe, Int.reduceNeg, Int.reduceToNat, Nat.reduceMul, hn, spINeg, spIDiv, sW, n1, n2, n3, nW, mG, f1, f2, f3, f5, q1, q2, q3, q4, d1, d2, d3, d4, w1, w2, w3, w4, iE]
      refine lp_step ?_
      simp only [↓R0, R1, rdL, rdH, isCall, istep, ibin, vcells, fillI, setR, flat, okCell, isBase, List.set, List.drop, List.take, List.append, bnds, bhi, blo, srcOf, ↓reduceIte, Nat.reduceEqDiff, Nat.reduceAdd, Nat.reduceLeDiff, reduceCtorEq, Nat.reduceSub, Int.reduceEq, Int.reduceLT, Int.reduceLE, Int.reduceGT, Int.reduceGE, Int.reduceSub, Int.reduceAdd, Int.reduceMul, Int.reduceNe, Int.reduceNeg, Int.reduceToNat, Nat.reduceMul, hn, spINeg, spIDiv, sW, n1, n2, n3, nW, mG, f1, f2, f3, f5, q1, q2, q3, q4, d1, d2, d3, d4, w1, w2, w3, w4, iE]
      refine lp_step ?_
      simp only [↓R0, R1, rdL, rdH, isCall, istep, ibin, vcells, fillI, setR, flat, okCell, isBase, List.set, List.drop, List.take, List.append, bnds, bhi, blo, srcOf, ↓reduceIte, Nat.reduceEqDiff, Nat.reduceAdd, Nat.reduceLeDiff, reduceCtorEq, Nat.reduceSub, Int.reduceEq, Int.reduceLT, Int.reduceLE, Int.reduceGT, Int.reduceGE, Int.reduceSub, Int.reduceAdd, Int.reduceMul, Int.reduceNe, Int.reduceNeg, Int.reduceToNat, Nat.reduceMul, hn, spINeg, spIDiv, sW, n1, n2, n3, nW, mG, f1, f2, f3, f5, q1, q2, q3, q4, d1, d2, d3, d4, w1, w2, w3, w4, iE]
      refine lp_step ?_
      simp only [↓R0, R1, rdL, rdH, isCall, istep, ibin, vcells, fillI, setR, flat, okCell, isBase, List.set, List.drop, List.take, List.append, bnds, bhi, blo, srcOf, ↓reduceIte, Nat.reduceEqDiff, Nat.reduceAdd, Nat.reduceLeDiff, reduceCtorEq, Nat.reduceSub, Int.reduceEq, Int.reduceLT, Int.reduceLE, Int.reduceGT, Int.reduceGE, Int.reduceSub, Int.reduceAdd, Int.reduceMul, Int.reduceNe, Int.reduceNeg, Int.reduceToNat, Nat.reduceMul, hn, Fin, isEnd, resL, res1, iE, rE]
      exact ⟨_, rfl, rfl, fun k hk => by simp only [ne_nb hk, if_false]⟩
    · have sW : sv false (bl W.natAbs) = W := by rw [sv_false, nl_bl]; omega
      simp only [↓R0, R1, rdL, rdH, isCall, istep, ibin, vcells, fillI, setR, flat, okCell, isBase, List.set, List.drop, List.take, List.append, bnds, bhi, blo, srcOf, ↓reduceIte, Nat.reduceEqDiff, Nat.reduceAdd, Nat.reduceLeDiff, reduceCtorEq, Nat.reduceSub, Int.reduceEq, Int.reduceLT, Int.reduceLE, Int.reduceGT, Int.reduceGE, Int.reduceSub, Int.reduceAdd, Int.reduceMul, Int.reduceNe, Int.reduceNeg, Int.reduceToNat, Nat.reduceMul, hn]
      refine lp_step ?_
      simp only [↓R0, R1, rdL, rdH, isCall, istep, ibin, vcells, fillI, setR, flat, okCell, isBase, List.set, List.drop, List.take, List.append, bnds, bhi, blo, srcOf, ↓reduceIte, Nat.reduceEqDiff, Nat.reduceAdd, Nat.reduceLeDiff, reduceCtorEq, Nat.reduceSub, Int.reduceEq, Int.reduceLT, Int.reduceLE, Int.reduceGT, Int.reduceGE, Int.reduceSub, Int.reduceAdd, Int.reduceMul, Int.reduceNe, Int.reduceNeg, Int.reduceToNat, Nat.reduceMul, hn, spINeg, spIDiv, sW, n1, n2, n3, nW, mG, f1, f2, f3, f5, q1, q2, q3, q4, d1, d2, d3, d4, w1, w2, w3, w4, iE]
      refine lp_step ?_
      simp only [↓R0, R1, rdL, rdH, isCall, istep, ibin, vcells, fillI, setR, flat, okCell, isBase, List.set, List.drop, List.take, List.append, bnds, bhi, blo, srcOf, ↓reduceIte, Nat.reduceEqDiff, Nat.reduceAdd, Nat.reduceLeDiff, reduceCtorEq, Nat.reduceSub, Int.reduceEq, Int.reduceLT, Int.reduceLE, Int.reduceGT, Int.reduceGE, Int.reduceSub, Int.reduceAdd, Int.reduceMul, Int.reduceNe, Int.reduceNeg, Int.reduceToNat, Nat.reduceMul, hn, spINeg, spIDiv, sW, n1, n2, n3, nW, mG, f1, f2, f3, f5, q1, q2, q3, q4, d1, d2, d3, d4, w1, w2, w3, w4, iE]
      refine lp_step ?_
      simp only [↓R0, R1, rdL, rdH, isCall, istep, ibin, vcells, fillI, setR, flat, okCell, isBase, List.set, List.drop, List.take, List.append, bnds, bhi, blo, srcOf, ↓reduceIte, Nat.reduceEqDiff, Nat.reduceAdd, Nat.reduceLeDiff, reduceCtorEq, Nat.reduceSub, Int.reduceEq, Int.reduceLT, Int.reduceLE, Int.reduceGT, Int.reduceGE, Int.reduceSub, Int.reduceAdd, Int.reduceMul, Int.reduceNe, Int.reduceNeg, Int.reduceToNat, Nat.reduceMul, hn, spINeg, spIDiv, sW, n1, n2, n3, nW, mG, f1, f2, f3, f5, q1, q2, q3, q4, d1, d2, d3, d4, w1, w2, w3, w4, iE]
      refine lp_step ?_
      simp only [↓R0, R1, rdL, rdH, isCall, istep, ibin, vcells, fillI, setR, flat, okCell, isBase, List.set, List.drop, List.take, List.append, bnds, bhi, blo, srcOf, ↓reduceIte, Nat.reduceEqDiff, Nat.reduceAdd, Nat.reduceLeDiff, reduceCtorEq, Nat.reduceSub, Int.reduceEq, Int.reduceLT, Int.reduceLE, Int.reduceGT, Int.reduceGE, Int.reduceSub, Int.reduceAdd, Int.reduceMul, Int.reduceNe, Int.reduceNeg, Int.reduceToNat, Nat.reduceMul, hn, spINeg, spIDiv, sW, n1, n2, n3, nW, mG, f1, f2, f3, f5, q1, q2, q3, q4, d1, d2, d3, d4, w1, w2, w3, w4, iE]
      refine lp_step ?_
      simp only [↓R0, R1, rdL, rdH, isCall, istep, ibin, vcells, fillI, setR, flat, okCell, isBase, List.set, List.drop, List.take, List.append, bnds, bhi, blo, srcOf, ↓reduceIte, Nat.reduceEqDiff, Nat.reduceAdd, Nat.reduceLeDiff, reduceCtorEq, Nat.reduceSub, Int.reduceEq, Int.reduceLT, Int.reduceLE, Int.reduceGT, Int.reduceGE, Int.reduceSub, Int.reduceAdd, Int.reduceMul, Int.reduceNe, Int.reduceNeg, Int.reduceToNat, Nat.reduceMul, hn, Fin, isEnd, resL, res1, iE, rE]
      exact ⟨_, rfl, rfl, fun k hk => by simp only [ne_nb hk, if_false]⟩
end Go.Eng
end
section
set_option linter.unusedVariables false
set_option linter.unusedSimpArgs false
set_option linter.unusedSectionVars false
set_option maxRecDepth 8000
namespace Go.Eng
open Go Go.Proofs Go.IntWalk
theorem lmul {a b : Int} {i j k : Nat} (ha : (bl a.natAbs).length ≤ i) (hb : (bl b.natAbs).length ≤ j) (h : i + j ≤ k) : (bl (a * b).natAbs).length ≤ k := by
  rw [Int.natAbs_mul]
  exact Nat.le_trans (bl_length_mul _ _) (by omega)
theorem ladd {a b : Int} {i j k : Nat} (ha : (bl a.natAbs).length ≤ i) (hb : (bl b.natAbs).length ≤ j) (h : max i j + 1 ≤ k) : (bl (a + b).natAbs).length ≤ k := by
  refine Nat.le_trans (bl_length_mono (Int.natAbs_add_le a b)) ?_
  exact Nat.le_trans (bl_length_add (k := max i j) (by omega) (by omega)) h
theorem lsub {a b : Int} {i j k : Nat} (ha : (bl a.natAbs).length ≤ i) (hb : (bl b.natAbs).length ≤ j) (h : max i j + 1 ≤ k) : (bl (a - b).natAbs).length ≤ k := by
  rw [Int.sub_eq_add_neg]
  exact ladd ha (by rw [Int.natAbs_neg]; exact hb) h
theorem lle {a : Int} {i k : Nat} (ha : (bl a.natAbs).length ≤ i) (h : i ≤ k) : (bl a.natAbs).length ≤ k := Nat.le_trans ha h
def spXNormal : List Value → Option Value
  | [.agg ⟨[.bool s1, .string ⟨⟨l1⟩⟩, .bool s2, .string ⟨⟨l2⟩⟩, .bool s3, .string ⟨⟨l3⟩⟩, .bool s4, .string ⟨⟨l4⟩⟩]⟩] => some (.agg ⟨[.bool s1, .string ⟨⟨l1⟩⟩, .bool s2, .string ⟨⟨l2⟩⟩, .bool s3, .string ⟨⟨l3⟩⟩]⟩)
  | _ => none
def c33 : ICode :=
  (.seq (.reg [⟨(some 1), none, (.box 25 8 (.t 0))⟩, ⟨(some 2), none, (.alloc 60 6 [(.bool false), (.string ⟨⟨[]⟩⟩), (.bool false), (.string ⟨⟨[]⟩⟩), (.bool false), (.string ⟨⟨[]⟩⟩)])⟩])
  (.seq (.reg [⟨(some 3), none, (.faddr 0 (.t 1))⟩, ⟨(some 4), none, (.load true 2 (.t 3))⟩, ⟨(some 5), none, (.faddr 2 (.t 1))⟩, ⟨(some 6), none, (.load true 2 (.t 5))⟩, ⟨(some 7), none, (.faddr 4 (.t 1))⟩, ⟨(some 8), none, (.load true 2 (.t 7))⟩, ⟨(some 9), none, (.build [(.bool false), (.string ⟨⟨[]⟩⟩), (.bool false), (.string ⟨⟨[]⟩⟩), (.bool false), (.string ⟨⟨[]⟩⟩)] [(0, 2, (.t 4)), (2, 2, (.t 6)), (4, 2, (.t 8))])⟩, ⟨none, none, (.store 6 (.t 2) (.t 9))⟩])
  .ret))
theorem tr33 : trFun Tryz.prog 33 = some ⟨10, [.cell 2 true 6], c33⟩ := by kernel_rfl
theorem ok_xNormal : SpecOK Tryz.prog 33 (flat spXNormal) := by
  refine flat_run (env_nil _) mixed tr33 ?_
  intro args v h N hG
  unfold spXNormal at hG
  split at hG
  case h_2 => cases hG
  cases hG
  refine ⟨rfl, by simp, ?_⟩
  simp only [c33, initT, List.zipIdx_cons, List.zipIdx_nil, List.map_cons, List.map_nil, Nat.reduceAdd]
  simp only [↓R0, R1, rdL, rdH, isCall, istep, ibin, vcells, fillI, setR, flat, okCell, isBase, List.set, List.drop, List.take, List.append, bnds, bhi, blo, srcOf, ↓reduceIte, Nat.reduceEqDiff, Nat.reduceAdd, Nat.reduceLeDiff, reduceCtorEq, Nat.reduceSub, Int.reduceEq, Int.reduceLT, Int.reduceLE, Int.reduceGT, Int.reduceGE, Int.reduceSub, Int.reduceAdd, Int.reduceMul, Int.reduceNe, Int.reduceNeg, Int.reduceToNat, Nat.reduceMul, Fin, isEnd, resL, res1, iE, rE]
  exact ⟨_, rfl, rfl, fun k hk => by simp only [ne_nb hk, if_false]⟩
def tE (x y z : Int) : List Value := iE x ++ iE y ++ iE z
def spXCross : List Value → Option Value
  | [.agg ⟨[.bool s1, .string ⟨⟨l1⟩⟩, .bool s2, .string ⟨⟨l2⟩⟩, .bool s3, .string ⟨⟨l3⟩⟩]⟩, .agg ⟨[.bool t1, .string ⟨⟨m1⟩⟩, .bool t2, .string ⟨⟨m2⟩⟩, .bool t3, .string ⟨⟨m3⟩⟩]⟩] =>
    if l1.length ≤ 4294967296 ∧ l2.length ≤ 4294967296 ∧ l3.length ≤ 4294967296 ∧ m1.length ≤ 4294967296 ∧ m2.length ≤ 4294967296 ∧ m3.length ≤ 4294967296 then
      some (.agg ⟨tE (sv s2 l2 * sv t3 m3 - sv s3 l3 * sv t2 m2) (sv s3 l3 * sv t1 m1 - sv s1 l1 * sv t3 m3) (sv s1 l1 * sv t2 m2 - sv s2 l2 * sv t1 m1)⟩) else none
  | _ => none
def c32 : ICode :=
  (.seq (.reg [⟨(some 2), none, (.box 60 6 (.t 0))⟩, ⟨(some 3), none, (.box 60 6 (.t 1))⟩, ⟨(some 4), none, (.alloc 60 6 [(.bool false), (.string ⟨⟨[]⟩⟩), (.bool false), (.string ⟨⟨[]⟩⟩), (.bool false), (.string ⟨⟨[]⟩⟩)])⟩])
  (.seq (.reg [⟨(some 5), none, (.alloc 60 6 [(.bool false), (.string ⟨⟨[]⟩⟩), (.bool false), (.string ⟨⟨[]⟩⟩), (.bool false), (.string ⟨⟨[]⟩⟩)])⟩])
  (.seq (.seq (.reg [⟨(some 9), none, (.mv (.c (.int .i64 0)))⟩])
  (.block 0 (.loop (.seq (.reg [⟨(some 10), none, (.bin .lss (.t 9) (.c (.int .i64 3)))⟩])
  (.seq (.cond (.t 10)
  .skip
  (.exit 0))
  (.seq (.block 1 (.seq (.reg [⟨(some 11), none, (.mv (.t 9))⟩, ⟨(some 6), none, (.mv (.t 11))⟩])
  (.seq (.reg [⟨(some 12), none, (.mv (.t 6))⟩, ⟨(some 13), none, (.bin .add (.t 12) (.c (.int .i64 1)))⟩, ⟨(some 14), none, (.bin .rem (.t 13) (.c (.int .i64 3)))⟩, ⟨(some 15), none, (.mv (.t 6))⟩, ⟨(some 16), none, (.bin .add (.t 15) (.c (.int .i64 2)))⟩, ⟨(some 17), none, (.bin .rem (.t 16) (.c (.int .i64 3)))⟩, ⟨(some 7), none, (.mv (.t 14))⟩, ⟨(some 8), none, (.mv (.t 17))⟩])
  (.dreg [⟨(some 18), none, [], (.mv (.t 6))⟩, ⟨(some 19), none, [], (.mv (.t 7))⟩, ⟨(some 20), none, [], (.ixarr 3 2 (.t 2) (.t 19))⟩, ⟨(some 21), none, [], (.load true 2 (.t 20))⟩, ⟨(some 22), none, [], (.mv (.t 8))⟩, ⟨(some 23), none, [], (.ixarr 3 2 (.t 3) (.t 22))⟩, ⟨(some 24), none, [], (.load true 2 (.t 23))⟩, ⟨(some 25), none, [], (.call 35 [(.t 21), (.t 24)])⟩, ⟨(some 26), none, [], (.mv (.t 8))⟩, ⟨(some 27), none, [], (.ixarr 3 2 (.t 2) (.t 26))⟩, ⟨(some 28), none, [7], (.load true 2 (.t 27))⟩, ⟨(some 29), none, [], (.mv (.t 7))⟩, ⟨(some 30), none, [], (.ixarr 3 2 (.t 3) (.t 29))⟩, ⟨(some 31), none, [7], (.load true 2 (.t 30))⟩, ⟨(some 32), none, [], (.call 35 [(.t 28), (.t 31)])⟩, ⟨(some 33), none, [], (.call 54 [(.t 25), (.t 32)])⟩, ⟨(some 34), none, [], (.ixarr 3 2 (.t 5) (.t 18))⟩, ⟨none, none, [], (.store 2 (.t 34) (.t 33))⟩]))))
  (.reg [⟨(some 35), none, (.bin .add (.t 9) (.c (.int .i64 1)))⟩, ⟨(some 9), none, (.mv (.t 35))⟩])))))))
  (.seq (.reg [⟨(some 36), none, (.load true 6 (.t 5))⟩, ⟨none, none, (.store 6 (.t 4) (.t 36))⟩])
  .ret))))
theorem tr32 : trFun Tryz.prog 32 = some ⟨37, [.cell 4 true 6], c32⟩ := by kernel_rfl
set_option maxHeartbeats 2000000 in
theorem ok_xCross : SpecOK Tryz.prog 32 (flat spXCross) := by
  refine flat_run (env_cons ok_iMul (env_cons ok_iSub (env_nil _))) mixed tr32 ?_
  intro args v h N hG
  unfold spXCross at hG
  split at hG
  case h_2 => cases hG
  rename_i s1 l1 s2 l2 s3 l3 t1 m1 t2 m2 t3 m3
  split at hG
  case isFalse => cases hG
  rename_i hl
  obtain ⟨h1, h2, h3, h4, h5, h6⟩ := hl
  cases hG
  refine ⟨rfl, by simp, ?_⟩
  have a1 : l1.length ≤ 34359738368 := by omega
  have a2 : l2.length ≤ 34359738368 := by omega
  have a3 : l3.length ≤ 34359738368 := by omega
  have b1 : m1.length ≤ 34359738368 := by omega
  have b2 : m2.length ≤ 34359738368 := by omega
  have b3 : m3.length ≤ 34359738368 := by omega
  have n1 := len_sv (s := s1) h1
  have n2 := len_sv (s := s2) h2
  have n3 := len_sv (s := s3) h3
  have n4 := len_sv (s := t1) h4
  have n5 := len_sv (s := t2) h5
  have n6 := len_sv (s := t3) h6
  have p1 := lmul (k := 68719476736) n2 n6 (by omega)
  have p2 := lmul (k := 68719476736) n3 n5 (by omega)
  have p3 := lmul (k := 68719476736) n3 n4 (by omega)
  have p4 := lmul (k := 68719476736) n1 n6 (by omega)
  have p5 := lmul (k := 68719476736) n1 n5 (by omega)
  have p6 := lmul (k := 68719476736) n2 n4 (by omega)
  have w1 : IntKind.i64.wrap 1 = 1 := i64_in _ (by omega)
  have w2 : IntKind.i64.wrap 2 = 2 := i64_in _ (by omega)
  have w3 : IntKind.i64.wrap 3 = 3 := i64_in _ (by omega)
  have w4 : IntKind.i64.wrap 4 = 4 := i64_in _ (by omega)
  have r1 : Int.tmod 1 3 = 1 := rfl
  have r2 : Int.tmod 2 3 = 2 := rfl
  have r3 : Int.tmod 3 3 = 0 := rfl
  have r4 : Int.tmod 4 3 = 1 := rfl
  simp only [c32, initT, List.zipIdx_cons, List.zipIdx_nil, List.map_cons, List.map_nil, Nat.reduceAdd]
  simp only [↓R0, R1, rdL, rdH, isCall, istep, ibin, vcells, fillI, setR, flat, okCell, isBase, List.set, List.drop, List.take, List.append, bnds, bhi, blo, srcOf, ↓reduceIte, Nat.reduceEqDiff, Nat.reduceAdd, Nat.reduceLeDiff, reduceCtorEq, Nat.reduceSub, Int.reduceEq, Int.reduceLT, Int.reduceLE, Int.reduceGT, Int.reduceGE, Int.reduceSub, Int.reduceAdd, Int.reduceMul, Int.reduceNe, Int.reduceNeg, Int.reduceToNat, Nat.reduceMul]
  refine lp_step ?_
  simp only [↓R0, R1, rdL, rdH, isCall, istep, ibin, vcells, fillI, setR, flat, okCell, isBase, List.set, List.drop, List.take, List.append, bnds, bhi, blo, srcOf, ↓reduceIte, Nat.reduceEqDiff, Nat.reduceAdd, Nat.reduceLeDiff, reduceCtorEq, Nat.reduceSub, Int.reduceEq, Int.reduceLT, Int.reduceLE, Int.reduceGT, Int.reduceGE, Int.reduceSub, Int.reduceAdd, Int.reduceMul, Int.reduceNe, Int.reduceNeg, Int.reduceToNat, Nat.reduceMul, a1, a2, a3, b1, b2, b3, p1, p2, p3, p4, p5, p6, w1, w2, w3, w4, r1, r2, r3, r4, spIMul, spISub, iE]
  refine lp_step ?_
  simp only [↓R0, R1, rdL, rdH, isCall, istep, ibin, vcells, fillI, setR, flat, okCell, isBase, List.set, List.drop, List.take, List.append, bnds, bhi, blo, srcOf, ↓reduceIte, Nat.reduceEqDiff, Nat.reduceAdd, Nat.reduceLeDiff, reduceCtorEq, Nat.reduceSub, Int.reduceEq, Int.reduceLT, Int.reduceLE, Int.reduceGT, Int.reduceGE, Int.reduceSub, Int.reduceAdd, Int.reduceMul, Int.reduceNe, Int.reduceNeg, Int.reduceToNat, Nat.reduceMul, a1, a2, a3, b1, b2, b3, p1, p2, p3, p4, p5, p6, w1, w2, w3, w4, r1, r2, r3, r4, spIMul, spISub, iE]
  refine lp_step ?_
  simp only [↓R0, R1, rdL, rdH, isCall, istep, ibin, vcells, fillI, setR, flat, okCell, isBase, List.set, List.drop, List.take, List.append, bnds, bhi, blo, srcOf, ↓reduceIte, Nat.reduceEqDiff, Nat.reduceAdd, Nat.reduceLeDiff, reduceCtorEq, Nat.reduceSub, Int.reduceEq, Int.reduceLT, Int.reduceLE, Int.reduceGT, Int.reduceGE, Int.reduceSub, Int.reduceAdd, Int.reduceMul, Int.reduceNe, Int.reduceNeg, Int.reduceToNat, Nat.reduceMul, a1, a2, a3, b1, b2, b3, p1, p2, p3, p4, p5, p6, w1, w2, w3, w4, r1, r2, r3, r4, spIMul, spISub, iE]
  refine lp_step ?_
  simp only [↓R0, R1, rdL, rdH, isCall, istep, ibin, vcells, fillI, setR, flat, okCell, isBase, List.set, List.drop, List.take, List.append, bnds, bhi, blo, srcOf, ↓reduceIte, Nat.reduceEqDiff, Nat.reduceAdd, Nat.reduceLeDiff, reduceCtorEq, Nat.reduceSub, Int.reduceEq, Int.reduceLT, Int.reduceLE, Int.reduceGT, Int.reduceGE, Int.reduceSub, Int.reduceAdd, Int.reduceMul, Int.reduceNe, Int.reduceNeg, Int.reduceToNat, Nat.reduceMul, tE, Fin, isEnd, resL, res1, iE, rE]
  exact ⟨_, rfl, rfl, fun k hk => by simp only [ne_nb hk, if_false]⟩
def spXDot : List Value → Option Value
  | [.agg ⟨[.bool s1, .string ⟨⟨l1⟩⟩, .bool s2, .string ⟨⟨l2⟩⟩, .bool s3, .string ⟨⟨l3⟩⟩]⟩, .agg ⟨[.bool t1, .string ⟨⟨m1⟩⟩, .bool t2, .string ⟨⟨m2⟩⟩, .bool t3, .string ⟨⟨m3⟩⟩]⟩] =>
    if l1.length ≤ 17179869184 ∧ l2.length ≤ 17179869184 ∧ l3.length ≤ 17179869184 ∧ m1.length ≤ 17179869184 ∧ m2.length ≤ 17179869184 ∧ m3.length ≤ 17179869184 then
      some (.agg ⟨iE (sv s1 l1 * sv t1 m1 + sv s2 l2 * sv t2 m2 + sv s3 l3 * sv t3 m3)⟩) else none
  | _ => none
def c37 : ICode :=
  (.seq (.reg [⟨(some 2), none, (.box 60 6 (.t 0))⟩, ⟨(some 3), none, (.box 60 6 (.t 1))⟩, ⟨(some 4), none, (.alloc 23 2 [(.bool false), (.string ⟨⟨[]⟩⟩)])⟩])
  (.seq (.reg [⟨(some 5), none, (.alloc 23 2 [(.bool false), (.string ⟨⟨[]⟩⟩)])⟩])
  (.seq (.seq (.reg [⟨(some 7), none, (.mv (.c (.int .i64 0)))⟩])
  (.block 0 (.loop (.seq (.reg [⟨(some 8), none, (.bin .lss (.t 7) (.c (.int .i64 3)))⟩])
  (.seq (.cond (.t 8)
  .skip
  (.exit 0))
  (.seq (.block 1 (.seq (.reg [⟨(some 9), none, (.mv (.t 7))⟩, ⟨(some 6), none, (.mv (.t 9))⟩])
  (.dreg [⟨(some 10), none, [], (.load true 2 (.t 5))⟩, ⟨(some 11), none, [], (.mv (.t 6))⟩, ⟨(some 12), none, [], (.ixarr 3 2 (.t 2) (.t 11))⟩, ⟨(some 13), none, [], (.load true 2 (.t 12))⟩, ⟨(some 14), none, [], (.mv (.t 6))⟩, ⟨(some 15), none, [], (.ixarr 3 2 (.t 3) (.t 14))⟩, ⟨(some 16), none, [], (.load true 2 (.t 15))⟩, ⟨(some 17), none, [], (.call 35 [(.t 13), (.t 16)])⟩, ⟨(some 18), none, [], (.call 34 [(.t 10), (.t 17)])⟩, ⟨none, none, [], (.store 2 (.t 5) (.t 18))⟩])))
  (.reg [⟨(some 19), none, (.bin .add (.t 7) (.c (.int .i64 1)))⟩, ⟨(some 7), none, (.mv (.t 19))⟩])))))))
  (.seq (.reg [⟨(some 20), none, (.load true 2 (.t 5))⟩, ⟨none, none, (.store 2 (.t 4) (.t 20))⟩])
  .ret))))
theorem tr37 : trFun Tryz.prog 37 = some ⟨21, [.cell 4 true 2], c37⟩ := by kernel_rfl
set_option maxHeartbeats 2000000 in
theorem ok_xDot : SpecOK Tryz.prog 37 (flat spXDot) := by
  refine flat_run (env_cons ok_iMul (env_cons ok_iAdd (env_nil _))) mixed tr37 ?_
  intro args v h N hG
  unfold spXDot at hG
  split at hG
  case h_2 => cases hG
  rename_i s1 l1 s2 l2 s3 l3 t1 m1 t2 m2 t3 m3
  split at hG
  case isFalse => cases hG
  rename_i hl
  obtain ⟨h1, h2, h3, h4, h5, h6⟩ := hl
  cases hG
  refine ⟨rfl, by simp, ?_⟩
  have a1 : l1.length ≤ 34359738368 := by omega
  have a2 : l2.length ≤ 34359738368 := by omega
  have a3 : l3.length ≤ 34359738368 := by omega
  have b1 : m1.length ≤ 34359738368 := by omega
  have b2 : m2.length ≤ 34359738368 := by omega
  have b3 : m3.length ≤ 34359738368 := by omega
  have n1 := len_sv (s := s1) h1
  have n2 := len_sv (s := s2) h2
  have n3 := len_sv (s := s3) h3
  have n4 := len_sv (s := t1) h4
  have n5 := len_sv (s := t2) h5
  have n6 := len_sv (s := t3) h6
  have p1 := lmul (k := 34359738368) n1 n4 (by omega)
  have p2 := lmul (k := 34359738368) n2 n5 (by omega)
  have p3 := lmul (k := 34359738368) n3 n6 (by omega)
  have q1 := lle (k := 68719476736) p1 (by omega)
  have q2 := lle (k := 68719476736) p2 (by omega)
  have q3 := lle (k := 68719476736) p3 (by omega)
  have q4 := ladd (k := 68719476736) p1 p2 (by omega)
  have z0 : sv false [] = 0 := rfl
  have w1 : IntKind.i64.wrap 1 = 1 := i64_in _ (by omega)
  have w2 : IntKind.i64.wrap 2 = 2 := i64_in _ (by omega)
  have w3 : IntKind.i64.wrap 3 = 3 := i64_in _ (by omega)
  simp only [c37, initT, List.zipIdx_cons, List.zipIdx_nil, List.map_cons, List.map_nil, Nat.reduceAdd]
  simp only [↓R0, R1, rdL, rdH, isCall, istep, ibin, vcells, fillI, setR, flat, okCell, isBase, List.set, List.drop, List.take, List.append, bnds, bhi, blo, srcOf, ↓reduceIte, Nat.reduceEqDiff, Nat.reduceAdd, Nat.reduceLeDiff, reduceCtorEq, Nat.reduceSub, Int.reduceEq, Int.reduceLT, Int.reduceLE, Int.reduceGT, Int.reduceGE, Int.reduceSub, Int.reduceAdd, Int.reduceMul, Int.reduceNe, Int.reduceNeg, Int.reduceToNat, Nat.reduceMul]
  refine lp_step ?_
  simp only [↓R0, R1, rdL, rdH, isCall, istep, ibin, vcells, fillI, setR, flat, okCell, isBase, List.set, List.drop, List.take, List.append, bnds, bhi, blo, srcOf, ↓reduceIte, Nat.reduceEqDiff, Nat.reduceAdd, Nat.reduceLeDiff, reduceCtorEq, Nat.reduceSub, Int.reduceEq, Int.reduceLT, Int.reduceLE, Int.reduceGT, Int.reduceGE, Int.reduceSub, Int.reduceAdd, Int.reduceMul, Int.reduceNe, Int.reduceNeg, Int.reduceToNat, Nat.reduceMul, a1, a2, a3, b1, b2, b3, q1, q2, q3, q4, w1, w2, w3, z0, Int.zero_add, Nat.zero_le, spIMul, spIAdd, iE]
  refine lp_step ?_
  simp only [↓R0, R1, rdL, rdH, isCall, istep, ibin, vcells, fillI, setR, flat, okCell, isBase, List.set, List.drop, List.take, List.append, bnds, bhi, blo, srcOf, ↓reduceIte, Nat.reduceEqDiff, Nat.reduceAdd, Nat.reduceLeDiff, reduceCtorEq, Nat.reduceSub, Int.reduceEq, Int.reduceLT, Int.reduceLE, Int.reduceGT, Int.reduceGE, Int.reduceSub, Int.reduceAdd, Int.reduceMul, Int.reduceNe, Int.reduceNeg, Int.reduceToNat, Nat.reduceMul, a1, a2, a3, b1, b2, b3, q1, q2, q3, q4, w1, w2, w3, z0, Int.zero_add, Nat.zero_le, spIMul, spIAdd, iE]
  refine lp_step ?_
  simp only [↓R0, R1, rdL, rdH, isCall, istep, ibin, vcells, fillI, setR, flat, okCell, isBase, List.set, List.drop, List.take, List.append, bnds, bhi, blo, srcOf, ↓reduceIte, Nat.reduceEqDiff, Nat.reduceAdd, Nat.reduceLeDiff, reduceCtorEq, Nat.reduceSub, Int.reduceEq, Int.reduceLT, Int.reduceLE, Int.reduceGT, Int.reduceGE, Int.reduceSub, Int.reduceAdd, Int.reduceMul, Int.reduceNe, Int.reduceNeg, Int.reduceToNat, Nat.reduceMul, a1, a2, a3, b1, b2, b3, q1, q2, q3, q4, w1, w2, w3, z0, Int.zero_add, Nat.zero_le, spIMul, spIAdd, iE]
  refine lp_step ?_
  simp only [↓R0, R1, rdL, rdH, isCall, istep, ibin, vcells, fillI, setR, flat, okCell, isBase, List.set, List.drop, List.take, List.append, bnds, bhi, blo, srcOf, ↓reduceIte, Nat.reduceEqDiff, Nat.reduceAdd, Nat.reduceLeDiff, reduceCtorEq, Nat.reduceSub, Int.reduceEq, Int.reduceLT, Int.reduceLE, Int.reduceGT, Int.reduceGE, Int.reduceSub, Int.reduceAdd, Int.reduceMul, Int.reduceNe, Int.reduceNeg, Int.reduceToNat, Nat.reduceMul, Fin, isEnd, resL, res1, iE, rE]
  exact ⟨_, rfl, rfl, fun k hk => by simp only [ne_nb hk, if_false]⟩
def pZ : List Value := [.bool false, .string ⟨⟨[]⟩⟩, .bool false, .string ⟨⟨[]⟩⟩, .bool false, .string ⟨⟨[]⟩⟩, .bool false, .string ⟨⟨[]⟩⟩]
def spXMade : List Value → Option Value
  | [.agg ⟨[.bool s1, .string ⟨⟨l1⟩⟩, .bool s2, .string ⟨⟨l2⟩⟩, .bool s3, .string ⟨⟨l3⟩⟩]⟩, .agg ⟨[.bool s4, .string ⟨⟨l4⟩⟩]⟩] =>
    if l1.length ≤ 34359738368 ∧ l2.length ≤ 34359738368 ∧ l3.length ≤ 34359738368 ∧ l4.length ≤ 34359738368 then
      (if sv s4 l4 = 0 then some (.tuple ⟨[.agg ⟨pZ⟩, .bool false]⟩) else some (.tuple ⟨[.agg ⟨pE (sv s1 l1) (sv s2 l2) (sv s3 l3) (sv s4 l4)⟩, .bool true]⟩)) else none
  | _ => none
def c36 : ICode :=
  (.seq (.reg [⟨(some 2), none, (.box 60 6 (.t 0))⟩, ⟨(some 3), none, (.box 23 2 (.t 1))⟩, ⟨(some 4), none, (.alloc 30 8 [(.bool false), (.string ⟨⟨[]⟩⟩), (.bool false), (.string ⟨⟨[]⟩⟩), (.bool false), (.string ⟨⟨[]⟩⟩), (.bool false), (.string ⟨⟨[]⟩⟩)])⟩, ⟨(some 5), none, (.mv (.c (.bool false)))⟩])
  (.seq (.seq (.reg [⟨(some 6), none, (.load true 2 (.t 3))⟩, ⟨(some 7), none, (.call 65 [(.t 6)])⟩, ⟨(some 8), none, (.bin .eql (.t 7) (.c (.int .i64 0)))⟩])
  (.cond (.t 8)
  (.seq (.reg [⟨(some 9), none, (.build [(.bool false), (.string ⟨⟨[]⟩⟩), (.bool false), (.string ⟨⟨[]⟩⟩), (.bool false), (.string ⟨⟨[]⟩⟩), (.bool false), (.string ⟨⟨[]⟩⟩)] [])⟩, ⟨none, none, (.store 8 (.t 4) (.t 9))⟩, ⟨(some 5), none, (.mv (.c (.bool false)))⟩])
  .ret)
  .skip))
  (.seq (.reg [⟨(some 10), none, (.ixarr 3 2 (.t 2) (.c (.int .i64 0)))⟩, ⟨(some 11), none, (.load true 2 (.t 10))⟩, ⟨(some 12), none, (.ixarr 3 2 (.t 2) (.c (.int .i64 1)))⟩, ⟨(some 13), none, (.load true 2 (.t 12))⟩, ⟨(some 14), none, (.ixarr 3 2 (.t 2) (.c (.int .i64 2)))⟩, ⟨(some 15), none, (.load true 2 (.t 14))⟩, ⟨(some 16), none, (.load true 2 (.t 3))⟩, ⟨(some 17), none, (.build [(.bool false), (.string ⟨⟨[]⟩⟩), (.bool false), (.string ⟨⟨[]⟩⟩), (.bool false), (.string ⟨⟨[]⟩⟩), (.bool false), (.string ⟨⟨[]⟩⟩)] [(0, 2, (.t 11)), (2, 2, (.t 13)), (4, 2, (.t 15)), (6, 2, (.t 16))])⟩, ⟨(some 18), none, (.call 75 [(.t 17)])⟩, ⟨none, none, (.store 8 (.t 4) (.t 18))⟩, ⟨(some 5), none, (.mv (.c (.bool true)))⟩])
  .ret)))
theorem tr36 : trFun Tryz.prog 36 = some ⟨19, [.cell 4 true 8, .t 5], c36⟩ := by kernel_rfl
theorem ok_xMade : SpecOK Tryz.prog 36 (flat spXMade) := by
  refine flat_run (env_cons ok_iSign (env_cons ok_pNorm (env_nil _))) mixed tr36 ?_
  intro args v h N hG
  unfold spXMade at hG
  split at hG
  case h_2 => cases hG
  rename_i s1 l1 s2 l2 s3 l3 s4 l4
  split at hG
  case isFalse => cases hG
  rename_i hl
  obtain ⟨h1, h2, h3, h4⟩ := hl
  have k4 : l4.length ≤ 1099511627776 := by omega
  have e1 : ((sv s4 l4).sign = 0) = (sv s4 l4 = 0) := propext Int.sign_eq_zero_iff_zero
  split at hG
  · rename_i h0
    cases hG
    refine ⟨rfl, by simp, ?_⟩
    simp only [c36, initT, List.zipIdx_cons, List.zipIdx_nil, List.map_cons, List.map_nil, Nat.reduceAdd]
    simp only [↓R0, R1, rdL, rdH, isCall, istep, ibin, vcells, fillI, setR, flat, okCell, isBase, List.set, List.drop, List.take, List.append, bnds, bhi, blo, srcOf, ↓reduceIte, Nat.reduceEqDiff, Nat.reduceAdd, Nat.reduceLeDiff, reduceCtorEq, Nat.reduceSub, Int.reduceEq, Int.reduceLT, Int.reduceLE, Int.reduceGT, Int.reduceGE, Int.reduceSub, Int.reduceAdd, Int.reduceMul, Int.reduceNe, Int.reduceNeg, Int.reduceToNat, Nat.reduceMul, spISign, k4, e1, h0, Int.sign_zero, pZ, Fin, isEnd, resL, res1, iE, rE]
    exact ⟨_, rfl, rfl, fun k hk => by simp only [ne_nb hk, if_false]⟩
  · rename_i h0
    cases hG
    refine ⟨rfl, by simp, ?_⟩
    simp only [c36, initT, List.zipIdx_cons, List.zipIdx_nil, List.map_cons, List.map_nil, Nat.reduceAdd]
    simp only [↓R0, R1, rdL, rdH, isCall, istep, ibin, vcells, fillI, setR, flat, okCell, isBase, List.set, List.drop, List.take, List.append, bnds, bhi, blo, srcOf, ↓reduceIte, Nat.reduceEqDiff, Nat.reduceAdd, Nat.reduceLeDiff, reduceCtorEq, Nat.reduceSub, Int.reduceEq, Int.reduceLT, Int.reduceLE, Int.reduceGT, Int.reduceGE, Int.reduceSub, Int.reduceAdd, Int.reduceMul, Int.reduceNe, Int.reduceNeg, Int.reduceToNat, Nat.reduceMul, spISign, k4, e1, h0, spPNorm, h1, h2, h3, h4, pE, Fin, isEnd, resL, res1, iE, rE]
    exact ⟨_, rfl, rfl, fun k hk => by simp only [ne_nb hk, if_false]⟩
end Go.Eng
end
section
set_option linter.unusedVariables false
set_option linter.unusedSimpArgs false
set_option linter.unusedSectionVars false
set_option maxRecDepth 20000
namespace Go.Eng
open Go Go.Proofs Go.IntWalk
def spR6Three : List Value → Option Value
  | [.agg ⟨[.bool sa1, .string ⟨⟨la1⟩⟩, .bool sa2, .string ⟨⟨la2⟩⟩, .bool sa3, .string ⟨⟨la3⟩⟩, .bool sa4, .string ⟨⟨la4⟩⟩]⟩, .agg ⟨[.bool sb1, .string ⟨⟨lb1⟩⟩, .bool sb2, .string ⟨⟨lb2⟩⟩, .bool sb3, .string ⟨⟨lb3⟩⟩, .bool sb4, .string ⟨⟨lb4⟩⟩]⟩, .agg ⟨[.bool sc1, .string ⟨⟨lc1⟩⟩, .bool sc2, .string ⟨⟨lc2⟩⟩, .bool sc3, .string ⟨⟨lc3⟩⟩, .bool sc4, .string ⟨⟨lc4⟩⟩]⟩] =>
    if la1.length ≤ 16777216 ∧ la2.length ≤ 16777216 ∧ la3.length ≤ 16777216 ∧ la4.length ≤ 16777216 ∧ lb1.length ≤ 16777216 ∧ lb2.length ≤ 16777216 ∧ lb3.length ≤ 16777216 ∧ lb4.length ≤ 16777216 ∧ lc1.length ≤ 16777216 ∧ lc2.length ≤ 16777216 ∧ lc3.length ≤ 16777216 ∧ lc4.length ≤ 16777216 then
      (if sv sa1 la1 * (sv sb2 lb2 * sv sc3 lc3 - sv sb3 lb3 * sv sc2 lc2) + sv sa2 la2 * (sv sb3 lb3 * sv sc1 lc1 - sv sb1 lb1 * sv sc3 lc3) + sv sa3 la3 * (sv sb1 lb1 * sv sc2 lc2 - sv sb2 lb2 * sv sc1 lc1) = 0 then some (.tuple ⟨[.agg ⟨pZ⟩, .bool false]⟩) else some (.tuple ⟨[.agg ⟨pE ((sv sb2 lb2 * sv sc3 lc3 - sv sb3 lb3 * sv sc2 lc2) * sv sa4 la4 + (sv sc2 lc2 * sv sa3 la3 - sv sc3 lc3 * sv sa2 la2) * sv sb4 lb4 + (sv sa2 la2 * sv sb3 lb3 - sv sa3 la3 * sv sb2 lb2) * sv sc4 lc4) ((sv sb3 lb3 * sv sc1 lc1 - sv sb1 lb1 * sv sc3 lc3) * sv sa4 la4 + (sv sc3 lc3 * sv sa1 la1 - sv sc1 lc1 * sv sa3 la3) * sv sb4 lb4 + (sv sa3 la3 * sv sb1 lb1 - sv sa1 la1 * sv sb3 lb3) * sv sc4 lc4) ((sv sb1 lb1 * sv sc2 lc2 - sv sb2 lb2 * sv sc1 lc1) * sv sa4 la4 + (sv sc1 lc1 * sv sa2 la2 - sv sc2 lc2 * sv sa1 la1) * sv sb4 lb4 + (sv sa1 la1 * sv sb2 lb2 - sv sa2 la2 * sv sb1 lb1) * sv sc4 lc4) (sv sa1 la1 * (sv sb2 lb2 * sv sc3 lc3 - sv sb3 lb3 * sv sc2 lc2) + sv sa2 la2 * (sv sb3 lb3 * sv sc1 lc1 - sv sb1 lb1 * sv sc3 lc3) + sv sa3 la3 * (sv sb1 lb1 * sv sc2 lc2 - sv sb2 lb2 * sv sc1 lc1))⟩, .bool true]⟩)) else none
  | _ => none
def c12 : ICode :=
  (.seq (.reg [⟨(some 3), none, (.box 25 8 (.t 0))⟩, ⟨(some 4), none, (.box 25 8 (.t 1))⟩, ⟨(some 5), none, (.box 25 8 (.t 2))⟩, ⟨(some 6), none, (.alloc 30 8 [(.bool false), (.string ⟨⟨[]⟩⟩), (.bool false), (.string ⟨⟨[]⟩⟩), (.bool false), (.string ⟨⟨[]⟩⟩), (.bool false), (.string ⟨⟨[]⟩⟩)])⟩, ⟨(some 7), none, (.mv (.c (.bool false)))⟩])
  (.seq (.reg [⟨(some 19), none, (.load true 8 (.t 3))⟩, ⟨(some 20), none, (.call 38 [(.t 19)])⟩, ⟨(some 18), none, (.mv (.t 20))⟩, ⟨(some 21), none, (.ext (.t 18) 0)⟩, ⟨(some 22), none, (.ext (.t 18) 1)⟩, ⟨(some 8), none, (.alloc 67 9 [(.bool false), (.string ⟨⟨[]⟩⟩), (.string ⟨⟨[]⟩⟩), (.bool false), (.string ⟨⟨[]⟩⟩), (.string ⟨⟨[]⟩⟩), (.bool false), (.string ⟨⟨[]⟩⟩), (.string ⟨⟨[]⟩⟩)])⟩, ⟨(some 9), none, (.alloc 47 3 [(.bool false), (.string ⟨⟨[]⟩⟩), (.string ⟨⟨[]⟩⟩)])⟩, ⟨none, none, (.store 9 (.t 8) (.t 21))⟩, ⟨none, none, (.store 3 (.t 9) (.t 22))⟩])
  (.seq (.reg [⟨(some 24), none, (.load true 8 (.t 4))⟩, ⟨(some 25), none, (.call 38 [(.t 24)])⟩, ⟨(some 23), none, (.mv (.t 25))⟩, ⟨(some 26), none, (.ext (.t 23) 0)⟩, ⟨(some 27), none, (.ext (.t 23) 1)⟩, ⟨(some 10), none, (.alloc 67 9 [(.bool false), (.string ⟨⟨[]⟩⟩), (.string ⟨⟨[]⟩⟩), (.bool false), (.string ⟨⟨[]⟩⟩), (.string ⟨⟨[]⟩⟩), (.bool false), (.string ⟨⟨[]⟩⟩), (.string ⟨⟨[]⟩⟩)])⟩, ⟨(some 11), none, (.alloc 47 3 [(.bool false), (.string ⟨⟨[]⟩⟩), (.string ⟨⟨[]⟩⟩)])⟩, ⟨none, none, (.store 9 (.t 10) (.t 26))⟩, ⟨none, none, (.store 3 (.t 11) (.t 27))⟩])
  (.seq (.reg [⟨(some 29), none, (.load true 8 (.t 5))⟩, ⟨(some 30), none, (.call 38 [(.t 29)])⟩, ⟨(some 28), none, (.mv (.t 30))⟩, ⟨(some 31), none, (.ext (.t 28) 0)⟩, ⟨(some 32), none, (.ext (.t 28) 1)⟩, ⟨(some 12), none, (.alloc 67 9 [(.bool false), (.string ⟨⟨[]⟩⟩), (.string ⟨⟨[]⟩⟩), (.bool false), (.string ⟨⟨[]⟩⟩), (.string ⟨⟨[]⟩⟩), (.bool false), (.string ⟨⟨[]⟩⟩), (.string ⟨⟨[]⟩⟩)])⟩, ⟨(some 13), none, (.alloc 47 3 [(.bool false), (.string ⟨⟨[]⟩⟩), (.string ⟨⟨[]⟩⟩)])⟩, ⟨none, none, (.store 9 (.t 12) (.t 31))⟩, ⟨none, none, (.store 3 (.t 13) (.t 32))⟩])
  (.seq (.dreg [⟨(some 33), none, [], (.load true 9 (.t 8))⟩, ⟨(some 34), none, [], (.load true 9 (.t 10))⟩, ⟨(some 35), none, [], (.load true 9 (.t 12))⟩, ⟨(some 36), none, [], (.call 40 [(.t 34), (.t 35)])⟩, ⟨(some 37), none, [], (.call 39 [(.t 33), (.t 36)])⟩, ⟨(some 14), none, [], (.alloc 47 3 [(.bool false), (.string ⟨⟨[]⟩⟩), (.string ⟨⟨[]⟩⟩)])⟩, ⟨none, none, [], (.store 3 (.t 14) (.t 37))⟩])
  (.seq (.seq (.reg [⟨(some 38), none, (.load true 3 (.t 14))⟩, ⟨(some 39), none, (.call 41 [(.t 38)])⟩, ⟨(some 40), none, (.bin .eql (.t 39) (.c (.int .i64 0)))⟩])
  (.cond (.t 40)
  (.seq (.reg [⟨(some 41), none, (.build [(.bool false), (.string ⟨⟨[]⟩⟩), (.bool false), (.string ⟨⟨[]⟩⟩), (.bool false), (.string ⟨⟨[]⟩⟩), (.bool false), (.string ⟨⟨[]⟩⟩)] [])⟩, ⟨none, none, (.store 8 (.t 6) (.t 41))⟩, ⟨(some 7), none, (.mv (.c (.bool false)))⟩])
  .ret)
  .skip))
  (.seq (.dreg [⟨(some 42), none, [], (.load true 9 (.t 10))⟩, ⟨(some 43), none, [], (.load true 9 (.t 12))⟩, ⟨(some 44), none, [], (.call 40 [(.t 42), (.t 43)])⟩, ⟨(some 45), none, [2], (.load true 3 (.t 9))⟩, ⟨(some 46), none, [], (.call 43 [(.t 44), (.t 45)])⟩, ⟨(some 47), none, [2, 4], (.load true 9 (.t 12))⟩, ⟨(some 48), none, [2, 4], (.load true 9 (.t 8))⟩, ⟨(some 49), none, [], (.call 40 [(.t 47), (.t 48)])⟩, ⟨(some 50), none, [2, 4, 7], (.load true 3 (.t 11))⟩, ⟨(some 51), none, [], (.call 43 [(.t 49), (.t 50)])⟩, ⟨(some 52), none, [], (.call 42 [(.t 46), (.t 51)])⟩, ⟨(some 53), none, [2, 4, 7, 9, 10], (.load true 9 (.t 8))⟩, ⟨(some 54), none, [2, 4, 7, 9, 10], (.load true 9 (.t 10))⟩, ⟨(some 55), none, [], (.call 40 [(.t 53), (.t 54)])⟩, ⟨(some 56), none, [2, 4, 7, 9, 10, 13], (.load true 3 (.t 13))⟩, ⟨(some 57), none, [], (.call 43 [(.t 55), (.t 56)])⟩, ⟨(some 58), none, [], (.call 42 [(.t 52), (.t 57)])⟩, ⟨(some 15), none, [], (.alloc 67 9 [(.bool false), (.string ⟨⟨[]⟩⟩), (.string ⟨⟨[]⟩⟩), (.bool false), (.string ⟨⟨[]⟩⟩), (.string ⟨⟨[]⟩⟩), (.bool false), (.string ⟨⟨[]⟩⟩), (.string ⟨⟨[]⟩⟩)])⟩, ⟨none, none, [], (.store 9 (.t 15) (.t 58))⟩])
  (.seq (.reg [⟨(some 59), none, (.build [(.bool false), (.string ⟨⟨[]⟩⟩), (.string ⟨⟨[]⟩⟩), (.bool false), (.string ⟨⟨[]⟩⟩), (.string ⟨⟨[]⟩⟩), (.bool false), (.string ⟨⟨[]⟩⟩), (.string ⟨⟨[]⟩⟩)] [])⟩, ⟨(some 16), none, (.alloc 67 9 [(.bool false), (.string ⟨⟨[]⟩⟩), (.string ⟨⟨[]⟩⟩), (.bool false), (.string ⟨⟨[]⟩⟩), (.string ⟨⟨[]⟩⟩), (.bool false), (.string ⟨⟨[]⟩⟩), (.string ⟨⟨[]⟩⟩)])⟩, ⟨none, none, (.store 9 (.t 16) (.t 59))⟩])
  (.seq (.seq (.reg [⟨(some 17), none, (.mv (.c (.int .i64 0)))⟩])
  (.block 0 (.loop (.seq (.seq (.reg [⟨(some 60), none, (.mv (.t 17))⟩, ⟨(some 61), none, (.bin .lss (.t 60) (.c (.int .i64 3)))⟩])
  (.cond (.t 61)
  .skip
  (.exit 0)))
  (.seq (.block 1 (.dreg [⟨(some 65), none, [], (.mv (.t 17))⟩, ⟨(some 66), none, [], (.mv (.t 17))⟩, ⟨(some 67), none, [], (.ixarr 3 3 (.t 15) (.t 66))⟩, ⟨(some 68), none, [], (.load true 3 (.t 67))⟩, ⟨(some 69), none, [], (.load true 3 (.t 14))⟩, ⟨(some 70), none, [], (.call 44 [(.t 68), (.t 69)])⟩, ⟨(some 64), none, [], (.mv (.t 70))⟩, ⟨(some 71), none, [], (.ext (.t 64) 0)⟩, ⟨(some 72), none, [], (.ext (.t 64) 1)⟩, ⟨(some 73), none, [], (.ixarr 3 3 (.t 16) (.t 65))⟩, ⟨none, none, [], (.store 3 (.t 73) (.t 71))⟩]))
  (.reg [⟨(some 62), none, (.mv (.t 17))⟩, ⟨(some 63), none, (.bin .add (.t 62) (.c (.int .i64 1)))⟩, ⟨(some 17), none, (.mv (.t 63))⟩]))))))
  (.seq (.reg [⟨(some 74), none, (.load true 9 (.t 16))⟩, ⟨(some 75), none, (.call 45 [(.t 74)])⟩, ⟨none, none, (.store 8 (.t 6) (.t 75))⟩, ⟨(some 7), none, (.mv (.c (.bool true)))⟩])
  .ret))))))))))
theorem tr12 : trFun Tryz.prog 12 = some ⟨76, [.cell 6 true 8, .t 7], c12⟩ := by kernel_rfl
set_option maxHeartbeats 8000000 in
theorem ok_r6Three : SpecOK Tryz.prog 12 (flat spR6Three) := by
  refine flat_run (env_cons ok_r6Normal (env_cons ok_r6Times (env_cons ok_r6Dot (env_cons ok_r3Sign (env_cons ok_r6Scale (env_cons ok_r6Plus (env_cons ok_r3Div (env_cons ok_r4Make (env_nil _))))))))) mixed tr12 ?_
  intro args v h N hG
  unfold spR6Three at hG
  split at hG
  case h_2 => cases hG
  rename_i sa1 la1 sa2 la2 sa3 la3 sa4 la4 sb1 lb1 sb2 lb2 sb3 lb3 sb4 lb4 sc1 lc1 sc2 lc2 sc3 lc3 sc4 lc4
  split at hG
  case isFalse => cases hG
  rename_i hl
  obtain ⟨ha1, ha2, ha3, ha4, hb1, hb2, hb3, hb4, hc1, hc2, hc3, hc4⟩ := hl
  have ma1 : la1.length ≤ 68719476736 := by omega
  have na1 := len_sv (s := sa1) ha1
  obtain ⟨Aa1, ea1⟩ : ∃ z, sv sa1 la1 = z := ⟨_, rfl⟩
  rw [ea1] at na1 hG
  have n1a1 := lle (k := 2147483648) na1 (by omega)
  have n2a1 := lle (k := 1073741824) na1 (by omega)
  have ma2 : la2.length ≤ 68719476736 := by omega
  have na2 := len_sv (s := sa2) ha2
  obtain ⟨Aa2, ea2⟩ : ∃ z, sv sa2 la2 = z := ⟨_, rfl⟩
  rw [ea2] at na2 hG
  have n1a2 := lle (k := 2147483648) na2 (by omega)
  have n2a2 := lle (k := 1073741824) na2 (by omega)
  have ma3 : la3.length ≤ 68719476736 := by omega
  have na3 := len_sv (s := sa3) ha3
  obtain ⟨Aa3, ea3⟩ : ∃ z, sv sa3 la3 = z := ⟨_, rfl⟩
  rw [ea3] at na3 hG
  have n1a3 := lle (k := 2147483648) na3 (by omega)
  have n2a3 := lle (k := 1073741824) na3 (by omega)
  have ma4 : la4.length ≤ 68719476736 := by omega
  have na4 := len_sv (s := sa4) ha4
  obtain ⟨Aa4, ea4⟩ : ∃ z, sv sa4 la4 = z := ⟨_, rfl⟩
  rw [ea4] at na4 hG
  have n3a4 := lle (k := 8589934592) na4 (by omega)
  have mb1 : lb1.length ≤ 68719476736 := by omega
  have nb1 := len_sv (s := sb1) hb1
  obtain ⟨Ab1, eb1⟩ : ∃ z, sv sb1 lb1 = z := ⟨_, rfl⟩
  rw [eb1] at nb1 hG
  have n1b1 := lle (k := 2147483648) nb1 (by omega)
  have n2b1 := lle (k := 1073741824) nb1 (by omega)
  have mb2 : lb2.length ≤ 68719476736 := by omega
  have nb2 := len_sv (s := sb2) hb2
  obtain ⟨Ab2, eb2⟩ : ∃ z, sv sb2 lb2 = z := ⟨_, rfl⟩
  rw [eb2] at nb2 hG
  have n1b2 := lle (k := 2147483648) nb2 (by omega)
  have n2b2 := lle (k := 1073741824) nb2 (by omega)
  have mb3 : lb3.length ≤ 68719476736 := by omega
  have nb3 := len_sv (s := sb3) hb3
  obtain ⟨Ab3, eb3⟩ : ∃ z, sv sb3 lb3 = z := ⟨_, rfl⟩
  rw [eb3] at nb3 hG
  have n1b3 := lle (k := 2147483648) nb3 (by omega)
  have n2b3 := lle (k := 1073741824) nb3 (by omega)
  have mb4 : lb4.length ≤ 68719476736 := by omega
  have nb4 := len_sv (s := sb4) hb4
  obtain ⟨Ab4, eb4⟩ : ∃ z, sv sb4 lb4 = z := ⟨_, rfl⟩
  rw [eb4] at nb4 hG
  have n3b4 := lle (k := 8589934592) nb4 (by omega)
  have mc1 : lc1.length ≤ 68719476736 := by omega
  have nc1 := len_sv (s := sc1) hc1
  obtain ⟨Ac1, ec1⟩ : ∃ z, sv sc1 lc1 = z := ⟨_, rfl⟩
  rw [ec1] at nc1 hG
  have n1c1 := lle (k := 2147483648) nc1 (by omega)
  have n2c1 := lle (k := 1073741824) nc1 (by omega)
  have mc2 : lc2.length ≤ 68719476736 := by omega
  have nc2 := len_sv (s := sc2) hc2
  obtain ⟨Ac2, ec2⟩ : ∃ z, sv sc2 lc2 = z := ⟨_, rfl⟩
  rw [ec2] at nc2 hG
  have n1c2 := lle (k := 2147483648) nc2 (by omega)
  have n2c2 := lle (k := 1073741824) nc2 (by omega)
  have mc3 : lc3.length ≤ 68719476736 := by omega
  have nc3 := len_sv (s := sc3) hc3
  obtain ⟨Ac3, ec3⟩ : ∃ z, sv sc3 lc3 = z := ⟨_, rfl⟩
  rw [ec3] at nc3 hG
  have n1c3 := lle (k := 2147483648) nc3 (by omega)
  have n2c3 := lle (k := 1073741824) nc3 (by omega)
  have mc4 : lc4.length ≤ 68719476736 := by omega
  have nc4 := len_sv (s := sc4) hc4
  obtain ⟨Ac4, ec4⟩ : ∃ z, sv sc4 lc4 = z := ⟨_, rfl⟩
  rw [ec4] at nc4 hG
  have n3c4 := lle (k := 8589934592) nc4 (by omega)
  have zbc0 := lsub (k := 33554433) (lmul (k := 33554432) nb2 nc3 (by omega)) (lmul (k := 33554432) nb3 nc2 (by omega)) (by omega)
  obtain ⟨Zbc0, ebc0⟩ : ∃ z, Ab2 * Ac3 - Ab3 * Ac2 = z := ⟨_, rfl⟩
  rw [ebc0] at hG zbc0
  have ybc0 := lle (k := 8589934592) zbc0 (by omega)
  have xbc0 := lle (k := 1073741824) zbc0 (by omega)
  have wbc0 := lmul (k := 50331649) zbc0 na4 (by omega)
  have vbc0 := lle (k := 8589934592) wbc0 (by omega)
  have zbc1 := lsub (k := 33554433) (lmul (k := 33554432) nb3 nc1 (by omega)) (lmul (k := 33554432) nb1 nc3 (by omega)) (by omega)
  obtain ⟨Zbc1, ebc1⟩ : ∃ z, Ab3 * Ac1 - Ab1 * Ac3 = z := ⟨_, rfl⟩
  rw [ebc1] at hG zbc1
  have ybc1 := lle (k := 8589934592) zbc1 (by omega)
  have xbc1 := lle (k := 1073741824) zbc1 (by omega)
  have wbc1 := lmul (k := 50331649) zbc1 na4 (by omega)
  have vbc1 := lle (k := 8589934592) wbc1 (by omega)
  have zbc2 := lsub (k := 33554433) (lmul (k := 33554432) nb1 nc2 (by omega)) (lmul (k := 33554432) nb2 nc1 (by omega)) (by omega)
  obtain ⟨Zbc2, ebc2⟩ : ∃ z, Ab1 * Ac2 - Ab2 * Ac1 = z := ⟨_, rfl⟩
  rw [ebc2] at hG zbc2
  have ybc2 := lle (k := 8589934592) zbc2 (by omega)
  have xbc2 := lle (k := 1073741824) zbc2 (by omega)
  have wbc2 := lmul (k := 50331649) zbc2 na4 (by omega)
  have vbc2 := lle (k := 8589934592) wbc2 (by omega)
  have zca0 := lsub (k := 33554433) (lmul (k := 33554432) nc2 na3 (by omega)) (lmul (k := 33554432) nc3 na2 (by omega)) (by omega)
  obtain ⟨Zca0, eca0⟩ : ∃ z, Ac2 * Aa3 - Ac3 * Aa2 = z := ⟨_, rfl⟩
  rw [eca0] at hG zca0
  have yca0 := lle (k := 8589934592) zca0 (by omega)
  have wca0 := lmul (k := 50331649) zca0 nb4 (by omega)
  have vca0 := lle (k := 8589934592) wca0 (by omega)
  have zca1 := lsub (k := 33554433) (lmul (k := 33554432) nc3 na1 (by omega)) (lmul (k := 33554432) nc1 na3 (by omega)) (by omega)
  obtain ⟨Zca1, eca1⟩ : ∃ z, Ac3 * Aa1 - Ac1 * Aa3 = z := ⟨_, rfl⟩
  rw [eca1] at hG zca1
  have yca1 := lle (k := 8589934592) zca1 (by omega)
  have wca1 := lmul (k := 50331649) zca1 nb4 (by omega)
  have vca1 := lle (k := 8589934592) wca1 (by omega)
  have zca2 := lsub (k := 33554433) (lmul (k := 33554432) nc1 na2 (by omega)) (lmul (k := 33554432) nc2 na1 (by omega)) (by omega)
  obtain ⟨Zca2, eca2⟩ : ∃ z, Ac1 * Aa2 - Ac2 * Aa1 = z := ⟨_, rfl⟩
  rw [eca2] at hG zca2
  have yca2 := lle (k := 8589934592) zca2 (by omega)
  have wca2 := lmul (k := 50331649) zca2 nb4 (by omega)
  have vca2 := lle (k := 8589934592) wca2 (by omega)
  have zab0 := lsub (k := 33554433) (lmul (k := 33554432) na2 nb3 (by omega)) (lmul (k := 33554432) na3 nb2 (by omega)) (by omega)
  obtain ⟨Zab0, eab0⟩ : ∃ z, Aa2 * Ab3 - Aa3 * Ab2 = z := ⟨_, rfl⟩
  rw [eab0] at hG zab0
  have yab0 := lle (k := 8589934592) zab0 (by omega)
  have wab0 := lmul (k := 50331649) zab0 nc4 (by omega)
  have vab0 := lle (k := 8589934592) wab0 (by omega)
  have zab1 := lsub (k := 33554433) (lmul (k := 33554432) na3 nb1 (by omega)) (lmul (k := 33554432) na1 nb3 (by omega)) (by omega)
  obtain ⟨Zab1, eab1⟩ : ∃ z, Aa3 * Ab1 - Aa1 * Ab3 = z := ⟨_, rfl⟩
  rw [eab1] at hG zab1
  have yab1 := lle (k := 8589934592) zab1 (by omega)
  have wab1 := lmul (k := 50331649) zab1 nc4 (by omega)
  have vab1 := lle (k := 8589934592) wab1 (by omega)
  have zab2 := lsub (k := 33554433) (lmul (k := 33554432) na1 nb2 (by omega)) (lmul (k := 33554432) na2 nb1 (by omega)) (by omega)
  obtain ⟨Zab2, eab2⟩ : ∃ z, Aa1 * Ab2 - Aa2 * Ab1 = z := ⟨_, rfl⟩
  rw [eab2] at hG zab2
  have yab2 := lle (k := 8589934592) zab2 (by omega)
  have wab2 := lmul (k := 50331649) zab2 nc4 (by omega)
  have vab2 := lle (k := 8589934592) wab2 (by omega)
  have u0 := ladd (k := 50331650) wbc0 wca0 (by omega)
  have ul0 := lle (k := 8589934592) u0 (by omega)
  have S0 := ladd (k := 50331651) u0 wab0 (by omega)
  obtain ⟨X0, eX0⟩ : ∃ z, Zbc0 * Aa4 + Zca0 * Ab4 + Zab0 * Ac4 = z := ⟨_, rfl⟩
  rw [eX0] at hG S0
  have Sl0 := lle (k := 8589934592) S0 (by omega)
  have u1 := ladd (k := 50331650) wbc1 wca1 (by omega)
  have ul1 := lle (k := 8589934592) u1 (by omega)
  have S1 := ladd (k := 50331651) u1 wab1 (by omega)
  obtain ⟨X1, eX1⟩ : ∃ z, Zbc1 * Aa4 + Zca1 * Ab4 + Zab1 * Ac4 = z := ⟨_, rfl⟩
  rw [eX1] at hG S1
  have Sl1 := lle (k := 8589934592) S1 (by omega)
  have u2 := ladd (k := 50331650) wbc2 wca2 (by omega)
  have ul2 := lle (k := 8589934592) u2 (by omega)
  have S2 := ladd (k := 50331651) u2 wab2 (by omega)
  obtain ⟨X2, eX2⟩ : ∃ z, Zbc2 * Aa4 + Zca2 * Ab4 + Zab2 * Ac4 = z := ⟨_, rfl⟩
  rw [eX2] at hG S2
  have Sl2 := lle (k := 8589934592) S2 (by omega)
  have W0 := ladd (k := 50331651) (ladd (k := 50331650) (lmul (k := 50331649) na1 zbc0 (by omega)) (lmul (k := 50331649) na2 zbc1 (by omega)) (by omega)) (lmul (k := 50331649) na3 zbc2 (by omega)) (by omega)
  obtain ⟨W, eW⟩ : ∃ z, Aa1 * Zbc0 + Aa2 * Zbc1 + Aa3 * Zbc2 = z := ⟨_, rfl⟩
  rw [eW] at hG W0
  have Wl := lle (k := 8589934592) W0 (by omega)
  have Wm := lle (k := 34359738368) W0 (by omega)
  have eS : (W.sign = 0) = (W = 0) := propext Int.sign_eq_zero_iff_zero
  split at hG
  · rename_i hw
    cases hG
    refine ⟨rfl, by simp, ?_⟩
    have zl0 : (bl (Int.natAbs 0)).length ≤ 34359738368 := by rw [show Int.natAbs 0 = 0 from rfl, bl_zero]; exact Nat.zero_le _
    have zs0 : sv false (bl (Int.natAbs 0)) = 0 := by rw [sv_bl]; rfl
    simp only [c12, initT, List.zipIdx_cons, List.zipIdx_nil, List.map_cons, List.map_nil, Nat.reduceAdd]
    simp only [↓R0, R1, rdL, rdH, isCall, istep, ibin, vcells, fillI, setR, flat, okCell, isBase, List.set, List.drop, List.take, List.append, bnds, bhi, blo, srcOf, ↓reduceIte, Nat.reduceEqDiff, Nat.reduceAdd, Nat.reduceLeDiff, reduceCtorEq, Nat.reduceSub, Int.reduceEq, Int.reduceLT, Int.reduceLE, Int.reduceGT, Int.reduceGE, Int.reduceSub, Int.reduceAdd, Int.reduceMul, Int.reduceNe, Int.reduceNeg, Int.reduceToNat, Nat.reduceMul, ma1, ea1, n1a1, n2a1, ma2, ea2, n1a2, n2a2, ma3, ea3, n1a3, n2a3, ma4, ea4, n3a4, mb1, eb1, n1b1, n2b1, mb2, eb2, n1b2, n2b2, mb3, eb3, n1b3, n2b3, mb4, eb4, n3b4, mc1, ec1, n1c1, n2c1, mc2, ec2, n1c2, n2c2, mc3, ec3, n1c3, n2c3, mc4, ec4, n3c4, ebc0, ybc0, xbc0, vbc0, ebc1, ybc1, xbc1, vbc1, ebc2, ybc2, xbc2, vbc2, eca0, yca0, vca0, eca1, yca1, vca1, eca2, yca2, vca2, eab0, yab0, vab0, eab1, yab1, vab1, eab2, yab2, vab2, ul0, eX0, Sl0, ul1, eX1, Sl1, ul2, eX2, Sl2, eW, Wl, Wm, rv_int, rE_int, Rat.num_intCast, Rat.den_intCast, r3E, ← Rat.intCast_mul, ← Rat.intCast_sub, ← Rat.intCast_add, Nat.zero_le, spR6Normal, spR6Times, spR6Dot, spR3Sign, eS, hw, zl0, zs0, Int.sign_zero, Int.lt_irrefl, pZ, Fin, isEnd, resL, res1, iE, rE]
    exact ⟨_, rfl, rfl, fun k hk => by simp only [ne_nb hk, if_false]⟩
  rename_i hw
  cases hG
  refine ⟨rfl, by simp, ?_⟩
  have hw' : ¬ (W.natAbs = 0) := by omega
  have w1 : IntKind.i64.wrap 1 = 1 := i64_in _ (by omega)
  have w2 : IntKind.i64.wrap 2 = 2 := i64_in _ (by omega)
  have w3 : IntKind.i64.wrap 3 = 3 := i64_in _ (by omega)
  have dX0 : (X0 : Rat) / (W : Rat) = Rat.divInt X0 W := (Rat.divInt_eq_div _ _).symm
  have r0 := divInt_RB hw S0 W0
  have rn0 := r0.num (k := 2147483648) (by omega)
  have rd0 := r0.den (k := 2147483648) (by omega)
  have dX1 : (X1 : Rat) / (W : Rat) = Rat.divInt X1 W := (Rat.divInt_eq_div _ _).symm
  have r1 := divInt_RB hw S1 W0
  have rn1 := r1.num (k := 2147483648) (by omega)
  have rd1 := r1.den (k := 2147483648) (by omega)
  have dX2 : (X2 : Rat) / (W : Rat) = Rat.divInt X2 W := (Rat.divInt_eq_div _ _).symm
  have r2 := divInt_RB hw S2 W0
  have rn2 := r2.num (k := 2147483648) (by omega)
  have rd2 := r2.den (k := 2147483648) (by omega)
  have hmk := mkE_pE (x := X0) (y := X1) (z := X2) hw
  simp only [c12, initT, List.zipIdx_cons, List.zipIdx_nil, List.map_cons, List.map_nil, Nat.reduceAdd]
  simp only [↓R0, R1, rdL, rdH, isCall, istep, ibin, vcells, fillI, setR, flat, okCell, isBase, List.set, List.drop, List.take, List.append, bnds, bhi, blo, srcOf, ↓reduceIte, Nat.reduceEqDiff, Nat.reduceAdd, Nat.reduceLeDiff, reduceCtorEq, Nat.reduceSub, Int.reduceEq, Int.reduceLT, Int.reduceLE, Int.reduceGT, Int.reduceGE, Int.reduceSub, Int.reduceAdd, Int.reduceMul, Int.reduceNe, Int.reduceNeg, Int.reduceToNat, Nat.reduceMul, ma1, ea1, n1a1, n2a1, ma2, ea2, n1a2, n2a2, ma3, ea3, n1a3, n2a3, ma4, ea4, n3a4, mb1, eb1, n1b1, n2b1, mb2, eb2, n1b2, n2b2, mb3, eb3, n1b3, n2b3, mb4, eb4, n3b4, mc1, ec1, n1c1, n2c1, mc2, ec2, n1c2, n2c2, mc3, ec3, n1c3, n2c3, mc4, ec4, n3c4, ebc0, ybc0, xbc0, vbc0, ebc1, ybc1, xbc1, vbc1, ebc2, ybc2, xbc2, vbc2, eca0, yca0, vca0, eca1, yca1, vca1, eca2, yca2, vca2, eab0, yab0, vab0, eab1, yab1, vab1, eab2, yab2, vab2, ul0, eX0, Sl0, ul1, eX1, Sl1, ul2, eX2, Sl2, eW, Wl, Wm, rv_int, rE_int, Rat.num_intCast, Rat.den_intCast, r3E, ← Rat.intCast_mul, ← Rat.intCast_sub, ← Rat.intCast_add, Nat.zero_le, spR6Normal, spR6Times, spR6Dot, spR3Sign, eS, hw]
  simp only [↓R0, R1, rdL, rdH, isCall, istep, ibin, vcells, fillI, setR, flat, okCell, isBase, List.set, List.drop, List.take, List.append, bnds, bhi, blo, srcOf, ↓reduceIte, Nat.reduceEqDiff, Nat.reduceAdd, Nat.reduceLeDiff, reduceCtorEq, Nat.reduceSub, Int.reduceEq, Int.reduceLT, Int.reduceLE, Int.reduceGT, Int.reduceGE, Int.reduceSub, Int.reduceAdd, Int.reduceMul, Int.reduceNe, Int.reduceNeg, Int.reduceToNat, Nat.reduceMul, ma1, ea1, n1a1, n2a1, ma2, ea2, n1a2, n2a2, ma3, ea3, n1a3, n2a3, ma4, ea4, n3a4, mb1, eb1, n1b1, n2b1, mb2, eb2, n1b2, n2b2, mb3, eb3, n1b3, n2b3, mb4, eb4, n3b4, mc1, ec1, n1c1, n2c1, mc2, ec2, n1c2, n2c2, mc3, ec3, n1c3, n2c3, mc4, ec4, n3c4, ebc0, ybc0, xbc0, vbc0, ebc1, ybc1, xbc1, vbc1, ebc2, ybc2, xbc2, vbc2, eca0, yca0, vca0, eca1, yca1, vca1, eca2, yca2, vca2, eab0, yab0, vab0, eab1, yab1, vab1, eab2, yab2, vab2, ul0, eX0, Sl0, ul1, eX1, Sl1, ul2, eX2, Sl2, eW, Wl, Wm, rv_int, rE_int, Rat.num_intCast, Rat.den_intCast, r3E, ← Rat.intCast_mul, ← Rat.intCast_sub, ← Rat.intCast_add, Nat.zero_le, spR6Times, spR6Scale, spR6Plus]
  refine lp_step ?_
  simp only [↓R0, R1, rdL, rdH, isCall, istep, ibin, vcells, fillI, setR, flat, okCell, isBase, List.set, List.drop, List.take, List.append, bnds, bhi, blo, srcOf, ↓reduceIte, Nat.reduceEqDiff, Nat.reduceAdd, Nat.reduceLeDiff, reduceCtorEq, Nat.reduceSub, Int.reduceEq, Int.reduceLT, Int.reduceLE, Int.reduceGT, Int.reduceGE, Int.reduceSub, Int.reduceAdd, Int.reduceMul, Int.reduceNe, Int.reduceNeg, Int.reduceToNat, Nat.reduceMul, Wl, Sl0, Sl1, Sl2, hw', nl_bl, rv_int, Nat.zero_le, dX0, dX1, dX2, w1, w2, w3, spR3Div, rE, Rat.num_intCast, Rat.den_intCast]
  refine lp_step ?_
  simp only [↓R0, R1, rdL, rdH, isCall, istep, ibin, vcells, fillI, setR, flat, okCell, isBase, List.set, List.drop, List.take, List.append, bnds, bhi, blo, srcOf, ↓reduceIte, Nat.reduceEqDiff, Nat.reduceAdd, Nat.reduceLeDiff, reduceCtorEq, Nat.reduceSub, Int.reduceEq, Int.reduceLT, Int.reduceLE, Int.reduceGT, Int.reduceGE, Int.reduceSub, Int.reduceAdd, Int.reduceMul, Int.reduceNe, Int.reduceNeg, Int.reduceToNat, Nat.reduceMul, Wl, Sl0, Sl1, Sl2, hw', nl_bl, rv_int, Nat.zero_le, dX0, dX1, dX2, w1, w2, w3, spR3Div, rE, Rat.num_intCast, Rat.den_intCast]
  refine lp_step ?_
  simp only [↓R0, R1, rdL, rdH, isCall, istep, ibin, vcells, fillI, setR, flat, okCell, isBase, List.set, List.drop, List.take, List.append, bnds, bhi, blo, srcOf, ↓reduceIte, Nat.reduceEqDiff, Nat.reduceAdd, Nat.reduceLeDiff, reduceCtorEq, Nat.reduceSub, Int.reduceEq, Int.reduceLT, Int.reduceLE, Int.reduceGT, Int.reduceGE, Int.reduceSub, Int.reduceAdd, Int.reduceMul, Int.reduceNe, Int.reduceNeg, Int.reduceToNat, Nat.reduceMul, Wl, Sl0, Sl1, Sl2, hw', nl_bl, rv_int, Nat.zero_le, dX0, dX1, dX2, w1, w2, w3, spR3Div, rE, Rat.num_intCast, Rat.den_intCast]
  refine lp_step ?_
  simp only [↓R0, R1, rdL, rdH, isCall, istep, ibin, vcells, fillI, setR, flat, okCell, isBase, List.set, List.drop, List.take, List.append, bnds, bhi, blo, srcOf, ↓reduceIte, Nat.reduceEqDiff, Nat.reduceAdd, Nat.reduceLeDiff, reduceCtorEq, Nat.reduceSub, Int.reduceEq, Int.reduceLT, Int.reduceLE, Int.reduceGT, Int.reduceGE, Int.reduceSub, Int.reduceAdd, Int.reduceMul, Int.reduceNe, Int.reduceNeg, Int.reduceToNat, Nat.reduceMul, rn0, rn1, rn2, rd0, rd1, rd2, rv_can, spR4Make, hmk, pE, Fin, isEnd, resL, res1, iE, rE]
  exact ⟨_, rfl, rfl, fun k hk => by simp only [ne_nb hk, if_false]⟩
end Go.Eng
end
section
set_option linter.unusedVariables false
set_option linter.unusedSimpArgs false
set_option linter.unusedSectionVars false
set_option maxRecDepth 20000
namespace Go.Eng
open Go Go.Proofs Go.IntWalk
def det3 (a1 a2 a3 b1 b2 b3 c1 c2 c3 : Int) : Int := a1 * (b2 * c3 - b3 * c2) + a2 * (b3 * c1 - b1 * c3) + a3 * (b1 * c2 - b2 * c1)
def sum3 (d z e y f x : Int) : Int := d * z + e * y + f * x
def spXThree : List Value → Option Value
  | [.agg ⟨[.bool sa1, .string ⟨⟨la1⟩⟩, .bool sa2, .string ⟨⟨la2⟩⟩, .bool sa3, .string ⟨⟨la3⟩⟩, .bool sa4, .string ⟨⟨la4⟩⟩]⟩, .agg ⟨[.bool sb1, .string ⟨⟨lb1⟩⟩, .bool sb2, .string ⟨⟨lb2⟩⟩, .bool sb3, .string ⟨⟨lb3⟩⟩, .bool sb4, .string ⟨⟨lb4⟩⟩]⟩, .agg ⟨[.bool sc1, .string ⟨⟨lc1⟩⟩, .bool sc2, .string ⟨⟨lc2⟩⟩, .bool sc3, .string ⟨⟨lc3⟩⟩, .bool sc4, .string ⟨⟨lc4⟩⟩]⟩] =>
    if la1.length ≤ 2147483648 ∧ la2.length ≤ 2147483648 ∧ la3.length ≤ 2147483648 ∧ la4.length ≤ 2147483648 ∧ lb1.length ≤ 2147483648 ∧ lb2.length ≤ 2147483648 ∧ lb3.length ≤ 2147483648 ∧ lb4.length ≤ 2147483648 ∧ lc1.length ≤ 2147483648 ∧ lc2.length ≤ 2147483648 ∧ lc3.length ≤ 2147483648 ∧ lc4.length ≤ 2147483648 then
      (if sv sa1 la1 * (sv sb2 lb2 * sv sc3 lc3 - sv sb3 lb3 * sv sc2 lc2) + sv sa2 la2 * (sv sb3 lb3 * sv sc1 lc1 - sv sb1 lb1 * sv sc3 lc3) + sv sa3 la3 * (sv sb1 lb1 * sv sc2 lc2 - sv sb2 lb2 * sv sc1 lc1) = 0 then some (.tuple ⟨[.agg ⟨pZ⟩, .bool false]⟩) else some (.tuple ⟨[.agg ⟨pE (sv sa4 la4 * (sv sb2 lb2 * sv sc3 lc3 - sv sb3 lb3 * sv sc2 lc2) + sv sb4 lb4 * (sv sc2 lc2 * sv sa3 la3 - sv sc3 lc3 * sv sa2 la2) + sv sc4 lc4 * (sv sa2 la2 * sv sb3 lb3 - sv sa3 la3 * sv sb2 lb2)) (sv sa4 la4 * (sv sb3 lb3 * sv sc1 lc1 - sv sb1 lb1 * sv sc3 lc3) + sv sb4 lb4 * (sv sc3 lc3 * sv sa1 la1 - sv sc1 lc1 * sv sa3 la3) + sv sc4 lc4 * (sv sa3 la3 * sv sb1 lb1 - sv sa1 la1 * sv sb3 lb3)) (sv sa4 la4 * (sv sb1 lb1 * sv sc2 lc2 - sv sb2 lb2 * sv sc1 lc1) + sv sb4 lb4 * (sv sc1 lc1 * sv sa2 la2 - sv sc2 lc2 * sv sa1 la1) + sv sc4 lc4 * (sv sa1 la1 * sv sb2 lb2 - sv sa2 la2 * sv sb1 lb1)) (sv sa1 la1 * (sv sb2 lb2 * sv sc3 lc3 - sv sb3 lb3 * sv sc2 lc2) + sv sa2 la2 * (sv sb3 lb3 * sv sc1 lc1 - sv sb1 lb1 * sv sc3 lc3) + sv sa3 la3 * (sv sb1 lb1 * sv sc2 lc2 - sv sb2 lb2 * sv sc1 lc1))⟩, .bool true]⟩)) else none
  | _ => none
def c11 : ICode :=
  (.seq (.reg [⟨(some 3), none, (.box 25 8 (.t 0))⟩, ⟨(some 4), none, (.box 25 8 (.t 1))⟩, ⟨(some 5), none, (.box 25 8 (.t 2))⟩, ⟨(some 6), none, (.alloc 30 8 [(.bool false), (.string ⟨⟨[]⟩⟩), (.bool false), (.string ⟨⟨[]⟩⟩), (.bool false), (.string ⟨⟨[]⟩⟩), (.bool false), (.string ⟨⟨[]⟩⟩)])⟩, ⟨(some 7), none, (.mv (.c (.bool false)))⟩])
  (.seq (.reg [⟨(some 14), none, (.load true 8 (.t 3))⟩, ⟨(some 15), none, (.load true 8 (.t 4))⟩, ⟨(some 16), none, (.load true 8 (.t 5))⟩, ⟨(some 17), none, (.build [(.bool false), (.string ⟨⟨[]⟩⟩), (.bool false), (.string ⟨⟨[]⟩⟩), (.bool false), (.string ⟨⟨[]⟩⟩), (.bool false), (.string ⟨⟨[]⟩⟩), (.bool false), (.string ⟨⟨[]⟩⟩), (.bool false), (.string ⟨⟨[]⟩⟩), (.bool false), (.string ⟨⟨[]⟩⟩), (.bool false), (.string ⟨⟨[]⟩⟩), (.bool false), (.string ⟨⟨[]⟩⟩), (.bool false), (.string ⟨⟨[]⟩⟩), (.bool false), (.string ⟨⟨[]⟩⟩), (.bool false), (.string ⟨⟨[]⟩⟩)] [(0, 8, (.t 14)), (8, 8, (.t 15)), (16, 8, (.t 16))])⟩, ⟨(some 8), none, (.alloc 58 24 [(.bool false), (.string ⟨⟨[]⟩⟩), (.bool false), (.string ⟨⟨[]⟩⟩), (.bool false), (.string ⟨⟨[]⟩⟩), (.bool false), (.string ⟨⟨[]⟩⟩), (.bool false), (.string ⟨⟨[]⟩⟩), (.bool false), (.string ⟨⟨[]⟩⟩), (.bool false), (.string ⟨⟨[]⟩⟩), (.bool false), (.string ⟨⟨[]⟩⟩), (.bool false), (.string ⟨⟨[]⟩⟩), (.bool false), (.string ⟨⟨[]⟩⟩), (.bool false), (.string ⟨⟨[]⟩⟩), (.bool false), (.string ⟨⟨[]⟩⟩)])⟩, ⟨none, none, (.store 24 (.t 8) (.t 17))⟩])
  (.seq (.reg [⟨(some 9), none, (.alloc 60 6 [(.bool false), (.string ⟨⟨[]⟩⟩), (.bool false), (.string ⟨⟨[]⟩⟩), (.bool false), (.string ⟨⟨[]⟩⟩)])⟩])
  (.seq (.seq (.reg [⟨(some 18), none, (.load true 24 (.t 8))⟩, ⟨(some 19), none, (.mv (.c (.int .i64 0)))⟩])
  (.block 0 (.loop (.seq (.reg [⟨(some 20), none, (.bin .lss (.t 19) (.c (.int .i64 3)))⟩])
  (.seq (.cond (.t 20)
  .skip
  (.exit 0))
  (.seq (.block 1 (.seq (.reg [⟨(some 21), none, (.mv (.t 19))⟩, ⟨(some 22), none, (.idarr 3 true 8 (.t 18) (.t 19))⟩, ⟨(some 11), none, (.alloc 25 8 [(.bool false), (.string ⟨⟨[]⟩⟩), (.bool false), (.string ⟨⟨[]⟩⟩), (.bool false), (.string ⟨⟨[]⟩⟩), (.bool false), (.string ⟨⟨[]⟩⟩)])⟩, ⟨(some 10), none, (.mv (.t 21))⟩, ⟨none, none, (.store 8 (.t 11) (.t 22))⟩])
  (.seq (.dreg [⟨(some 23), none, [], (.mv (.t 10))⟩, ⟨(some 24), none, [], (.bin .add (.t 23) (.c (.int .i64 1)))⟩, ⟨(some 25), none, [], (.bin .rem (.t 24) (.c (.int .i64 3)))⟩, ⟨(some 26), none, [], (.ixarr 3 8 (.t 8) (.t 25))⟩, ⟨(some 27), none, [], (.load true 8 (.t 26))⟩, ⟨(some 28), none, [], (.call 33 [(.t 27)])⟩, ⟨(some 29), none, [], (.mv (.t 10))⟩, ⟨(some 30), none, [], (.bin .add (.t 29) (.c (.int .i64 2)))⟩, ⟨(some 31), none, [], (.bin .rem (.t 30) (.c (.int .i64 3)))⟩, ⟨(some 32), none, [], (.ixarr 3 8 (.t 8) (.t 31))⟩, ⟨(some 33), none, [5], (.load true 8 (.t 32))⟩, ⟨(some 34), none, [], (.call 33 [(.t 33)])⟩, ⟨(some 35), none, [], (.call 32 [(.t 28), (.t 34)])⟩, ⟨(some 12), none, [], (.alloc 60 6 [(.bool false), (.string ⟨⟨[]⟩⟩), (.bool false), (.string ⟨⟨[]⟩⟩), (.bool false), (.string ⟨⟨[]⟩⟩)])⟩, ⟨none, none, [], (.store 6 (.t 12) (.t 35))⟩])
  (.seq (.reg [⟨(some 36), none, (.mv (.c (.int .i64 0)))⟩])
  (.block 2 (.loop (.seq (.reg [⟨(some 37), none, (.bin .lss (.t 36) (.c (.int .i64 3)))⟩])
  (.seq (.cond (.t 37)
  .skip
  (.exit 2))
  (.seq (.block 3 (.seq (.reg [⟨(some 38), none, (.mv (.t 36))⟩, ⟨(some 13), none, (.mv (.t 38))⟩])
  (.dreg [⟨(some 39), none, [], (.mv (.t 13))⟩, ⟨(some 40), none, [], (.mv (.t 13))⟩, ⟨(some 41), none, [], (.ixarr 3 2 (.t 9) (.t 40))⟩, ⟨(some 42), none, [], (.load true 2 (.t 41))⟩, ⟨(some 43), none, [], (.faddr 6 (.t 11))⟩, ⟨(some 44), none, [], (.load true 2 (.t 43))⟩, ⟨(some 45), none, [], (.mv (.t 13))⟩, ⟨(some 46), none, [], (.ixarr 3 2 (.t 12) (.t 45))⟩, ⟨(some 47), none, [], (.load true 2 (.t 46))⟩, ⟨(some 48), none, [], (.call 35 [(.t 44), (.t 47)])⟩, ⟨(some 49), none, [], (.call 34 [(.t 42), (.t 48)])⟩, ⟨(some 50), none, [], (.ixarr 3 2 (.t 9) (.t 39))⟩, ⟨none, none, [], (.store 2 (.t 50) (.t 49))⟩])))
  (.reg [⟨(some 51), none, (.bin .add (.t 36) (.c (.int .i64 1)))⟩, ⟨(some 36), none, (.mv (.t 51))⟩]))))))))))
  (.reg [⟨(some 52), none, (.bin .add (.t 19) (.c (.int .i64 1)))⟩, ⟨(some 19), none, (.mv (.t 52))⟩])))))))
  (.seq (.dreg [⟨(some 53), none, [], (.load true 6 (.t 9))⟩, ⟨(some 54), none, [], (.load true 8 (.t 3))⟩, ⟨(some 55), none, [], (.call 33 [(.t 54)])⟩, ⟨(some 56), none, [2], (.load true 8 (.t 4))⟩, ⟨(some 57), none, [], (.call 33 [(.t 56)])⟩, ⟨(some 58), none, [2, 4], (.load true 8 (.t 5))⟩, ⟨(some 59), none, [], (.call 33 [(.t 58)])⟩, ⟨(some 60), none, [], (.call 32 [(.t 57), (.t 59)])⟩, ⟨(some 61), none, [], (.call 37 [(.t 55), (.t 60)])⟩, ⟨(some 62), none, [], (.call 36 [(.t 53), (.t 61)])⟩, ⟨(some 63), none, [], (.ext (.t 62) 0)⟩, ⟨(some 64), none, [], (.ext (.t 62) 1)⟩, ⟨none, none, [], (.store 8 (.t 6) (.t 63))⟩, ⟨(some 7), none, [], (.mv (.t 64))⟩])
  .ret)))))
theorem tr11 : trFun Tryz.prog 11 = some ⟨65, [.cell 6 true 8, .t 7], c11⟩ := by kernel_rfl
set_option maxHeartbeats 8000000 in
theorem ok_xThree : SpecOK Tryz.prog 11 (flat spXThree) := by
  refine flat_run (env_cons ok_xNormal (env_cons ok_xCross (env_cons ok_xDot (env_cons ok_xMade (env_cons ok_iMul (env_cons ok_iAdd (env_nil _))))))) mixed tr11 ?_
  intro args v h N hG
  unfold spXThree at hG
  split at hG
  case h_2 => cases hG
  rename_i sa1 la1 sa2 la2 sa3 la3 sa4 la4 sb1 lb1 sb2 lb2 sb3 lb3 sb4 lb4 sc1 lc1 sc2 lc2 sc3 lc3 sc4 lc4
  split at hG
  case isFalse => cases hG
  rename_i hl
  obtain ⟨ha1, ha2, ha3, ha4, hb1, hb2, hb3, hb4, hc1, hc2, hc3, hc4⟩ := hl
  have na1 := len_sv (s := sa1) ha1
  have ra1 : la1.length ≤ 4294967296 := by omega
  have qa1 : la1.length ≤ 17179869184 := by omega
  have na2 := len_sv (s := sa2) ha2
  have ra2 : la2.length ≤ 4294967296 := by omega
  have qa2 : la2.length ≤ 17179869184 := by omega
  have na3 := len_sv (s := sa3) ha3
  have ra3 : la3.length ≤ 4294967296 := by omega
  have qa3 : la3.length ≤ 17179869184 := by omega
  have na4 := len_sv (s := sa4) ha4
  have ra4 : la4.length ≤ 34359738368 := by omega
  have nb1 := len_sv (s := sb1) hb1
  have rb1 : lb1.length ≤ 4294967296 := by omega
  have qb1 : lb1.length ≤ 17179869184 := by omega
  have nb2 := len_sv (s := sb2) hb2
  have rb2 : lb2.length ≤ 4294967296 := by omega
  have qb2 : lb2.length ≤ 17179869184 := by omega
  have nb3 := len_sv (s := sb3) hb3
  have rb3 : lb3.length ≤ 4294967296 := by omega
  have qb3 : lb3.length ≤ 17179869184 := by omega
  have nb4 := len_sv (s := sb4) hb4
  have rb4 : lb4.length ≤ 34359738368 := by omega
  have nc1 := len_sv (s := sc1) hc1
  have rc1 : lc1.length ≤ 4294967296 := by omega
  have qc1 : lc1.length ≤ 17179869184 := by omega
  have nc2 := len_sv (s := sc2) hc2
  have rc2 : lc2.length ≤ 4294967296 := by omega
  have qc2 : lc2.length ≤ 17179869184 := by omega
  have nc3 := len_sv (s := sc3) hc3
  have rc3 : lc3.length ≤ 4294967296 := by omega
  have qc3 : lc3.length ≤ 17179869184 := by omega
  have nc4 := len_sv (s := sc4) hc4
  have rc4 : lc4.length ≤ 34359738368 := by omega
  have zbc0 := lsub (k := 8589934592) (lmul (k := 4294967296) nb2 nc3 (by omega)) (lmul (k := 4294967296) nb3 nc2 (by omega)) (by omega)
  obtain ⟨Zbc0, ebc0⟩ : ∃ z, sv sb2 lb2 * sv sc3 lc3 - sv sb3 lb3 * sv sc2 lc2 = z := ⟨_, rfl⟩
  rw [ebc0] at hG zbc0
  have ybc0 := lle (k := 34359738368) zbc0 (by omega)
  have xbc0 := lmul (k := 12884901888) na4 zbc0 (by omega)
  have wbc0 := lle (k := 68719476736) xbc0 (by omega)
  have zbc1 := lsub (k := 8589934592) (lmul (k := 4294967296) nb3 nc1 (by omega)) (lmul (k := 4294967296) nb1 nc3 (by omega)) (by omega)
  obtain ⟨Zbc1, ebc1⟩ : ∃ z, sv sb3 lb3 * sv sc1 lc1 - sv sb1 lb1 * sv sc3 lc3 = z := ⟨_, rfl⟩
  rw [ebc1] at hG zbc1
  have ybc1 := lle (k := 34359738368) zbc1 (by omega)
  have xbc1 := lmul (k := 12884901888) na4 zbc1 (by omega)
  have wbc1 := lle (k := 68719476736) xbc1 (by omega)
  have zbc2 := lsub (k := 8589934592) (lmul (k := 4294967296) nb1 nc2 (by omega)) (lmul (k := 4294967296) nb2 nc1 (by omega)) (by omega)
  obtain ⟨Zbc2, ebc2⟩ : ∃ z, sv sb1 lb1 * sv sc2 lc2 - sv sb2 lb2 * sv sc1 lc1 = z := ⟨_, rfl⟩
  rw [ebc2] at hG zbc2
  have ybc2 := lle (k := 34359738368) zbc2 (by omega)
  have xbc2 := lmul (k := 12884901888) na4 zbc2 (by omega)
  have wbc2 := lle (k := 68719476736) xbc2 (by omega)
  have zca0 := lsub (k := 8589934592) (lmul (k := 4294967296) nc2 na3 (by omega)) (lmul (k := 4294967296) nc3 na2 (by omega)) (by omega)
  obtain ⟨Zca0, eca0⟩ : ∃ z, sv sc2 lc2 * sv sa3 la3 - sv sc3 lc3 * sv sa2 la2 = z := ⟨_, rfl⟩
  rw [eca0] at hG zca0
  have yca0 := lle (k := 34359738368) zca0 (by omega)
  have xca0 := lmul (k := 12884901888) nb4 zca0 (by omega)
  have wca0 := lle (k := 68719476736) xca0 (by omega)
  have zca1 := lsub (k := 8589934592) (lmul (k := 4294967296) nc3 na1 (by omega)) (lmul (k := 4294967296) nc1 na3 (by omega)) (by omega)
  obtain ⟨Zca1, eca1⟩ : ∃ z, sv sc3 lc3 * sv sa1 la1 - sv sc1 lc1 * sv sa3 la3 = z := ⟨_, rfl⟩
  rw [eca1] at hG zca1
  have yca1 := lle (k := 34359738368) zca1 (by omega)
  have xca1 := lmul (k := 12884901888) nb4 zca1 (by omega)
  have wca1 := lle (k := 68719476736) xca1 (by omega)
  have zca2 := lsub (k := 8589934592) (lmul (k := 4294967296) nc1 na2 (by omega)) (lmul (k := 4294967296) nc2 na1 (by omega)) (by omega)
  obtain ⟨Zca2, eca2⟩ : ∃ z, sv sc1 lc1 * sv sa2 la2 - sv sc2 lc2 * sv sa1 la1 = z := ⟨_, rfl⟩
  rw [eca2] at hG zca2
  have yca2 := lle (k := 34359738368) zca2 (by omega)
  have xca2 := lmul (k := 12884901888) nb4 zca2 (by omega)
  have wca2 := lle (k := 68719476736) xca2 (by omega)
  have zab0 := lsub (k := 8589934592) (lmul (k := 4294967296) na2 nb3 (by omega)) (lmul (k := 4294967296) na3 nb2 (by omega)) (by omega)
  obtain ⟨Zab0, eab0⟩ : ∃ z, sv sa2 la2 * sv sb3 lb3 - sv sa3 la3 * sv sb2 lb2 = z := ⟨_, rfl⟩
  rw [eab0] at hG zab0
  have yab0 := lle (k := 34359738368) zab0 (by omega)
  have xab0 := lmul (k := 12884901888) nc4 zab0 (by omega)
  have wab0 := lle (k := 68719476736) xab0 (by omega)
  have zab1 := lsub (k := 8589934592) (lmul (k := 4294967296) na3 nb1 (by omega)) (lmul (k := 4294967296) na1 nb3 (by omega)) (by omega)
  obtain ⟨Zab1, eab1⟩ : ∃ z, sv sa3 la3 * sv sb1 lb1 - sv sa1 la1 * sv sb3 lb3 = z := ⟨_, rfl⟩
  rw [eab1] at hG zab1
  have yab1 := lle (k := 34359738368) zab1 (by omega)
  have xab1 := lmul (k := 12884901888) nc4 zab1 (by omega)
  have wab1 := lle (k := 68719476736) xab1 (by omega)
  have zab2 := lsub (k := 8589934592) (lmul (k := 4294967296) na1 nb2 (by omega)) (lmul (k := 4294967296) na2 nb1 (by omega)) (by omega)
  obtain ⟨Zab2, eab2⟩ : ∃ z, sv sa1 la1 * sv sb2 lb2 - sv sa2 la2 * sv sb1 lb1 = z := ⟨_, rfl⟩
  rw [eab2] at hG zab2
  have yab2 := lle (k := 34359738368) zab2 (by omega)
  have xab2 := lmul (k := 12884901888) nc4 zab2 (by omega)
  have wab2 := lle (k := 68719476736) xab2 (by omega)
  have t0 := lle (k := 17179869184) zbc0 (by omega)
  have u0 := ladd (k := 12884901889) xbc0 xca0 (by omega)
  have ul0 := lle (k := 68719476736) u0 (by omega)
  have S0 := ladd (k := 34359738368) u0 xab0 (by omega)
  have t1 := lle (k := 17179869184) zbc1 (by omega)
  have u1 := ladd (k := 12884901889) xbc1 xca1 (by omega)
  have ul1 := lle (k := 68719476736) u1 (by omega)
  have S1 := ladd (k := 34359738368) u1 xab1 (by omega)
  have t2 := lle (k := 17179869184) zbc2 (by omega)
  have u2 := ladd (k := 12884901889) xbc2 xca2 (by omega)
  have ul2 := lle (k := 68719476736) u2 (by omega)
  have S2 := ladd (k := 34359738368) u2 xab2 (by omega)
  have W0 := ladd (k := 34359738368) (ladd (k := 17179869184) (lmul (k := 12884901888) na1 zbc0 (by omega)) (lmul (k := 12884901888) na2 zbc1 (by omega)) (by omega)) (lmul (k := 12884901888) na3 zbc2 (by omega)) (by omega)
  have z0 : sv false [] = 0 := rfl
  have zl0 : (bl (Int.natAbs 0)).length ≤ 34359738368 := by rw [show Int.natAbs 0 = 0 from rfl, bl_zero]; exact Nat.zero_le _
  have zs0 : sv false (bl (Int.natAbs 0)) = 0 := by rw [sv_bl]; rfl
  have i1 : IntKind.i64.wrap 1 = 1 := i64_in _ (by omega)
  have i2 : IntKind.i64.wrap 2 = 2 := i64_in _ (by omega)
  have i3 : IntKind.i64.wrap 3 = 3 := i64_in _ (by omega)
  have i4 : IntKind.i64.wrap 4 = 4 := i64_in _ (by omega)
  have m1 : Int.tmod 1 3 = 1 := rfl
  have m2 : Int.tmod 2 3 = 2 := rfl
  have m3 : Int.tmod 3 3 = 0 := rfl
  have m4 : Int.tmod 4 3 = 1 := rfl
  split at hG
  · rename_i hw
    cases hG
    refine ⟨rfl, by simp, ?_⟩
    simp only [c11, initT, List.zipIdx_cons, List.zipIdx_nil, List.map_cons, List.map_nil, Nat.reduceAdd]
    simp only [↓R0, R1, rdL, rdH, isCall, istep, ibin, vcells, fillI, setR, flat, okCell, isBase, List.set, List.drop, List.take, List.append, bnds, bhi, blo, srcOf, ↓reduceIte, Nat.reduceEqDiff, Nat.reduceAdd, Nat.reduceLeDiff, reduceCtorEq, Nat.reduceSub, Int.reduceEq, Int.reduceLT, Int.reduceLE, Int.reduceGT, Int.reduceGE, Int.reduceSub, Int.reduceAdd, Int.reduceMul, Int.reduceNe, Int.reduceNeg, Int.reduceToNat, Nat.reduceMul]
    refine lp_step ?_
    simp only [↓R0, R1, rdL, rdH, isCall, istep, ibin, vcells, fillI, setR, flat, okCell, isBase, List.set, List.drop, List.take, List.append, bnds, bhi, blo, srcOf, ↓reduceIte, Nat.reduceEqDiff, Nat.reduceAdd, Nat.reduceLeDiff, reduceCtorEq, Nat.reduceSub, Int.reduceEq, Int.reduceLT, Int.reduceLE, Int.reduceGT, Int.reduceGE, Int.reduceSub, Int.reduceAdd, Int.reduceMul, Int.reduceNe, Int.reduceNeg, Int.reduceToNat, Nat.reduceMul, ra1, qa1, ra2, qa2, ra3, qa3, ra4, rb1, qb1, rb2, qb2, rb3, qb3, rb4, rc1, qc1, rc2, qc2, rc3, qc3, rc4, ebc0, ybc0, wbc0, ebc1, ybc1, wbc1, ebc2, ybc2, wbc2, eca0, yca0, wca0, eca1, yca1, wca1, eca2, yca2, wca2, eab0, yab0, wab0, eab1, yab1, wab1, eab2, yab2, wab2, t0, ul0, S0, t1, ul1, S1, t2, ul2, S2, W0, z0, Int.zero_add, Nat.zero_le, i1, i2, i3, i4, m1, m2, m3, m4, spXNormal, spXCross, tE, spIMul, spIAdd, iE]
    refine lp_step ?_
    simp only [↓R0, R1, rdL, rdH, isCall, istep, ibin, vcells, fillI, setR, flat, okCell, isBase, List.set, List.drop, List.take, List.append, bnds, bhi, blo, srcOf, ↓reduceIte, Nat.reduceEqDiff, Nat.reduceAdd, Nat.reduceLeDiff, reduceCtorEq, Nat.reduceSub, Int.reduceEq, Int.reduceLT, Int.reduceLE, Int.reduceGT, Int.reduceGE, Int.reduceSub, Int.reduceAdd, Int.reduceMul, Int.reduceNe, Int.reduceNeg, Int.reduceToNat, Nat.reduceMul, ra1, qa1, ra2, qa2, ra3, qa3, ra4, rb1, qb1, rb2, qb2, rb3, qb3, rb4, rc1, qc1, rc2, qc2, rc3, qc3, rc4, ebc0, ybc0, wbc0, ebc1, ybc1, wbc1, ebc2, ybc2, wbc2, eca0, yca0, wca0, eca1, yca1, wca1, eca2, yca2, wca2, eab0, yab0, wab0, eab1, yab1, wab1, eab2, yab2, wab2, t0, ul0, S0, t1, ul1, S1, t2, ul2, S2, W0, z0, Int.zero_add, Nat.zero_le, i1, i2, i3, i4, m1, m2, m3, m4, spXNormal, spXCross, tE, spIMul, spIAdd, iE]
    refine lp_step ?_
    simp only [↓R0, R1, rdL, rdH, isCall, istep, ibin, vcells, fillI, setR, flat, okCell, isBase, List.set, List.drop, List.take, List.append, bnds, bhi, blo, srcOf, ↓reduceIte, Nat.reduceEqDiff, Nat.reduceAdd, Nat.reduceLeDiff, reduceCtorEq, Nat.reduceSub, Int.reduceEq, Int.reduceLT, Int.reduceLE, Int.reduceGT, Int.reduceGE, Int.reduceSub, Int.reduceAdd, Int.reduceMul, Int.reduceNe, Int.reduceNeg, Int.reduceToNat, Nat.reduceMul, ra1, qa1, ra2, qa2, ra3, qa3, ra4, rb1, qb1, rb2, qb2, rb3, qb3, rb4, rc1, qc1, rc2, qc2, rc3, qc3, rc4, ebc0, ybc0, wbc0, ebc1, ybc1, wbc1, ebc2, ybc2, wbc2, eca0, yca0, wca0, eca1, yca1, wca1, eca2, yca2, wca2, eab0, yab0, wab0, eab1, yab1, wab1, eab2, yab2, wab2, t0, ul0, S0, t1, ul1, S1, t2, ul2, S2, W0, z0, Int.zero_add, Nat.zero_le, i1, i2, i3, i4, m1, m2, m3, m4, spXNormal, spXCross, tE, spIMul, spIAdd, iE]
    refine lp_step ?_
    simp only [↓R0, R1, rdL, rdH, isCall, istep, ibin, vcells, fillI, setR, flat, okCell, isBase, List.set, List.drop, List.take, List.append, bnds, bhi, blo, srcOf, ↓reduceIte, Nat.reduceEqDiff, Nat.reduceAdd, Nat.reduceLeDiff, reduceCtorEq, Nat.reduceSub, Int.reduceEq, Int.reduceLT, Int.reduceLE, Int.reduceGT, Int.reduceGE, Int.reduceSub, Int.reduceAdd, Int.reduceMul, Int.reduceNe, Int.reduceNeg, Int.reduceToNat, Nat.reduceMul, ra1, qa1, ra2, qa2, ra3, qa3, ra4, rb1, qb1, rb2, qb2, rb3, qb3, rb4, rc1, qc1, rc2, qc2, rc3, qc3, rc4, ebc0, ybc0, wbc0, ebc1, ybc1, wbc1, ebc2, ybc2, wbc2, eca0, yca0, wca0, eca1, yca1, wca1, eca2, yca2, wca2, eab0, yab0, wab0, eab1, yab1, wab1, eab2, yab2, wab2, t0, ul0, S0, t1, ul1, S1, t2, ul2, S2, W0, z0, Int.zero_add, Nat.zero_le, i1, i2, i3, i4, m1, m2, m3, m4, spXNormal, spXCross, tE, spIMul, spIAdd, iE]
    refine lp_step ?_
    simp only [↓R0, R1, rdL, rdH, isCall, istep, ibin, vcells, fillI, setR, flat, okCell, isBase, List.set, List.drop, List.take, List.append, bnds, bhi, blo, srcOf, ↓reduceIte, Nat.reduceEqDiff, Nat.reduceAdd, Nat.reduceLeDiff, reduceCtorEq, Nat.reduceSub, Int.reduceEq, Int.reduceLT, Int.reduceLE, Int.reduceGT, Int.reduceGE, Int.reduceSub, Int.reduceAdd, Int.reduceMul, Int.reduceNe, Int.reduceNeg, Int.reduceToNat, Nat.reduceMul, ra1, qa1, ra2, qa2, ra3, qa3, ra4, rb1, qb1, rb2, qb2, rb3, qb3, rb4, rc1, qc1, rc2, qc2, rc3, qc3, rc4, ebc0, ybc0, wbc0, ebc1, ybc1, wbc1, ebc2, ybc2, wbc2, eca0, yca0, wca0, eca1, yca1, wca1, eca2, yca2, wca2, eab0, yab0, wab0, eab1, yab1, wab1, eab2, yab2, wab2, t0, ul0, S0, t1, ul1, S1, t2, ul2, S2, W0, z0, Int.zero_add, Nat.zero_le, i1, i2, i3, i4, m1, m2, m3, m4, spXNormal, spXCross, tE, spIMul, spIAdd, iE]
    refine lp_step ?_
    simp only [↓R0, R1, rdL, rdH, isCall, istep, ibin, vcells, fillI, setR, flat, okCell, isBase, List.set, List.drop, List.take, List.append, bnds, bhi, blo, srcOf, ↓reduceIte, Nat.reduceEqDiff, Nat.reduceAdd, Nat.reduceLeDiff, reduceCtorEq, Nat.reduceSub, Int.reduceEq, Int.reduceLT, Int.reduceLE, Int.reduceGT, Int.reduceGE, Int.reduceSub, Int.reduceAdd, Int.reduceMul, Int.reduceNe, Int.reduceNeg, Int.reduceToNat, Nat.reduceMul, ra1, qa1, ra2, qa2, ra3, qa3, ra4, rb1, qb1, rb2, qb2, rb3, qb3, rb4, rc1, qc1, rc2, qc2, rc3, qc3, rc4, ebc0, ybc0, wbc0, ebc1, ybc1, wbc1, ebc2, ybc2, wbc2, eca0, yca0, wca0, eca1, yca1, wca1, eca2, yca2, wca2, eab0, yab0, wab0, eab1, yab1, wab1, eab2, yab2, wab2, t0, ul0, S0, t1, ul1, S1, t2, ul2, S2, W0, z0, Int.zero_add, Nat.zero_le, i1, i2, i3, i4, m1, m2, m3, m4, spXNormal, spXCross, tE, spIMul, spIAdd, iE]
    refine lp_step ?_
    simp only [↓R0, R1, rdL, rdH, isCall, istep, ibin, vcells, fillI, setR, flat, okCell, isBase, List.set, List.drop, List.take, List.append, bnds, bhi, blo, srcOf, ↓reduceIte, Nat.reduceEqDiff, Nat.reduceAdd, Nat.reduceLeDiff, reduceCtorEq, Nat.reduceSub, Int.reduceEq, Int.reduceLT, Int.reduceLE, Int.reduceGT, Int.reduceGE, Int.reduceSub, Int.reduceAdd, Int.reduceMul, Int.reduceNe, Int.reduceNeg, Int.reduceToNat, Nat.reduceMul, ra1, qa1, ra2, qa2, ra3, qa3, ra4, rb1, qb1, rb2, qb2, rb3, qb3, rb4, rc1, qc1, rc2, qc2, rc3, qc3, rc4, ebc0, ybc0, wbc0, ebc1, ybc1, wbc1, ebc2, ybc2, wbc2, eca0, yca0, wca0, eca1, yca1, wca1, eca2, yca2, wca2, eab0, yab0, wab0, eab1, yab1, wab1, eab2, yab2, wab2, t0, ul0, S0, t1, ul1, S1, t2, ul2, S2, W0, z0, Int.zero_add, Nat.zero_le, i1, i2, i3, i4, m1, m2, m3, m4, spXNormal, spXCross, tE, spIMul, spIAdd, iE]
    refine lp_step ?_
    simp only [↓R0, R1, rdL, rdH, isCall, istep, ibin, vcells, fillI, setR, flat, okCell, isBase, List.set, List.drop, List.take, List.append, bnds, bhi, blo, srcOf, ↓reduceIte, Nat.reduceEqDiff, Nat.reduceAdd, Nat.reduceLeDiff, reduceCtorEq, Nat.reduceSub, Int.reduceEq, Int.reduceLT, Int.reduceLE, Int.reduceGT, Int.reduceGE, Int.reduceSub, Int.reduceAdd, Int.reduceMul, Int.reduceNe, Int.reduceNeg, Int.reduceToNat, Nat.reduceMul, ra1, qa1, ra2, qa2, ra3, qa3, ra4, rb1, qb1, rb2, qb2, rb3, qb3, rb4, rc1, qc1, rc2, qc2, rc3, qc3, rc4, ebc0, ybc0, wbc0, ebc1, ybc1, wbc1, ebc2, ybc2, wbc2, eca0, yca0, wca0, eca1, yca1, wca1, eca2, yca2, wca2, eab0, yab0, wab0, eab1, yab1, wab1, eab2, yab2, wab2, t0, ul0, S0, t1, ul1, S1, t2, ul2, S2, W0, z0, Int.zero_add, Nat.zero_le, i1, i2, i3, i4, m1, m2, m3, m4, spXNormal, spXCross, tE, spIMul, spIAdd, iE]
    refine lp_step ?_
    simp only [↓R0, R1, rdL, rdH, isCall, istep, ibin, vcells, fillI, setR, flat, okCell, isBase, List.set, List.drop, List.take, List.append, bnds, bhi, blo, srcOf, ↓reduceIte, Nat.reduceEqDiff, Nat.reduceAdd, Nat.reduceLeDiff, reduceCtorEq, Nat.reduceSub, Int.reduceEq, Int.reduceLT, Int.reduceLE, Int.reduceGT, Int.reduceGE, Int.reduceSub, Int.reduceAdd, Int.reduceMul, Int.reduceNe, Int.reduceNeg, Int.reduceToNat, Nat.reduceMul, ra1, qa1, ra2, qa2, ra3, qa3, ra4, rb1, qb1, rb2, qb2, rb3, qb3, rb4, rc1, qc1, rc2, qc2, rc3, qc3, rc4, ebc0, ybc0, wbc0, ebc1, ybc1, wbc1, ebc2, ybc2, wbc2, eca0, yca0, wca0, eca1, yca1, wca1, eca2, yca2, wca2, eab0, yab0, wab0, eab1, yab1, wab1, eab2, yab2, wab2, t0, ul0, S0, t1, ul1, S1, t2, ul2, S2, W0, z0, Int.zero_add, Nat.zero_le, i1, i2, i3, i4, m1, m2, m3, m4, spXNormal, spXCross, tE, spIMul, spIAdd, iE]
    refine lp_step ?_
    simp only [↓R0, R1, rdL, rdH, isCall, istep, ibin, vcells, fillI, setR, flat, okCell, isBase, List.set, List.drop, List.take, List.append, bnds, bhi, blo, srcOf, ↓reduceIte, Nat.reduceEqDiff, Nat.reduceAdd, Nat.reduceLeDiff, reduceCtorEq, Nat.reduceSub, Int.reduceEq, Int.reduceLT, Int.reduceLE, Int.reduceGT, Int.reduceGE, Int.reduceSub, Int.reduceAdd, Int.reduceMul, Int.reduceNe, Int.reduceNeg, Int.reduceToNat, Nat.reduceMul, ra1, qa1, ra2, qa2, ra3, qa3, ra4, rb1, qb1, rb2, qb2, rb3, qb3, rb4, rc1, qc1, rc2, qc2, rc3, qc3, rc4, ebc0, ybc0, wbc0, ebc1, ybc1, wbc1, ebc2, ybc2, wbc2, eca0, yca0, wca0, eca1, yca1, wca1, eca2, yca2, wca2, eab0, yab0, wab0, eab1, yab1, wab1, eab2, yab2, wab2, t0, ul0, S0, t1, ul1, S1, t2, ul2, S2, W0, z0, Int.zero_add, Nat.zero_le, i1, i2, i3, i4, m1, m2, m3, m4, spXNormal, spXCross, tE, spIMul, spIAdd, iE]
    refine lp_step ?_
    simp only [↓R0, R1, rdL, rdH, isCall, istep, ibin, vcells, fillI, setR, flat, okCell, isBase, List.set, List.drop, List.take, List.append, bnds, bhi, blo, srcOf, ↓reduceIte, Nat.reduceEqDiff, Nat.reduceAdd, Nat.reduceLeDiff, reduceCtorEq, Nat.reduceSub, Int.reduceEq, Int.reduceLT, Int.reduceLE, Int.reduceGT, Int.reduceGE, Int.reduceSub, Int.reduceAdd, Int.reduceMul, Int.reduceNe, Int.reduceNeg, Int.reduceToNat, Nat.reduceMul, ra1, qa1, ra2, qa2, ra3, qa3, ra4, rb1, qb1, rb2, qb2, rb3, qb3, rb4, rc1, qc1, rc2, qc2, rc3, qc3, rc4, ebc0, ybc0, wbc0, ebc1, ybc1, wbc1, ebc2, ybc2, wbc2, eca0, yca0, wca0, eca1, yca1, wca1, eca2, yca2, wca2, eab0, yab0, wab0, eab1, yab1, wab1, eab2, yab2, wab2, t0, ul0, S0, t1, ul1, S1, t2, ul2, S2, W0, z0, Int.zero_add, Nat.zero_le, i1, i2, i3, i4, m1, m2, m3, m4, spXNormal, spXCross, tE, spIMul, spIAdd, iE]
    refine lp_step ?_
    simp only [↓R0, R1, rdL, rdH, isCall, istep, ibin, vcells, fillI, setR, flat, okCell, isBase, List.set, List.drop, List.take, List.append, bnds, bhi, blo, srcOf, ↓reduceIte, Nat.reduceEqDiff, Nat.reduceAdd, Nat.reduceLeDiff, reduceCtorEq, Nat.reduceSub, Int.reduceEq, Int.reduceLT, Int.reduceLE, Int.reduceGT, Int.reduceGE, Int.reduceSub, Int.reduceAdd, Int.reduceMul, Int.reduceNe, Int.reduceNeg, Int.reduceToNat, Nat.reduceMul, ra1, qa1, ra2, qa2, ra3, qa3, ra4, rb1, qb1, rb2, qb2, rb3, qb3, rb4, rc1, qc1, rc2, qc2, rc3, qc3, rc4, ebc0, ybc0, wbc0, ebc1, ybc1, wbc1, ebc2, ybc2, wbc2, eca0, yca0, wca0, eca1, yca1, wca1, eca2, yca2, wca2, eab0, yab0, wab0, eab1, yab1, wab1, eab2, yab2, wab2, t0, ul0, S0, t1, ul1, S1, t2, ul2, S2, W0, z0, Int.zero_add, Nat.zero_le, i1, i2, i3, i4, m1, m2, m3, m4, spXNormal, spXCross, tE, spIMul, spIAdd, iE]
    refine lp_step ?_
    simp only [↓R0, R1, rdL, rdH, isCall, istep, ibin, vcells, fillI, setR, flat, okCell, isBase, List.set, List.drop, List.take, List.append, bnds, bhi, blo, srcOf, ↓reduceIte, Nat.reduceEqDiff, Nat.reduceAdd, Nat.reduceLeDiff, reduceCtorEq, Nat.reduceSub, Int.reduceEq, Int.reduceLT, Int.reduceLE, Int.reduceGT, Int.reduceGE, Int.reduceSub, Int.reduceAdd, Int.reduceMul, Int.reduceNe, Int.reduceNeg, Int.reduceToNat, Nat.reduceMul, ra1, qa1, ra2, qa2, ra3, qa3, ra4, rb1, qb1, rb2, qb2, rb3, qb3, rb4, rc1, qc1, rc2, qc2, rc3, qc3, rc4, ebc0, ybc0, wbc0, ebc1, ybc1, wbc1, ebc2, ybc2, wbc2, eca0, yca0, wca0, eca1, yca1, wca1, eca2, yca2, wca2, eab0, yab0, wab0, eab1, yab1, wab1, eab2, yab2, wab2, t0, ul0, S0, t1, ul1, S1, t2, ul2, S2, W0, z0, Int.zero_add, Nat.zero_le, i1, i2, i3, i4, m1, m2, m3, m4, spXNormal, spXCross, tE, spIMul, spIAdd, iE]
    refine lp_step ?_
    simp only [↓R0, R1, rdL, rdH, isCall, istep, ibin, vcells, fillI, setR, flat, okCell, isBase, List.set, List.drop, List.take, List.append, bnds, bhi, blo, srcOf, ↓reduceIte, Nat.reduceEqDiff, Nat.reduceAdd, Nat.reduceLeDiff, reduceCtorEq, Nat.reduceSub, Int.reduceEq, Int.reduceLT, Int.reduceLE, Int.reduceGT, Int.reduceGE, Int.reduceSub, Int.reduceAdd, Int.reduceMul, Int.reduceNe, Int.reduceNeg, Int.reduceToNat, Nat.reduceMul, ra1, qa1, ra2, qa2, ra3, qa3, ra4, rb1, qb1, rb2, qb2, rb3, qb3, rb4, rc1, qc1, rc2, qc2, rc3, qc3, rc4, ebc0, ybc0, wbc0, ebc1, ybc1, wbc1, ebc2, ybc2, wbc2, eca0, yca0, wca0, eca1, yca1, wca1, eca2, yca2, wca2, eab0, yab0, wab0, eab1, yab1, wab1, eab2, yab2, wab2, t0, ul0, S0, t1, ul1, S1, t2, ul2, S2, W0, z0, Int.zero_add, Nat.zero_le, i1, i2, i3, i4, m1, m2, m3, m4, spXNormal, spXCross, tE, spIMul, spIAdd, iE]
    refine lp_step ?_
    simp only [↓R0, R1, rdL, rdH, isCall, istep, ibin, vcells, fillI, setR, flat, okCell, isBase, List.set, List.drop, List.take, List.append, bnds, bhi, blo, srcOf, ↓reduceIte, Nat.reduceEqDiff, Nat.reduceAdd, Nat.reduceLeDiff, reduceCtorEq, Nat.reduceSub, Int.reduceEq, Int.reduceLT, Int.reduceLE, Int.reduceGT, Int.reduceGE, Int.reduceSub, Int.reduceAdd, Int.reduceMul, Int.reduceNe, Int.reduceNeg, Int.reduceToNat, Nat.reduceMul, ra1, qa1, ra2, qa2, ra3, qa3, ra4, rb1, qb1, rb2, qb2, rb3, qb3, rb4, rc1, qc1, rc2, qc2, rc3, qc3, rc4, ebc0, ybc0, wbc0, ebc1, ybc1, wbc1, ebc2, ybc2, wbc2, eca0, yca0, wca0, eca1, yca1, wca1, eca2, yca2, wca2, eab0, yab0, wab0, eab1, yab1, wab1, eab2, yab2, wab2, t0, ul0, S0, t1, ul1, S1, t2, ul2, S2, W0, z0, Int.zero_add, Nat.zero_le, i1, i2, i3, i4, m1, m2, m3, m4, spXNormal, spXCross, tE, spIMul, spIAdd, iE]
    refine lp_step ?_
    simp only [↓R0, R1, rdL, rdH, isCall, istep, ibin, vcells, fillI, setR, flat, okCell, isBase, List.set, List.drop, List.take, List.append, bnds, bhi, blo, srcOf, ↓reduceIte, Nat.reduceEqDiff, Nat.reduceAdd, Nat.reduceLeDiff, reduceCtorEq, Nat.reduceSub, Int.reduceEq, Int.reduceLT, Int.reduceLE, Int.reduceGT, Int.reduceGE, Int.reduceSub, Int.reduceAdd, Int.reduceMul, Int.reduceNe, Int.reduceNeg, Int.reduceToNat, Nat.reduceMul, ra1, qa1, ra2, qa2, ra3, qa3, ra4, rb1, qb1, rb2, qb2, rb3, qb3, rb4, rc1, qc1, rc2, qc2, rc3, qc3, rc4, ebc0, ybc0, wbc0, ebc1, ybc1, wbc1, ebc2, ybc2, wbc2, eca0, yca0, wca0, eca1, yca1, wca1, eca2, yca2, wca2, eab0, yab0, wab0, eab1, yab1, wab1, eab2, yab2, wab2, t0, ul0, S0, t1, ul1, S1, t2, ul2, S2, W0, z0, Int.zero_add, Nat.zero_le, spXNormal, spXCross, tE, spXDot, spXMade, hw, zl0, zs0, Int.lt_irrefl, pZ, pE, Fin, isEnd, resL, res1, iE, rE]
    exact ⟨_, rfl, rfl, fun k hk => by simp only [ne_nb hk, if_false]⟩
  · rename_i hw
    cases hG
    refine ⟨rfl, by simp, ?_⟩
    simp only [c11, initT, List.zipIdx_cons, List.zipIdx_nil, List.map_cons, List.map_nil, Nat.reduceAdd]
    simp only [↓R0, R1, rdL, rdH, isCall, istep, ibin, vcells, fillI, setR, flat, okCell, isBase, List.set, List.drop, List.take, List.append, bnds, bhi, blo, srcOf, ↓reduceIte, Nat.reduceEqDiff, Nat.reduceAdd, Nat.reduceLeDiff, reduceCtorEq, Nat.reduceSub, Int.reduceEq, Int.reduceLT, Int.reduceLE, Int.reduceGT, Int.reduceGE, Int.reduceSub, Int.reduceAdd, Int.reduceMul, Int.reduceNe, Int.reduceNeg, Int.reduceToNat, Nat.reduceMul]
    refine lp_step ?_
    simp only [↓R0, R1, rdL, rdH, isCall, istep, ibin, vcells, fillI, setR, flat, okCell, isBase, List.set, List.drop, List.take, List.append, bnds, bhi, blo, srcOf, ↓reduceIte, Nat.reduceEqDiff, Nat.reduceAdd, Nat.reduceLeDiff, reduceCtorEq, Nat.reduceSub, Int.reduceEq, Int.reduceLT, Int.reduceLE, Int.reduceGT, Int.reduceGE, Int.reduceSub, Int.reduceAdd, Int.reduceMul, Int.reduceNe, Int.reduceNeg, Int.reduceToNat, Nat.reduceMul, ra1, qa1, ra2, qa2, ra3, qa3, ra4, rb1, qb1, rb2, qb2, rb3, qb3, rb4, rc1, qc1, rc2, qc2, rc3, qc3, rc4, ebc0, ybc0, wbc0, ebc1, ybc1, wbc1, ebc2, ybc2, wbc2, eca0, yca0, wca0, eca1, yca1, wca1, eca2, yca2, wca2, eab0, yab0, wab0, eab1, yab1, wab1, eab2, yab2, wab2, t0, ul0, S0, t1, ul1, S1, t2, ul2, S2, W0, z0, Int.zero_add, Nat.zero_le, i1, i2, i3, i4, m1, m2, m3, m4, spXNormal, spXCross, tE, spIMul, spIAdd, iE]
    refine lp_step ?_
    simp only [↓R0, R1, rdL, rdH, isCall, istep, ibin, vcells, fillI, setR, flat, okCell, isBase, List.set, List.drop, List.take, List.append, bnds, bhi, blo, srcOf, ↓reduceIte, Nat.reduceEqDiff, Nat.reduceAdd, Nat.reduceLeDiff, reduceCtorEq, Nat.reduceSub, Int.reduceEq, Int.reduceLT, Int.reduceLE, Int.reduceGT, Int.reduceGE, Int.reduceSub, Int.reduceAdd, Int.reduceMul, Int.reduceNe, Int.reduceNeg, Int.reduceToNat, Nat.reduceMul, ra1, qa1, ra2, qa2, ra3, qa3, ra4, rb1, qb1, rb2, qb2, rb3, qb3, rb4, rc1, qc1, rc2, qc2, rc3, qc3, rc4, ebc0, ybc0, wbc0, ebc1, ybc1, wbc1, ebc2, ybc2, wbc2, eca0, yca0, wca0, eca1, yca1, wca1, eca2, yca2, wca2, eab0, yab0, wab0, eab1, yab1, wab1, eab2, yab2, wab2, t0, ul0, S0, t1, ul1, S1, t2, ul2, S2, W0, z0, Int.zero_add, Nat.zero_le, i1, i2, i3, i4, m1, m2, m3, m4, spXNormal, spXCross, tE, spIMul, spIAdd, iE]
    refine lp_step ?_
    simp only [↓R0, R1, rdL, rdH, isCall, istep, ibin, vcells, fillI, setR, flat, okCell, isBase, List.set, List.drop, List.take, List.append, bnds, bhi, blo, srcOf, ↓reduceIte, Nat.reduceEqDiff, Nat.reduceAdd, Nat.reduceLeDiff, reduceCtorEq, Nat.reduceSub, Int.reduceEq, Int.reduceLT, Int.reduceLE, Int.reduceGT, Int.reduceGE, Int.reduceSub, Int.reduceAdd, Int.reduceMul, Int.reduceNe, Int.reduceNeg, Int.reduceToNat, Nat.reduceMul, ra1, qa1, ra2, qa2, ra3, qa3, ra4, rb1, qb1, rb2, qb2, rb3, qb3, rb4, rc1, qc1, rc2, qc2, rc3, qc3, rc4, ebc0, ybc0, wbc0, ebc1, ybc1, wbc1, ebc2, ybc2, wbc2, eca0, yca0, wca0, eca1, yca1, wca1, eca2, yca2, wca2, eab0, yab0, wab0, eab1, yab1, wab1, eab2, yab2, wab2, t0, ul0, S0, t1, ul1, S1, t2, ul2, S2, W0, z0, Int.zero_add, Nat.zero_le, i1, i2, i3, i4, m1, m2, m3, m4, spXNormal, spXCross, tE, spIMul, spIAdd, iE]
    refine lp_step ?_
    simp only [↓R0, R1, rdL, rdH, isCall, istep, ibin, vcells, fillI, setR, flat, okCell, isBase, List.set, List.drop, List.take, List.append, bnds, bhi, blo, srcOf, ↓reduceIte, Nat.reduceEqDiff, Nat.reduceAdd, Nat.reduceLeDiff, reduceCtorEq, Nat.reduceSub, Int.reduceEq, Int.reduceLT, Int.reduceLE, Int.reduceGT, Int.reduceGE, Int.reduceSub, Int.reduceAdd, Int.reduceMul, Int.reduceNe, Int.reduceNeg, Int.reduceToNat, Nat.reduceMul, ra1, qa1, ra2, qa2, ra3, qa3, ra4, rb1, qb1, rb2, qb2, rb3, qb3, rb4, rc1, qc1, rc2, qc2, rc3, qc3, rc4, ebc0, ybc0, wbc0, ebc1, ybc1, wbc1, ebc2, ybc2, wbc2, eca0, yca0, wca0, eca1, yca1, wca1, eca2, yca2, wca2, eab0, yab0, wab0, eab1, yab1, wab1, eab2, yab2, wab2, t0, ul0, S0, t1, ul1, S1, t2, ul2, S2, W0, z0, Int.zero_add, Nat.zero_le, i1, i2, i3, i4, m1, m2, m3, m4, spXNormal, spXCross, tE, spIMul, spIAdd, iE]
    refine lp_step ?_
    simp only [↓R0, R1, rdL, rdH, isCall, istep, ibin, vcells, fillI, setR, flat, okCell, isBase, List.set, List.drop, List.take, List.append, bnds, bhi, blo, srcOf, ↓reduceIte, Nat.reduceEqDiff, Nat.reduceAdd, Nat.reduceLeDiff, reduceCtorEq, Nat.reduceSub, Int.reduceEq, Int.reduceLT, Int.reduceLE, Int.reduceGT, Int.reduceGE, Int.reduceSub, Int.reduceAdd, Int.reduceMul, Int.reduceNe, Int.reduceNeg, Int.reduceToNat, Nat.reduceMul, ra1, qa1, ra2, qa2, ra3, qa3, ra4, rb1, qb1, rb2, qb2, rb3, qb3, rb4, rc1, qc1, rc2, qc2, rc3, qc3, rc4, ebc0, ybc0, wbc0, ebc1, ybc1, wbc1, ebc2, ybc2, wbc2, eca0, yca0, wca0, eca1, yca1, wca1, eca2, yca2, wca2, eab0, yab0, wab0, eab1, yab1, wab1, eab2, yab2, wab2, t0, ul0, S0, t1, ul1, S1, t2, ul2, S2, W0, z0, Int.zero_add, Nat.zero_le, i1, i2, i3, i4, m1, m2, m3, m4, spXNormal, spXCross, tE, spIMul, spIAdd, iE]
    refine lp_step ?_
    simp only [↓R0, R1, rdL, rdH, isCall, istep, ibin, vcells, fillI, setR, flat, okCell, isBase, List.set, List.drop, List.take, List.append, bnds, bhi, blo, srcOf, ↓reduceIte, Nat.reduceEqDiff, Nat.reduceAdd, Nat.reduceLeDiff, reduceCtorEq, Nat.reduceSub, Int.reduceEq, Int.reduceLT, Int.reduceLE, Int.reduceGT, Int.reduceGE, Int.reduceSub, Int.reduceAdd, Int.reduceMul, Int.reduceNe, Int.reduceNeg, Int.reduceToNat, Nat.reduceMul, ra1, qa1, ra2, qa2, ra3, qa3, ra4, rb1, qb1, rb2, qb2, rb3, qb3, rb4, rc1, qc1, rc2, qc2, rc3, qc3, rc4, ebc0, ybc0, wbc0, ebc1, ybc1, wbc1, ebc2, ybc2, wbc2, eca0, yca0, wca0, eca1, yca1, wca1, eca2, yca2, wca2, eab0, yab0, wab0, eab1, yab1, wab1, eab2, yab2, wab2, t0, ul0, S0, t1, ul1, S1, t2, ul2, S2, W0, z0, Int.zero_add, Nat.zero_le, i1, i2, i3, i4, m1, m2, m3, m4, spXNormal, spXCross, tE, spIMul, spIAdd, iE]
    refine lp_step ?_
    simp only [↓R0, R1, rdL, rdH, isCall, istep, ibin, vcells, fillI, setR, flat, okCell, isBase, List.set, List.drop, List.take, List.append, bnds, bhi, blo, srcOf, ↓reduceIte, Nat.reduceEqDiff, Nat.reduceAdd, Nat.reduceLeDiff, reduceCtorEq, Nat.reduceSub, Int.reduceEq, Int.reduceLT, Int.reduceLE, Int.reduceGT, Int.reduceGE, Int.reduceSub, Int.reduceAdd, Int.reduceMul, Int.reduceNe, Int.reduceNeg, Int.reduceToNat, Nat.reduceMul, ra1, qa1, ra2, qa2, ra3, qa3, ra4, rb1, qb1, rb2, qb2, rb3, qb3, rb4, rc1, qc1, rc2, qc2, rc3, qc3, rc4, ebc0, ybc0, wbc0, ebc1, ybc1, wbc1, ebc2, ybc2, wbc2, eca0, yca0, wca0, eca1, yca1, wca1, eca2, yca2, wca2, eab0, yab0, wab0, eab1, yab1, wab1, eab2, yab2, wab2, t0, ul0, S0, t1, ul1, S1, t2, ul2, S2, W0, z0, Int.zero_add, Nat.zero_le, i1, i2, i3, i4, m1, m2, m3, m4, spXNormal, spXCross, tE, spIMul, spIAdd, iE]
    refine lp_step ?_
    simp only [↓R0, R1, rdL, rdH, isCall, istep, ibin, vcells, fillI, setR, flat, okCell, isBase, List.set, List.drop, List.take, List.append, bnds, bhi, blo, srcOf, ↓reduceIte, Nat.reduceEqDiff, Nat.reduceAdd, Nat.reduceLeDiff, reduceCtorEq, Nat.reduceSub, Int.reduceEq, Int.reduceLT, Int.reduceLE, Int.reduceGT, Int.reduceGE, Int.reduceSub, Int.reduceAdd, Int.reduceMul, Int.reduceNe, Int.reduceNeg, Int.reduceToNat, Nat.reduceMul, ra1, qa1, ra2, qa2, ra3, qa3, ra4, rb1, qb1, rb2, qb2, rb3, qb3, rb4, rc1, qc1, rc2, qc2, rc3, qc3, rc4, ebc0, ybc0, wbc0, ebc1, ybc1, wbc1, ebc2, ybc2, wbc2, eca0, yca0, wca0, eca1, yca1, wca1, eca2, yca2, wca2, eab0, yab0, wab0, eab1, yab1, wab1, eab2, yab2, wab2, t0, ul0, S0, t1, ul1, S1, t2, ul2, S2, W0, z0, Int.zero_add, Nat.zero_le, i1, i2, i3, i4, m1, m2, m3, m4, spXNormal, spXCross, tE, spIMul, spIAdd, iE]
    refine lp_step ?_
    simp only [↓R0, R1, rdL, rdH, isCall, istep, ibin, vcells, fillI, setR, flat, okCell, isBase, List.set, List.drop, List.take, List.append, bnds, bhi, blo, srcOf, ↓reduceIte, Nat.reduceEqDiff, Nat.reduceAdd, Nat.reduceLeDiff, reduceCtorEq, Nat.reduceSub, Int.reduceEq, Int.reduceLT, Int.reduceLE, Int.reduceGT, Int.reduceGE, Int.reduceSub, Int.reduceAdd, Int.reduceMul, Int.reduceNe, Int.reduceNeg, Int.reduceToNat, Nat.reduceMul, ra1, qa1, ra2, qa2, ra3, qa3, ra4, rb1, qb1, rb2, qb2, rb3, qb3, rb4, rc1, qc1, rc2, qc2, rc3, qc3, rc4, ebc0, ybc0, wbc0, ebc1, ybc1, wbc1, ebc2, ybc2, wbc2, eca0, yca0, wca0, eca1, yca1, wca1, eca2, yca2, wca2, eab0, yab0, wab0, eab1, yab1, wab1, eab2, yab2, wab2, t0, ul0, S0, t1, ul1, S1, t2, ul2, S2, W0, z0, Int.zero_add, Nat.zero_le, i1, i2, i3, i4, m1, m2, m3, m4, spXNormal, spXCross, tE, spIMul, spIAdd, iE]
    refine lp_step ?_
    simp only [↓R0, R1, rdL, rdH, isCall, istep, ibin, vcells, fillI, setR, flat, okCell, isBase, List.set, List.drop, List.take, List.append, bnds, bhi, blo, srcOf, ↓reduceIte, Nat.reduceEqDiff, Nat.reduceAdd, Nat.reduceLeDiff, reduceCtorEq, Nat.reduceSub, Int.reduceEq, Int.reduceLT, Int.reduceLE, Int.reduceGT, Int.reduceGE, Int.reduceSub, Int.reduceAdd, Int.reduceMul, Int.reduceNe, Int.reduceNeg, Int.reduceToNat, Nat.reduceMul, ra1, qa1, ra2, qa2, ra3, qa3, ra4, rb1, qb1, rb2, qb2, rb3, qb3, rb4, rc1, qc1, rc2, qc2, rc3, qc3, rc4, ebc0, ybc0, wbc0, ebc1, ybc1, wbc1, ebc2, ybc2, wbc2, eca0, yca0, wca0, eca1, yca1, wca1, eca2, yca2, wca2, eab0, yab0, wab0, eab1, yab1, wab1, eab2, yab2, wab2, t0, ul0, S0, t1, ul1, S1, t2, ul2, S2, W0, z0, Int.zero_add, Nat.zero_le, i1, i2, i3, i4, m1, m2, m3, m4, spXNormal, spXCross, tE, spIMul, spIAdd, iE]
    refine lp_step ?_
    simp only [↓R0, R1, rdL, rdH, isCall, istep, ibin, vcells, fillI, setR, flat, okCell, isBase, List.set, List.drop, List.take, List.append, bnds, bhi, blo, srcOf, ↓reduceIte, Nat.reduceEqDiff, Nat.reduceAdd, Nat.reduceLeDiff, reduceCtorEq, Nat.reduceSub, Int.reduceEq, Int.reduceLT, Int.reduceLE, Int.reduceGT, Int.reduceGE, Int.reduceSub, Int.reduceAdd, Int.reduceMul, Int.reduceNe, Int.reduceNeg, Int.reduceToNat, Nat.reduceMul, ra1, qa1, ra2, qa2, ra3, qa3, ra4, rb1, qb1, rb2, qb2, rb3, qb3, rb4, rc1, qc1, rc2, qc2, rc3, qc3, rc4, ebc0, ybc0, wbc0, ebc1, ybc1, wbc1, ebc2, ybc2, wbc2, eca0, yca0, wca0, eca1, yca1, wca1, eca2, yca2, wca2, eab0, yab0, wab0, eab1, yab1, wab1, eab2, yab2, wab2, t0, ul0, S0, t1, ul1, S1, t2, ul2, S2, W0, z0, Int.zero_add, Nat.zero_le, i1, i2, i3, i4, m1, m2, m3, m4, spXNormal, spXCross, tE, spIMul, spIAdd, iE]
    refine lp_step ?_
    simp only [↓R0, R1, rdL, rdH, isCall, istep, ibin, vcells, fillI, setR, flat, okCell, isBase, List.set, List.drop, List.take, List.append, bnds, bhi, blo, srcOf, ↓reduceIte, Nat.reduceEqDiff, Nat.reduceAdd, Nat.reduceLeDiff, reduceCtorEq, Nat.reduceSub, Int.reduceEq, Int.reduceLT, Int.reduceLE, Int.reduceGT, Int.reduceGE, Int.reduceSub, Int.reduceAdd, Int.reduceMul, Int.reduceNe, Int.reduceNeg, Int.reduceToNat, Nat.reduceMul, ra1, qa1, ra2, qa2, ra3, qa3, ra4, rb1, qb1, rb2, qb2, rb3, qb3, rb4, rc1, qc1, rc2, qc2, rc3, qc3, rc4, ebc0, ybc0, wbc0, ebc1, ybc1, wbc1, ebc2, ybc2, wbc2, eca0, yca0, wca0, eca1, yca1, wca1, eca2, yca2, wca2, eab0, yab0, wab0, eab1, yab1, wab1, eab2, yab2, wab2, t0, ul0, S0, t1, ul1, S1, t2, ul2, S2, W0, z0, Int.zero_add, Nat.zero_le, i1, i2, i3, i4, m1, m2, m3, m4, spXNormal, spXCross, tE, spIMul, spIAdd, iE]
    refine lp_step ?_
    simp only [↓R0, R1, rdL, rdH, isCall, istep, ibin, vcells, fillI, setR, flat, okCell, isBase, List.set, List.drop, List.take, List.append, bnds, bhi, blo, srcOf, ↓reduceIte, Nat.reduceEqDiff, Nat.reduceAdd, Nat.reduceLeDiff, reduceCtorEq, Nat.reduceSub, Int.reduceEq, Int.reduceLT, Int.reduceLE, Int.reduceGT, Int.reduceGE, Int.reduceSub, Int.reduceAdd, Int.reduceMul, Int.reduceNe, Int.reduceNeg, Int.reduceToNat, Nat.reduceMul, ra1, qa1, ra2, qa2, ra3, qa3, ra4, rb1, qb1, rb2, qb2, rb3, qb3, rb4, rc1, qc1, rc2, qc2, rc3, qc3, rc4, ebc0, ybc0, wbc0, ebc1, ybc1, wbc1, ebc2, ybc2, wbc2, eca0, yca0, wca0, eca1, yca1, wca1, eca2, yca2, wca2, eab0, yab0, wab0, eab1, yab1, wab1, eab2, yab2, wab2, t0, ul0, S0, t1, ul1, S1, t2, ul2, S2, W0, z0, Int.zero_add, Nat.zero_le, i1, i2, i3, i4, m1, m2, m3, m4, spXNormal, spXCross, tE, spIMul, spIAdd, iE]
    refine lp_step ?_
    simp only [↓R0, R1, rdL, rdH, isCall, istep, ibin, vcells, fillI, setR, flat, okCell, isBase, List.set, List.drop, List.take, List.append, bnds, bhi, blo, srcOf, ↓reduceIte, Nat.reduceEqDiff, Nat.reduceAdd, Nat.reduceLeDiff, reduceCtorEq, Nat.reduceSub, Int.reduceEq, Int.reduceLT, Int.reduceLE, Int.reduceGT, Int.reduceGE, Int.reduceSub, Int.reduceAdd, Int.reduceMul, Int.reduceNe, Int.reduceNeg, Int.reduceToNat, Nat.reduceMul, ra1, qa1, ra2, qa2, ra3, qa3, ra4, rb1, qb1, rb2, qb2, rb3, qb3, rb4, rc1, qc1, rc2, qc2, rc3, qc3, rc4, ebc0, ybc0, wbc0, ebc1, ybc1, wbc1, ebc2, ybc2, wbc2, eca0, yca0, wca0, eca1, yca1, wca1, eca2, yca2, wca2, eab0, yab0, wab0, eab1, yab1, wab1, eab2, yab2, wab2, t0, ul0, S0, t1, ul1, S1, t2, ul2, S2, W0, z0, Int.zero_add, Nat.zero_le, i1, i2, i3, i4, m1, m2, m3, m4, spXNormal, spXCross, tE, spIMul, spIAdd, iE]
    refine lp_step ?_
    simp only [↓R0, R1, rdL, rdH, isCall, istep, ibin, vcells, fillI, setR, flat, okCell, isBase, List.set, List.drop, List.take, List.append, bnds, bhi, blo, srcOf, ↓reduceIte, Nat.reduceEqDiff, Nat.reduceAdd, Nat.reduceLeDiff, reduceCtorEq, Nat.reduceSub, Int.reduceEq, Int.reduceLT, Int.reduceLE, Int.reduceGT, Int.reduceGE, Int.reduceSub, Int.reduceAdd, Int.reduceMul, Int.reduceNe, Int.reduceNeg, Int.reduceToNat, Nat.reduceMul, ra1, qa1, ra2, qa2, ra3, qa3, ra4, rb1, qb1, rb2, qb2, rb3, qb3, rb4, rc1, qc1, rc2, qc2, rc3, qc3, rc4, ebc0, ybc0, wbc0, ebc1, ybc1, wbc1, ebc2, ybc2, wbc2, eca0, yca0, wca0, eca1, yca1, wca1, eca2, yca2, wca2, eab0, yab0, wab0, eab1, yab1, wab1, eab2, yab2, wab2, t0, ul0, S0, t1, ul1, S1, t2, ul2, S2, W0, z0, Int.zero_add, Nat.zero_le, i1, i2, i3, i4, m1, m2, m3, m4, spXNormal, spXCross, tE, spIMul, spIAdd, iE]
    refine lp_step ?_
    simp only [↓R0, R1, rdL, rdH, isCall, istep, ibin, vcells, fillI, setR, flat, okCell, isBase, List.set, List.drop, List.take, List.append, bnds, bhi, blo, srcOf, ↓reduceIte, Nat.reduceEqDiff, Nat.reduceAdd, Nat.reduceLeDiff, reduceCtorEq, Nat.reduceSub, Int.reduceEq, Int.reduceLT, Int.reduceLE, Int.reduceGT, Int.reduceGE, Int.reduceSub, Int.reduceAdd, Int.reduceMul, Int.reduceNe, Int.reduceNeg, Int.reduceToNat, Nat.reduceMul, ra1, qa1, ra2, qa2, ra3, qa3, ra4, rb1, qb1, rb2, qb2, rb3, qb3, rb4, rc1, qc1, rc2, qc2, rc3, qc3, rc4, ebc0, ybc0, wbc0, ebc1, ybc1, wbc1, ebc2, ybc2, wbc2, eca0, yca0, wca0, eca1, yca1, wca1, eca2, yca2, wca2, eab0, yab0, wab0, eab1, yab1, wab1, eab2, yab2, wab2, t0, ul0, S0, t1, ul1, S1, t2, ul2, S2, W0, z0, Int.zero_add, Nat.zero_le, spXNormal, spXCross, tE, spXDot, spXMade, hw, zl0, zs0, Int.lt_irrefl, pZ, pE, Fin, isEnd, resL, res1, iE, rE]
    exact ⟨_, rfl, rfl, fun k hk => by simp only [ne_nb hk, if_false]⟩
end Go.Eng
end
