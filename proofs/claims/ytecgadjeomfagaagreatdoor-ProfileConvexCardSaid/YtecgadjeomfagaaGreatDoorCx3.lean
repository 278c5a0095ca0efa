/-
  A part of the proof: the machine, the contracts of the functions and the plain laws, merged from smaller texts.
-/
import Derived.Test.YtecgadjeomfagaaGreatDoorCx2
section
set_option linter.unusedVariables false
set_option linter.unusedSimpArgs false
set_option linter.unusedSectionVars false
set_option maxRecDepth 4000
namespace Go.Eng
open Go Go.Proofs Go.IntWalk
def spNMul : List Value → Option Value
  | [.string ⟨⟨l⟩⟩, .string ⟨⟨m⟩⟩] => if l.length ≤ 34359738368 ∧ m.length ≤ 34359738368 then some (.string ⟨⟨bl (nl l * nl m)⟩⟩) else none
  | _ => none
def c76 : ICode :=
  (.seq (.reg [qq 4 (.mv (.c e0))]) (.seq (.reg [qq 12 (.mv (.t 0)), qq 13 (.call 93 [(.t 12)]), qq 14 (.mv (.t 1)), qq 15 (.call 93 [(.t 14)]), qq 5 (.mv (.t 13)), qq 6 (.mv (.t 15))]) (.seq (.reg [qq 16 (.mv (.t 5)), qq 17 (.lensl (.t 16)), qq 18 (.mv (.t 6)), qq 19 (.lensl (.t 18)), qq 20 (.bin .add (.t 17) (.t 19)), qq 21 (.mkslice 84 1 4 [(.int .u32 0)] (.t 20) (.t 20)), qq 7 (.mv (.t 21))]) (.seq (.seq (.reg [qq 22 (.mv (.t 5)), qq 23 (.lensl (.t 22)), qq 24 (.mv (ci 0))]) (.block 0 (.loop (.seq (.reg [qq 25 (.bin .lss (.t 24) (.t 23))]) (.seq (.cond (.t 25) .skip (.exit 0)) (.seq (.block 1 (.seq (.reg [qq 26 (.mv (.t 24)), qq 8 (.mv (.t 26))]) (.seq (.reg [qq 9 (.mv (.c (.int .u64 0)))]) (.seq (.seq (.reg [qq 27 (.mv (.t 6)), qq 28 (.lensl (.t 27)), qq 29 (.mv (ci 0))]) (.block 2 (.loop (.seq (.reg [qq 30 (.bin .lss (.t 29) (.t 28))]) (.seq (.cond (.t 30) .skip (.exit 2)) (.seq (.block 3 (.seq (.reg [qq 31 (.mv (.t 29)), qq 10 (.mv (.t 31))]) (.seq (.dreg [qu 32 (.mv (.t 5)), qu 33 (.mv (.t 8)), qu 34 (.ixsl 1 (.t 32) (.t 33)), qu 35 (.load false 1 (.t 34)), qu 36 (.conv .u64 (.t 35)), qu 37 (.mv (.t 6)), qu 38 (.mv (.t 10)), qu 39 (.ixsl 1 (.t 37) (.t 38)), qu 40 (.load false 1 (.t 39)), qu 41 (.conv .u64 (.t 40)), qu 42 (.bin .mul (.t 36) (.t 41)), qu 43 (.mv (.t 7)), qu 44 (.mv (.t 8)), qu 45 (.mv (.t 10)), qu 46 (.bin .add (.t 44) (.t 45)), qu 47 (.ixsl 1 (.t 43) (.t 46)), qu 48 (.load false 1 (.t 47)), qu 49 (.conv .u64 (.t 48)), qu 50 (.bin .add (.t 42) (.t 49)), qu 51 (.mv (.t 9)), qu 52 (.bin .add (.t 50) (.t 51)), qu 11 (.mv (.t 52))]) (.reg [qq 53 (.mv (.t 7)), qq 54 (.mv (.t 8)), qq 55 (.mv (.t 10)), qq 56 (.bin .add (.t 54) (.t 55)), qq 57 (.mv (.t 11)), qq 58 (.conv .u32 (.t 57)), qq 59 (.mv (.t 11)), qq 60 (.bin .shr (.t 59) (.c (.int .u64 32))), qq 61 (.ixsl 1 (.t 53) (.t 56)), qn (.store 1 (.t 61) (.t 58)), qq 9 (.mv (.t 60))])))) (.reg [qq 62 (.bin .add (.t 29) (ci 1)), qq 29 (.mv (.t 62))]))))))) (.reg [qq 63 (.mv (.t 7)), qq 64 (.mv (.t 8)), qq 65 (.mv (.t 6)), qq 66 (.lensl (.t 65)), qq 67 (.bin .add (.t 64) (.t 66)), qq 68 (.mv (.t 9)), qq 69 (.conv .u32 (.t 68)), qq 70 (.ixsl 1 (.t 63) (.t 67)), qn (.store 1 (.t 70) (.t 69))]))))) (.reg [qq 71 (.bin .add (.t 24) (ci 1)), qq 24 (.mv (.t 71))]))))))) (.seq (.reg [qq 72 (.mv (.t 7)), qq 73 (.call 89 [(.t 72)]), qq 4 (.mv (.t 73))]) .ret)))))
theorem tr76 : trFun Tryz.prog 76 = some ⟨74, [.t 4], c76⟩ := by kernel_rfl
set_option maxHeartbeats 1000000 in
theorem ok_nMul : SpecOK Tryz.prog 76 (flat spNMul) := by
  refine flat_run (env_cons ok_nlimbs (env_cons ok_nmag (env_nil _))) mixed tr76 ?_
  intro args v h N hG
  unfold spNMul at hG
  split at hG
  case h_2 => cases hG
  rename_i l m
  split at hG
  case isFalse => cases hG
  rename_i hl
  obtain ⟨hl, hm⟩ := hl
  cases hG
  refine ⟨rfl, by simp, ?_⟩
  have hL : lk (nl l) ≤ 8589934592 := lk_len (Nat.le_trans (bl_length_nl l) (by omega))
  have hM : lk (nl m) ≤ 8589934592 := lk_len (Nat.le_trans (bl_length_nl m) (by omega))
  have hl' : l.length ≤ 1099511627776 := by omega
  have hm' : m.length ≤ 1099511627776 := by omega
  have hx := lk_lt (nl l)
  have hy := lk_lt (nl m)
  generalize ha : nl l = x at *
  generalize hb : nl m = y at *
  have g1 : IntKind.i64.wrap ((lk x : Int) + (lk y : Int)) = ((lk x + lk y : Nat) : Int) := by rw [i64_in _ (by omega)]; omega
  have g2 : 4 * ((lk x + lk y : Nat) : Int) ≤ 281474976710656 := by omega
  have g3 : ((lk x + lk y : Nat) : Int) ≤ 9223372036854775807 := by omega
  simp only [c76, G0, Nat.reduceAdd]
  simp only [↓R0, R1, simprocAttr, -Int.reduceAbs, nwS, spLimbs, hl', hm', ha, hb, g1, g2, g3, tb_rep]
  clear g1 g2 g3
  generalize hkx : lk x = kx at *
  generalize hky : lk y = ky at *
  refine lp_parts (fun m tm hp nx => ∃ (i : Nat), m + i = kx ∧ tmget tm 5 = .slice (some ⟨N + 0, 0, none⟩) kx kx ∧ tmget tm 6 = .slice (some ⟨N + 1, 0, none⟩) ky ky ∧
      tmget tm 7 = .slice (some ⟨N + 2, 0, none⟩) (kx + ky) (kx + ky) ∧ tmget tm 23 = .int .i64 kx ∧ tmget tm 24 = .int .i64 i ∧
      hget hp (N + 0) = some ⟨84, 1, false, tb kx (lm x)⟩ ∧ hget hp (N + 1) = some ⟨84, 1, false, tb ky (lm y)⟩ ∧
      hget hp (N + 2) = some ⟨84, 1, false, tb (kx + ky) (lm (x % 4294967296 ^ i * y))⟩ ∧ (∀ q, q < N → hget hp q = hget h q) ∧ nx = N + 3) ?_ kx
    ⟨0, by omega, ?_, ?_, ?_, ?_, ?_, ?_, ?_, ?_, ?_, rfl⟩
  · intro m tm hp nx ⟨i, hm, h5, h6, h7, h23, h24, hb1, hb2, hb3, hh, hnx⟩
    subst hnx
    by_cases c1 : i < kx
    · have ex : IntKind.i64.wrap ((i : Int) + 1) = ((i + 1 : Nat) : Int) := by rw [i64_in _ (by omega)]; omega
      simp only [↓R0, R1, simprocAttr, -Int.reduceAbs, h5, h6, h7, h23, h24, hb1, hb2, hb3, c1]
      refine lp_parts (fun m2 tm hp nx => ∃ (k : Nat) (f : Nat → Nat), m2 + k = ky ∧ tmget tm 5 = .slice (some ⟨N + 0, 0, none⟩) kx kx ∧ tmget tm 6 = .slice (some ⟨N + 1, 0, none⟩) ky ky ∧
        tmget tm 7 = .slice (some ⟨N + 2, 0, none⟩) (kx + ky) (kx + ky) ∧ tmget tm 23 = .int .i64 kx ∧ tmget tm 24 = .int .i64 i ∧ tmget tm 8 = .int .i64 i ∧ tmget tm 28 = .int .i64 ky ∧ tmget tm 29 = .int .i64 k ∧
        tmget tm 9 = .int .u64 (mvC (x % 4294967296 ^ i * y) (lm x i) y i k : Nat) ∧ mvC (x % 4294967296 ^ i * y) (lm x i) y i k < 4294967296 ∧
        hget hp (N + 0) = some ⟨84, 1, false, tb kx (lm x)⟩ ∧ hget hp (N + 1) = some ⟨84, 1, false, tb ky (lm y)⟩ ∧
        hget hp (N + 2) = some ⟨84, 1, false, tb (kx + ky) f⟩ ∧ (∀ j, f j = if j < i + k then lm (mvV (x % 4294967296 ^ i * y) (lm x i) y i k) j else lm (x % 4294967296 ^ i * y) j) ∧
        (∀ q, q < N → hget hp q = hget h q) ∧ nx = N + 3) ?_ ky
        ⟨0, _, by omega, ?_, ?_, ?_, ?_, ?_, ?_, ?_, ?_, ?_, ?_, hb1, hb2, hb3, fun j => ?_, hh, rfl⟩
      · clear h5 h6 h7 h23 h24 hb1 hb2 hb3 hh
        clear tm hp
        intro m2 tm hp nx ⟨k, f, hm2, h5, h6, h7, h23, h24, h8, h28, h29, h9, hc, hb1, hb2, hb3, hf, hh, hnx⟩
        subst hnx
        by_cases c2 : k < ky
        · obtain ⟨hN, hc'⟩ := mv_bound (v0 := x % 4294967296 ^ i * y) (y := y) (i := i) (k := k) (lm_lt x i) hc
          have hfk : f (i + k) = lm (x % 4294967296 ^ i * y) (i + k) := by rw [hf, if_neg (by omega)]
          have hNd : mvN (x % 4294967296 ^ i * y) (lm x i) y i k = lm x i * lm y k + f (i + k) + mvC (x % 4294967296 ^ i * y) (lm x i) y i k := by rw [hfk]; rfl
          have hcar := mv_carry (x % 4294967296 ^ i * y) (lm x i) y i k
          have hlim := mv_limb (x % 4294967296 ^ i * y) (lm x i) y i k
          have hlow : ∀ j, j < i + k → lm (mvV (x % 4294967296 ^ i * y) (lm x i) y i (k + 1)) j = lm (mvV (x % 4294967296 ^ i * y) (lm x i) y i k) j := fun j h => mv_low h
          generalize hC : mvC (x % 4294967296 ^ i * y) (lm x i) y i k = C at *
          generalize hNN : mvN (x % 4294967296 ^ i * y) (lm x i) y i k = W at *
          have bx := lm_lt x i
          have b_y := lm_lt y k
          have bf : f (i + k) < 4294967296 := by rw [hfk]; exact lm_lt _ _
          have bxy : lm x i * lm y k ≤ 4294967295 * 4294967295 := Nat.mul_le_mul (by omega) (by omega)
          have w1 := u64_nat (n := lm x i) (by omega)
          have w2 := u64_nat (n := lm y k) (by omega)
          have w3 := u64_nat (n := f (i + k)) (by omega)
          have w4 : IntKind.u64.wrap ((lm x i : Int) * (lm y k : Int)) = ((lm x i * lm y k : Nat) : Int) := by rw [← Int.natCast_mul, u64_nat (by omega)]
          have w5 : IntKind.u64.wrap (((lm x i * lm y k : Nat) : Int) + (f (i + k) : Int)) = ((lm x i * lm y k + f (i + k) : Nat) : Int) := by rw [← Int.natCast_add, u64_nat (by omega)]
          have w6 : IntKind.u64.wrap (((lm x i * lm y k + f (i + k) : Nat) : Int) + (C : Int)) = (W : Int) := by rw [← Int.natCast_add, hNd, u64_nat (by omega)]
          have w7 := u32_mod W
          have w8 : (W : Int).fdiv (2 ^ min 32 IntKind.u64.bits) = ((W / 4294967296 : Nat) : Int) := by
            have : (2 : Int) ^ min 32 IntKind.u64.bits = 4294967296 := rfl
            rw [this, Int.fdiv_eq_ediv_of_nonneg _ (by omega)]; omega
          have e1 : IntKind.i64.wrap ((i : Int) + (k : Int)) = ((i + k : Nat) : Int) := by rw [i64_in _ (by omega)]; omega
          have e2 : IntKind.i64.wrap ((k : Int) + 1) = ((k + 1 : Nat) : Int) := by rw [i64_in _ (by omega)]; omega
          have k1 := tb_get' (lm x) c1
          have k2 := tb_get' (lm y) c2
          have c3 : i + k < kx + ky := by omega
          have c3' : i + k + 1 ≤ kx + ky := by omega
          have k3 := tb_get' f c3
          simp only [↓R0, R1, simprocAttr, -Int.reduceAbs, h5, h6, h7, h23, h24, h8, h28, h29, h9, hb1, hb2, hb3, c1, c2, c3, c3', k1, k2, k3, w1, w2, w3, w4, w5, w6, w7, w8, e1, e2, tb_length, tb_set]
          refine ⟨m2 - 1, by omega, k + 1, _, by omega, rfl, ?_, ?_, rfl, fun j => ?_, ?_⟩
          · rw [hcar]
          · exact hc'
          · by_cases g : j = i + k
            · rw [if_pos g, if_pos (by omega), g, hlim]
            · rw [if_neg g, hf j]
              by_cases g2 : j < i + k
              · rw [if_pos g2, if_pos (by omega), hlow j g2]
              · rw [if_neg g2, if_neg (by omega)]
          · intro q hq
            simp only [if_neg (show ¬ N + 2 = q by omega)]
            exact hh q hq
        · have ek : k = ky := by omega
          subst ek
          have hy' : y < 4294967296 ^ k := by rw [← hky]; exact lk_lt y
          have w1 := u32_nat hc
          have e1 : IntKind.i64.wrap ((i : Int) + (k : Int)) = ((i + k : Nat) : Int) := by rw [i64_in _ (by omega)]; omega
          have c3 : i + k < kx + k := by omega
          have c3' : i + k + 1 ≤ kx + k := by omega
          simp only [↓R0, R1, simprocAttr, -Int.reduceAbs, h5, h6, h7, h23, h24, h8, h28, h29, h9, hb1, hb2, hb3, c1, c2, c3, c3', w1, e1, ex, tb_length, tb_set]
          refine ⟨m - 1, by omega, i + 1, by omega, rfl, ?_, ?_⟩
          · congr 2
            apply tb_congr
            intro j hj
            by_cases g : j = i + k
            · rw [if_pos g, mv_top hy', g]
            · rw [if_neg g, hf j]
              by_cases g2 : j < i + k
              · rw [if_pos g2, mv_row hy']
              · rw [if_neg g2, lm_of_lt' (mv_rowlt hy') (by omega), lm_of_lt' (mv_rowlt hy') (by omega)]
          · intro q hq
            simp only [if_neg (show ¬ N + 2 = q by omega)]
            exact hh q hq
      · (first | (simp only [↓R0, R1, simprocAttr, -Int.reduceAbs, h5]; done) | (simp only [↓R0, R1, simprocAttr, -Int.reduceAbs, h5]; rfl) | rfl)
      · (first | (simp only [↓R0, R1, simprocAttr, -Int.reduceAbs, h6]; done) | (simp only [↓R0, R1, simprocAttr, -Int.reduceAbs, h6]; rfl) | rfl)
      · (first | (simp only [↓R0, R1, simprocAttr, -Int.reduceAbs, h7]; done) | (simp only [↓R0, R1, simprocAttr, -Int.reduceAbs, h7]; rfl) | rfl)
      · (first | (simp only [↓R0, R1, simprocAttr, -Int.reduceAbs, h23]; done) | (simp only [↓R0, R1, simprocAttr, -Int.reduceAbs, h23]; rfl) | rfl)
      · (first | (simp only [↓R0, R1, simprocAttr, -Int.reduceAbs, h24]; done) | (simp only [↓R0, R1, simprocAttr, -Int.reduceAbs, h24]; rfl) | rfl)
      · (first | (simp only [↓R0, R1, simprocAttr, -Int.reduceAbs, h24]; done) | (simp only [↓R0, R1, simprocAttr, -Int.reduceAbs, h24]; rfl) | rfl)
      · (first | (simp only [↓R0, R1, simprocAttr, -Int.reduceAbs]; done) | (simp only [↓R0, R1, simprocAttr, -Int.reduceAbs]; rfl) | rfl)
      · (first | (simp only [↓R0, R1, simprocAttr, -Int.reduceAbs]; done) | (simp only [↓R0, R1, simprocAttr, -Int.reduceAbs]; rfl) | rfl)
      · (first | (simp only [↓R0, R1, simprocAttr, -Int.reduceAbs, mvC_zero]; done) | (simp only [↓R0, R1, simprocAttr, -Int.reduceAbs, mvC_zero]; rfl) | rfl)
      · rw [mvC_zero]; omega
      · rw [mvV_zero]; simp
    · have ei : i = kx := by omega
      subst ei
      have hX : x % 4294967296 ^ i = x := Nat.mod_eq_of_lt hx
      have hxy : x * y < 4294967296 ^ (i + ky) := by rw [Nat.pow_add]; exact Nat.mul_lt_mul'' hx hy
      have hud : ud (tb (i + ky) (lm (x * y))) = x * y := by rw [ud_tb, Nat.mod_eq_of_lt hxy]
      have c5 : i + ky ≤ 34359738368 := by omega
      rw [hX] at hb3
      simp only [↓R0, R1, simprocAttr, -Int.reduceAbs, h5, h6, h7, h23, h24, hb1, hb2, hb3, c1, tb_length, rdS, spMag, shows, tb_all, uok_lm, c5, hud, Fin, isEnd, resL, res1, iE, rE]
      first | exact ⟨_, rfl, rfl, hh⟩ | exact ⟨_, rfl, rfl, fun k hk => by simp only [ne_nb hk, if_false]; exact hh k hk⟩
  · (first | (simp only [↓R0, R1, simprocAttr, -Int.reduceAbs]; done) | (simp only [↓R0, R1, simprocAttr, -Int.reduceAbs]; rfl) | rfl)
  · (first | (simp only [↓R0, R1, simprocAttr, -Int.reduceAbs]; done) | (simp only [↓R0, R1, simprocAttr, -Int.reduceAbs]; rfl) | rfl)
  · (first | (simp only [↓R0, R1, simprocAttr, -Int.reduceAbs]; done) | (simp only [↓R0, R1, simprocAttr, -Int.reduceAbs]; rfl) | rfl)
  · (first | (simp only [↓R0, R1, simprocAttr, -Int.reduceAbs]; done) | (simp only [↓R0, R1, simprocAttr, -Int.reduceAbs]; rfl) | rfl)
  · (first | (simp only [↓R0, R1, simprocAttr, -Int.reduceAbs]; done) | (simp only [↓R0, R1, simprocAttr, -Int.reduceAbs]; rfl) | rfl)
  · (first | (simp only [↓R0, R1, simprocAttr, -Int.reduceAbs]; done) | (simp only [↓R0, R1, simprocAttr, -Int.reduceAbs]; rfl) | rfl)
  · (first | (simp only [↓R0, R1, simprocAttr, -Int.reduceAbs]; done) | (simp only [↓R0, R1, simprocAttr, -Int.reduceAbs]; rfl) | rfl)
  · (first | (simp only [↓R0, R1, simprocAttr, -Int.reduceAbs, Nat.pow_zero, Nat.mod_one, Nat.zero_mul, lm_0]; done) | (simp only [↓R0, R1, simprocAttr, -Int.reduceAbs, Nat.pow_zero, Nat.mod_one, Nat.zero_mul, lm_0]; rfl) | rfl)
  · intro q hq
    simp only [↓R0, R1, simprocAttr, -Int.reduceAbs, hget_new hq]
end Go.Eng
end
section
set_option linter.unusedVariables false
set_option linter.unusedSimpArgs false
set_option linter.unusedSectionVars false
set_option maxRecDepth 4000
namespace Go.Eng
open Go Go.Proofs Go.IntWalk
def spShort : List Value → Heap → Option ((Nat → Value) × Blk)
  | [v, .int .u32 d], h => match shows h v with
    | some cs => if uok cs = true ∧ cs.length ≤ 34359738368 ∧ 0 < d ∧ d < 4294967296 then
        some (fun k => .tuple ⟨[.slice (some ⟨k, 0, none⟩) cs.length cs.length, .int .u32 (ud cs % d.toNat : Nat)]⟩, ⟨84, 1, false, tb cs.length (lm (ud cs / d.toNat))⟩) else none
    | none => none
  | _, _ => none
def c98 : ICode :=
  (.seq (.reg [qq 4 (.mv (.c (.slice none 0 0))), qq 5 (.mv (.c (.int .u32 0)))]) (.seq (.reg [qq 10 (.mv (.t 0)), qq 11 (.lensl (.t 10)), qq 12 (.mkslice 84 1 4 [(.int .u32 0)] (.t 11) (.t 11)), qq 6 (.mv (.t 12))]) (.seq (.reg [qq 7 (.mv (.c (.int .u32 0)))]) (.seq (.seq (.reg [qq 13 (.mv (.t 0)), qq 14 (.lensl (.t 13)), qq 15 (.mv (ci 0))]) (.block 0 (.loop (.seq (.reg [qq 16 (.bin .lss (.t 15) (.t 14))]) (.seq (.cond (.t 16) .skip (.exit 0)) (.seq (.block 1 (.seq (.reg [qq 17 (.mv (.t 15)), qq 8 (.mv (.t 17))]) (.seq (.reg [qq 18 (.mv (.t 0)), qq 19 (.lensl (.t 18)), qq 20 (.bin .sub (.t 19) (ci 1)), qq 21 (.mv (.t 8)), qq 22 (.bin .sub (.t 20) (.t 21)), qq 9 (.mv (.t 22))]) (.reg [qq 24 (.mv (.t 6)), qq 25 (.mv (.t 9)), qq 26 (.mv (.t 7)), qq 27 (.mv (.t 0)), qq 28 (.mv (.t 9)), qq 29 (.ixsl 1 (.t 27) (.t 28)), qq 30 (.load false 1 (.t 29)), qq 31 (.mv (.t 1)), qq 32 (.call 107 [(.t 26), (.t 30), (.t 31)]), qq 23 (.mv (.t 32)), qq 33 (.ext (.t 23) 0), qq 34 (.ext (.t 23) 1), qq 35 (.ixsl 1 (.t 24) (.t 25)), qn (.store 1 (.t 35) (.t 33)), qq 7 (.mv (.t 34))])))) (.reg [qq 36 (.bin .add (.t 15) (ci 1)), qq 15 (.mv (.t 36))]))))))) (.seq (.reg [qq 37 (.mv (.t 6)), qq 38 (.mv (.t 7)), qq 4 (.mv (.t 37)), qq 5 (.mv (.t 38))]) .ret)))))
theorem tr98 : trFun Tryz.prog 98 = some ⟨39, [.t 4, .t 5], c98⟩ := by kernel_rfl
set_option maxHeartbeats 1000000 in
theorem ok_nshort : SpecOK Tryz.prog 98 (nwS spShort) := by
  refine nw_run (env_cons ok_div32 (env_nil _)) mixed tr98 ?_ ?_
  · intro args h h' v hle e
    unfold spShort at e ⊢
    split at e
    · split at e
      · rename_i cs hcs
        simp only [shows_mono hle hcs]; exact e
      · cases e
    · cases e
  intro args vf b h N hG hN
  unfold spShort at hG
  split at hG
  case h_2 => cases hG
  rename_i sv d _
  split at hG
  case h_2 => cases hG
  rename_i cs hcs
  split at hG
  case isFalse => cases hG
  rename_i hl
  obtain ⟨hu, hl, hd, hd2⟩ := hl
  cases hG
  refine ⟨rfl, tb_base _ _, vr1_pair (vr1_sl _ _ _) (vr1_flat rfl), by simp, ?_⟩
  obtain ⟨kb, off, K, cap, blk, rfl, hb, hle, hcell, hV, hlen⟩ := shows_tb hcs hu
  have hkb := hN _ _ hb
  have hne : ∀ a, ¬ (N + a = kb) := fun a => by omega
  rw [hlen] at hl ⊢
  generalize ud cs = V at *
  obtain ⟨d, rfl⟩ := Int.eq_ofNat_of_zero_le (Int.le_of_lt hd)
  simp only [Int.toNat_natCast]
  have hd0 : 0 < d := by omega
  have g2 : 4 * (K : Int) ≤ 281474976710656 := by omega
  have g3 : (K : Int) ≤ 9223372036854775807 := by omega
  simp only [c98, G0, Nat.reduceAdd]
  simp only [↓R0, R1, simprocAttr, -Int.reduceAbs, g2, g3, tb_rep]
  clear g2 g3
  refine lp_parts (fun m tm hp nx => ∃ (i : Nat) (f : Nat → Nat), m + i = K ∧ tmget tm 0 = .slice (some ⟨kb, off, none⟩) K cap ∧ tmget tm 1 = .int .u32 (d : Nat) ∧ tmget tm 6 = .slice (some ⟨N + 0, 0, none⟩) K K ∧
      tmget tm 7 = .int .u32 (V / 4294967296 ^ m % d : Nat) ∧ tmget tm 14 = .int .i64 K ∧ tmget tm 15 = .int .i64 i ∧
      hget hp (N + 0) = some ⟨84, 1, false, tb K f⟩ ∧ (∀ j, m ≤ j → j < K → f j = lm (V / d) j) ∧ (∀ q, q < N → hget hp q = hget h q) ∧ nx = N + 1) ?_ K
    ⟨0, fun _ => 0, by omega, ?_, ?_, ?_, ?_, ?_, ?_, ?_, fun j hj hj2 => by omega, ?_, rfl⟩
  · intro m tm hp nx ⟨i, f, hm, h0, h1, h6, h7, h14, h15, hb1, hf, hh, hnx⟩
    subst hnx
    by_cases c1 : i < K
    · obtain ⟨m, rfl⟩ : ∃ m', m = m' + 1 := ⟨m - 1, by omega⟩
      have hbb : hget hp kb = some blk := by rw [hh kb hkb]; exact hb
      have c2 : m < K := by omega
      have c2' : m + 1 ≤ K := by omega
      obtain ⟨q1, q2⟩ := sh_quo (n := V) (i := m) hd0
      have q3 := sh_rest V d m
      have hr := Nat.mod_lt (V / 4294967296 ^ (m + 1)) hd0
      have bl := lm_lt V m
      have e1 : IntKind.i64.wrap ((K : Int) - 1) = ((K - 1 : Nat) : Int) := by rw [i64_in _ (by omega)]; omega
      have e2 : IntKind.i64.wrap (((K - 1 : Nat) : Int) - (i : Int)) = (m : Int) := by rw [i64_in _ (by omega)]; omega
      have e3 : IntKind.i64.wrap ((i : Int) + 1) = ((i + 1 : Nat) : Int) := by rw [i64_in _ (by omega)]; omega
      have v1 : ((V / 4294967296 ^ (m + 1) % d : Nat) : Int) < (d : Int) := by omega
      have v2 : ((lm V m : Nat) : Int) < 4294967296 := by omega
      have v3 : (((V / 4294967296 ^ (m + 1) % d : Nat) : Int) * 4294967296 + (lm V m : Int)) / (d : Int) = ((lm (V / d) m : Nat) : Int) := by rw [q1]; rfl
      have v4 : (((V / 4294967296 ^ (m + 1) % d : Nat) : Int) * 4294967296 + (lm V m : Int)) % (d : Int) = ((V / 4294967296 ^ m % d : Nat) : Int) := by rw [q3]; rfl
      have v5 := hcell m c2
      simp only [↓R0, R1, simprocAttr, -Int.reduceAbs, h0, h1, h6, h7, h14, h15, hb1, hbb, c1, c2, c2', e1, e2, e3, spDiv32, v1, v2, v3, v4, v5, hd2, hr, tb_length, tb_set]
      refine ⟨m, by omega, i + 1, _, by omega, rfl, rfl, rfl, fun j hj hj2 => ?_, ?_⟩
      · by_cases g : j = m
        · rw [if_pos g, g]
        · rw [if_neg g]; exact hf j (by omega) hj2
      · intro q hq
        simp only [if_neg (show ¬ N + 0 = q by omega)]
        exact hh q hq
    · have ei : i = K := by omega
      subst ei
      have em : m = 0 := by omega
      subst em
      rw [Nat.pow_zero, Nat.div_one] at h7
      have htb : tb i f = tb i (lm (V / d)) := tb_congr fun j hj => hf j (by omega) hj
      simp only [↓R0, R1, simprocAttr, -Int.reduceAbs, h0, h1, h6, h7, h14, h15, hb1, c1]
      refine ⟨trivial, _, N + 0, false, rfl, ?_, by omega, by rw [hb1, htb], hh⟩
      (first | (simp only [↓R0, R1, simprocAttr, -Int.reduceAbs, one]; done) | (simp only [↓R0, R1, simprocAttr, -Int.reduceAbs, one]; rfl) | rfl)
  · (first | (simp only [↓R0, R1, simprocAttr, -Int.reduceAbs]; done) | (simp only [↓R0, R1, simprocAttr, -Int.reduceAbs]; rfl) | rfl)
  · (first | (simp only [↓R0, R1, simprocAttr, -Int.reduceAbs]; done) | (simp only [↓R0, R1, simprocAttr, -Int.reduceAbs]; rfl) | rfl)
  · (first | (simp only [↓R0, R1, simprocAttr, -Int.reduceAbs]; done) | (simp only [↓R0, R1, simprocAttr, -Int.reduceAbs]; rfl) | rfl)
  · (first | (simp only [↓R0, R1, simprocAttr, -Int.reduceAbs, Nat.div_eq_of_lt hV, Nat.zero_mod]; done) | (simp only [↓R0, R1, simprocAttr, -Int.reduceAbs, Nat.div_eq_of_lt hV, Nat.zero_mod]; rfl) | rfl)
  · (first | (simp only [↓R0, R1, simprocAttr, -Int.reduceAbs]; done) | (simp only [↓R0, R1, simprocAttr, -Int.reduceAbs]; rfl) | rfl)
  · (first | (simp only [↓R0, R1, simprocAttr, -Int.reduceAbs]; done) | (simp only [↓R0, R1, simprocAttr, -Int.reduceAbs]; rfl) | rfl)
  · (first | (simp only [↓R0, R1, simprocAttr, -Int.reduceAbs]; done) | (simp only [↓R0, R1, simprocAttr, -Int.reduceAbs]; rfl) | rfl)
  · intro q hq
    simp only [↓R0, R1, simprocAttr, -Int.reduceAbs, hget_new hq]
def spShift : List Value → Heap → Option ((Nat → Value) × Blk)
  | [v, .int .i64 s], h => match shows h v with
    | some cs => if uok cs = true ∧ cs.length ≤ 34359738368 ∧ 0 ≤ s ∧ s < 32 then
        some (fun k => .slice (some ⟨k, 0, none⟩) (cs.length + 1) (cs.length + 1), ⟨84, 1, false, tb (cs.length + 1) (lm (ud cs * 2 ^ s.toNat))⟩) else none
    | none => none
  | _, _ => none
def c109 : ICode :=
  (.seq (.reg [qq 4 (.mv (.c (.slice none 0 0)))]) (.seq (.reg [qq 9 (.mv (.t 0)), qq 10 (.lensl (.t 9)), qq 11 (.bin .add (.t 10) (ci 1)), qq 12 (.mkslice 84 1 4 [(.int .u32 0)] (.t 11) (.t 11)), qq 5 (.mv (.t 12))]) (.seq (.seq (.reg [qq 13 (.mv (.t 0)), qq 14 (.lensl (.t 13)), qq 15 (.mv (ci 0))]) (.block 0 (.loop (.seq (.reg [qq 16 (.bin .lss (.t 15) (.t 14))]) (.seq (.cond (.t 16) .skip (.exit 0)) (.seq (.block 1 (.seq (.reg [qq 17 (.mv (.t 15)), qq 18 (.ixsl 1 (.t 13) (.t 15)), qq 19 (.load false 1 (.t 18)), qq 6 (.mv (.t 17)), qq 7 (.mv (.t 19))]) (.seq (.reg [qq 20 (.mv (.t 7)), qq 21 (.conv .u64 (.t 20)), qq 22 (.mv (.t 1)), qq 23 (.bin .shl (.t 21) (.t 22)), qq 8 (.mv (.t 23))]) (.seq (.reg [qq 24 (.mv (.t 5)), qq 25 (.mv (.t 6)), qq 26 (.ixsl 1 (.t 24) (.t 25)), qq 27 (.load false 1 (.t 26)), qq 28 (.mv (.t 8)), qq 29 (.conv .u32 (.t 28)), qq 30 (.bin .or (.t 27) (.t 29)), qq 31 (.ixsl 1 (.t 24) (.t 25)), qn (.store 1 (.t 31) (.t 30))]) (.reg [qq 32 (.mv (.t 5)), qq 33 (.mv (.t 6)), qq 34 (.bin .add (.t 33) (ci 1)), qq 35 (.mv (.t 8)), qq 36 (.bin .shr (.t 35) (.c (.int .u64 32))), qq 37 (.conv .u32 (.t 36)), qq 38 (.ixsl 1 (.t 32) (.t 34)), qn (.store 1 (.t 38) (.t 37))]))))) (.reg [qq 39 (.bin .add (.t 15) (ci 1)), qq 15 (.mv (.t 39))]))))))) (.seq (.reg [qq 40 (.mv (.t 5)), qq 4 (.mv (.t 40))]) .ret))))
theorem tr109 : trFun Tryz.prog 109 = some ⟨41, [.t 4], c109⟩ := by kernel_rfl
set_option maxHeartbeats 1000000 in
theorem ok_nshift : SpecOK Tryz.prog 109 (nwS spShift) := by
  refine nw_run (env_nil _) mixed tr109 ?_ ?_
  · intro args h h' v hle e
    unfold spShift at e ⊢
    split at e
    · split at e
      · rename_i cs hcs
        simp only [shows_mono hle hcs]; exact e
      · cases e
    · cases e
  intro args vf b h N hG hN
  unfold spShift at hG
  split at hG
  case h_2 => cases hG
  rename_i sv s _
  split at hG
  case h_2 => cases hG
  rename_i cs hcs
  split at hG
  case isFalse => cases hG
  rename_i hl
  obtain ⟨hu, hl, hs0, hs⟩ := hl
  cases hG
  refine ⟨rfl, tb_base _ _, vr1_sl _ _ _, by simp, ?_⟩
  obtain ⟨kb, off, K, cap, blk, rfl, hb, hle, hcell, hV, hlen⟩ := shows_tb hcs hu
  have hkb := hN _ _ hb
  have hne : ∀ a, ¬ (N + a = kb) := fun a => by omega
  rw [hlen] at hl ⊢
  generalize ud cs = V at *
  obtain ⟨s, rfl⟩ := Int.eq_ofNat_of_zero_le hs0
  simp only [Int.toNat_natCast]
  have hs' : s < 32 := by omega
  have g1 : IntKind.i64.wrap ((K : Int) + 1) = ((K + 1 : Nat) : Int) := by rw [i64_in _ (by omega)]; omega
  have g2 : 4 * ((K + 1 : Nat) : Int) ≤ 281474976710656 := by omega
  have g3 : ((K + 1 : Nat) : Int) ≤ 9223372036854775807 := by omega
  simp only [c109, G0, Nat.reduceAdd]
  simp only [↓R0, R1, simprocAttr, -Int.reduceAbs, g1, g2, g3, tb_rep]
  clear g1 g2 g3
  refine lp_parts (fun m tm hp nx => ∃ (i : Nat), m + i = K ∧ tmget tm 13 = .slice (some ⟨kb, off, none⟩) K cap ∧ tmget tm 1 = .int .i64 (s : Nat) ∧ tmget tm 5 = .slice (some ⟨N + 0, 0, none⟩) (K + 1) (K + 1) ∧
      tmget tm 14 = .int .i64 K ∧ tmget tm 15 = .int .i64 i ∧
      hget hp (N + 0) = some ⟨84, 1, false, tb (K + 1) (lm (V % 4294967296 ^ i * 2 ^ s))⟩ ∧ (∀ q, q < N → hget hp q = hget h q) ∧ nx = N + 1) ?_ K
    ⟨0, by omega, ?_, ?_, ?_, ?_, ?_, ?_, ?_, rfl⟩
  · intro m tm hp nx ⟨i, hm, h13, h1, h5, h14, h15, hb1, hh, hnx⟩
    subst hnx
    by_cases c1 : i < K
    · have hbb : hget hp kb = some blk := by rw [hh kb hkb]; exact hb
      have v5 := hcell i c1
      obtain ⟨q1, q2, q3, q4⟩ := shl_limb (n := V) (i := i) hs'
      have c2 : i < K + 1 := by omega
      have c2' : i ≤ K := by omega
      have k1 := tb_get' (lm (V % 4294967296 ^ i * 2 ^ s)) c2
      have b1 := lm_lt V i
      have hT : 2 ^ s ≤ 2 ^ 31 := Nat.pow_le_pow_right (by omega) (by omega)
      have b2 : lm V i * 2 ^ s ≤ 4294967295 * 2 ^ 31 := Nat.mul_le_mul (by omega) hT
      have w1 := u64_nat (n := lm V i) (by omega)
      have w2 := shl64 (c := lm V i) (s := s) (by omega) (by omega)
      have w3 := u32_mod (lm V i * 2 ^ s)
      have w4 := or_u32 (x := lm (V % 4294967296 ^ i * 2 ^ s) i) (c := (lm V i * 2 ^ s % 4294967296) / 2 ^ s) (s := s) q2 (by rw [← q3]; exact q4)
      rw [← q3] at w4
      have w5 : ((lm V i * 2 ^ s : Nat) : Int).fdiv (2 ^ min 32 IntKind.u64.bits) = ((lm V i * 2 ^ s / 4294967296 : Nat) : Int) := by
        have : (2 : Int) ^ min 32 IntKind.u64.bits = 4294967296 := rfl
        rw [this, Int.fdiv_eq_ediv_of_nonneg _ (by omega)]; omega
      have w6 := u32_nat (n := lm V i * 2 ^ s / 4294967296) (by omega)
      have w7 : ¬ ((s : Int) < 0) := by omega
      have e3 : IntKind.i64.wrap ((i : Int) + 1) = ((i + 1 : Nat) : Int) := by rw [i64_in _ (by omega)]; omega
      have c4 : i + 1 < K + 1 := by omega
      have c5 : i + 1 + 1 ≤ K + 1 := by omega
      have c6 : i + 1 ≤ K := c1
      simp only [↓R0, R1, simprocAttr, -Int.reduceAbs, h13, h1, h5, h14, h15, hb1, hbb, c1, c2, c2', c4, c5, c6, k1, e3, v5, w1, w2, w3, w4, w5, w6, w7, tb_length, tb_set]
      refine ⟨m - 1, by omega, i + 1, by omega, rfl, ?_, ?_⟩
      · congr 2
        apply tb_congr
        intro j hj
        rw [q1]
      · intro q hq
        simp only [if_neg (show ¬ N + 0 = q by omega)]
        exact hh q hq
    · have ei : i = K := by omega
      subst ei
      rw [Nat.mod_eq_of_lt hV] at hb1
      simp only [↓R0, R1, simprocAttr, -Int.reduceAbs, h13, h1, h5, h14, h15, c1]
      refine ⟨trivial, _, N + 0, false, rfl, ?_, by omega, hb1, hh⟩
      (first | (simp only [↓R0, R1, simprocAttr, -Int.reduceAbs, one]; done) | (simp only [↓R0, R1, simprocAttr, -Int.reduceAbs, one]; rfl) | rfl)
  · (first | (simp only [↓R0, R1, simprocAttr, -Int.reduceAbs]; done) | (simp only [↓R0, R1, simprocAttr, -Int.reduceAbs]; rfl) | rfl)
  · (first | (simp only [↓R0, R1, simprocAttr, -Int.reduceAbs]; done) | (simp only [↓R0, R1, simprocAttr, -Int.reduceAbs]; rfl) | rfl)
  · (first | (simp only [↓R0, R1, simprocAttr, -Int.reduceAbs]; done) | (simp only [↓R0, R1, simprocAttr, -Int.reduceAbs]; rfl) | rfl)
  · (first | (simp only [↓R0, R1, simprocAttr, -Int.reduceAbs]; done) | (simp only [↓R0, R1, simprocAttr, -Int.reduceAbs]; rfl) | rfl)
  · (first | (simp only [↓R0, R1, simprocAttr, -Int.reduceAbs]; done) | (simp only [↓R0, R1, simprocAttr, -Int.reduceAbs]; rfl) | rfl)
  · (first | (simp only [↓R0, R1, simprocAttr, -Int.reduceAbs, Nat.pow_zero, Nat.mod_one, Nat.zero_mul, lm_0]; done) | (simp only [↓R0, R1, simprocAttr, -Int.reduceAbs, Nat.pow_zero, Nat.mod_one, Nat.zero_mul, lm_0]; rfl) | rfl)
  · intro q hq
    simp only [↓R0, R1, simprocAttr, -Int.reduceAbs, hget_new hq]
def spUnshift : List Value → Heap → Option ((Nat → Value) × Blk)
  | [v, .int .i64 s], h => match shows h v with
    | some cs => if uok cs = true ∧ cs.length ≤ 34359738368 ∧ 0 ≤ s ∧ s < 32 then
        some (fun k => .slice (some ⟨k, 0, none⟩) cs.length cs.length, ⟨84, 1, false, tb cs.length (lm (ud cs / 2 ^ s.toNat))⟩) else none
    | none => none
  | _, _ => none
def c111 : ICode :=
  (.seq (.reg [qq 4 (.mv (.c (.slice none 0 0)))]) (.seq (.reg [qq 8 (.mv (.t 0)), qq 9 (.lensl (.t 8)), qq 10 (.mkslice 84 1 4 [(.int .u32 0)] (.t 9) (.t 9)), qq 5 (.mv (.t 10))]) (.seq (.seq (.reg [qq 11 (.mv (.t 0)), qq 12 (.lensl (.t 11)), qq 13 (.mv (ci 0))]) (.block 0 (.loop (.seq (.reg [qq 14 (.bin .lss (.t 13) (.t 12))]) (.seq (.cond (.t 14) .skip (.exit 0)) (.seq (.block 1 (.seq (.reg [qq 15 (.mv (.t 13)), qq 6 (.mv (.t 15))]) (.seq (.reg [qq 16 (.mv (.t 0)), qq 17 (.mv (.t 6)), qq 18 (.ixsl 1 (.t 16) (.t 17)), qq 19 (.load false 1 (.t 18)), qq 20 (.conv .u64 (.t 19)), qq 7 (.mv (.t 20))]) (.seq (.seq (.reg [qq 21 (.mv (.t 6)), qq 22 (.bin .add (.t 21) (ci 1)), qq 23 (.mv (.t 0)), qq 24 (.lensl (.t 23)), qq 25 (.bin .lss (.t 22) (.t 24))]) (.cond (.t 25) (.reg [qq 26 (.mv (.t 7)), qq 27 (.mv (.t 0)), qq 28 (.mv (.t 6)), qq 29 (.bin .add (.t 28) (ci 1)), qq 30 (.ixsl 1 (.t 27) (.t 29)), qq 31 (.load false 1 (.t 30)), qq 32 (.conv .u64 (.t 31)), qq 33 (.bin .shl (.t 32) (.c (.int .u64 32))), qq 34 (.bin .or (.t 26) (.t 33)), qq 7 (.mv (.t 34))]) .skip)) (.reg [qq 35 (.mv (.t 5)), qq 36 (.mv (.t 6)), qq 37 (.mv (.t 7)), qq 38 (.mv (.t 1)), qq 39 (.bin .shr (.t 37) (.t 38)), qq 40 (.conv .u32 (.t 39)), qq 41 (.ixsl 1 (.t 35) (.t 36)), qn (.store 1 (.t 41) (.t 40))]))))) (.reg [qq 42 (.bin .add (.t 13) (ci 1)), qq 13 (.mv (.t 42))]))))))) (.seq (.reg [qq 43 (.mv (.t 5)), qq 4 (.mv (.t 43))]) .ret))))
theorem tr111 : trFun Tryz.prog 111 = some ⟨44, [.t 4], c111⟩ := by kernel_rfl
set_option maxHeartbeats 1000000 in
theorem ok_nunshift : SpecOK Tryz.prog 111 (nwS spUnshift) := by
  refine nw_run (env_nil _) mixed tr111 ?_ ?_
  · intro args h h' v hle e
    unfold spUnshift at e ⊢
    split at e
    · split at e
      · rename_i cs hcs
        simp only [shows_mono hle hcs]; exact e
      · cases e
    · cases e
  intro args vf b h N hG hN
  unfold spUnshift at hG
  split at hG
  case h_2 => cases hG
  rename_i sv s _
  split at hG
  case h_2 => cases hG
  rename_i cs hcs
  split at hG
  case isFalse => cases hG
  rename_i hl
  obtain ⟨hu, hl, hs0, hs⟩ := hl
  cases hG
  refine ⟨rfl, tb_base _ _, vr1_sl _ _ _, by simp, ?_⟩
  obtain ⟨kb, off, K, cap, blk, rfl, hb, hle, hcell, hV, hlen⟩ := shows_tb hcs hu
  have hkb := hN _ _ hb
  have hne : ∀ a, ¬ (N + a = kb) := fun a => by omega
  rw [hlen] at hl ⊢
  generalize ud cs = V at *
  obtain ⟨s, rfl⟩ := Int.eq_ofNat_of_zero_le hs0
  simp only [Int.toNat_natCast]
  have hs' : s < 32 := by omega
  have g2 : 4 * (K : Int) ≤ 281474976710656 := by omega
  have g3 : (K : Int) ≤ 9223372036854775807 := by omega
  simp only [c111, G0, Nat.reduceAdd]
  simp only [↓R0, R1, simprocAttr, -Int.reduceAbs, g2, g3, tb_rep]
  clear g2 g3
  refine lp_parts (fun m tm hp nx => ∃ (i : Nat) (f : Nat → Nat), m + i = K ∧ tmget tm 0 = .slice (some ⟨kb, off, none⟩) K cap ∧ tmget tm 1 = .int .i64 (s : Nat) ∧ tmget tm 5 = .slice (some ⟨N + 0, 0, none⟩) K K ∧
      tmget tm 12 = .int .i64 K ∧ tmget tm 13 = .int .i64 i ∧
      hget hp (N + 0) = some ⟨84, 1, false, tb K f⟩ ∧ (∀ j, j < i → f j = lm (V / 2 ^ s) j) ∧ (∀ q, q < N → hget hp q = hget h q) ∧ nx = N + 1) ?_ K
    ⟨0, fun _ => 0, by omega, ?_, ?_, ?_, ?_, ?_, ?_, fun j hj => by omega, ?_, rfl⟩
  · intro m tm hp nx ⟨i, f, hm, h0, h1, h5, h12, h13, hb1, hf, hh, hnx⟩
    subst hnx
    by_cases c1 : i < K
    · have hbb : hget hp kb = some blk := by rw [hh kb hkb]; exact hb
      have v5 := hcell i c1
      have q1 := shr_limb (n := V) (i := i) hs'
      have c2' : i + 1 ≤ K := by omega
      have b1 := lm_lt V i
      have b2 := lm_lt V (i + 1)
      have w1 := u64_nat (n := lm V i) (by omega)
      have w2 := u64_nat (n := lm V (i + 1)) (by omega)
      have w3 : IntKind.u64.wrap ((lm V (i + 1) : Int) * 2 ^ min 32 IntKind.u64.bits) = ((lm V (i + 1) * 2 ^ 32 : Nat) : Int) := shl64 (by omega) (by omega)
      have w4 := or_u64 (x := lm V i) (c := lm V (i + 1)) (s := 32) (by omega) (by omega)
      have w5 : ∀ z : Nat, (z : Int).fdiv (2 ^ min s IntKind.u64.bits) = ((z / 2 ^ s : Nat) : Int) := by
        intro z
        have : min s IntKind.u64.bits = s := Nat.min_eq_left (by have : IntKind.u64.bits = 64 := rfl; omega)
        rw [this, Int.fdiv_eq_ediv_of_nonneg _ (Int.pow_nonneg (by omega)), Int.natCast_ediv, Int.natCast_pow]; rfl
      have w6 : ∀ z : Nat, IntKind.u32.wrap (z : Int) = ((z % 4294967296 : Nat) : Int) := u32_mod
      have w7 : ¬ ((s : Int) < 0) := by omega
      have e3 : IntKind.i64.wrap ((i : Int) + 1) = ((i + 1 : Nat) : Int) := by rw [i64_in _ (by omega)]; omega
      by_cases c3 : i + 1 < K
      · have v6 := hcell (i + 1) c3
        have ea : off + (i + 1) = off + (i + 1) := rfl
        simp only [↓R0, R1, simprocAttr, -Int.reduceAbs, h0, h1, h5, h12, h13, hb1, hbb, c1, c2', c3, e3, v5, v6, w1, w2, w3, w4, w5, w6, w7, tb_length, tb_set]
        refine ⟨m - 1, by omega, i + 1, _, by omega, rfl, rfl, fun j hj => ?_, ?_⟩
        · by_cases g : j = i
          · rw [if_pos g, g, q1]
          · rw [if_neg g]; exact hf j (by omega)
        · intro q hq
          simp only [if_neg (show ¬ N + 0 = q by omega)]
          exact hh q hq
      · have hz : lm V (i + 1) = 0 := lm_of_lt' hV (by omega)
        rw [hz, Nat.zero_mul, Nat.add_zero] at q1
        simp only [↓R0, R1, simprocAttr, -Int.reduceAbs, h0, h1, h5, h12, h13, hb1, hbb, c1, c2', c3, e3, v5, w1, w5, w6, w7, tb_length, tb_set]
        refine ⟨m - 1, by omega, i + 1, _, by omega, rfl, rfl, fun j hj => ?_, ?_⟩
        · by_cases g : j = i
          · rw [if_pos g, g, q1]
          · rw [if_neg g]; exact hf j (by omega)
        · intro q hq
          simp only [if_neg (show ¬ N + 0 = q by omega)]
          exact hh q hq
    · have ei : i = K := by omega
      subst ei
      have htb : tb i f = tb i (lm (V / 2 ^ s)) := tb_congr hf
      simp only [↓R0, R1, simprocAttr, -Int.reduceAbs, h0, h1, h5, h12, h13, c1]
      refine ⟨trivial, _, N + 0, false, rfl, ?_, by omega, by rw [hb1, htb], hh⟩
      (first | (simp only [↓R0, R1, simprocAttr, -Int.reduceAbs, one]; done) | (simp only [↓R0, R1, simprocAttr, -Int.reduceAbs, one]; rfl) | rfl)
  · (first | (simp only [↓R0, R1, simprocAttr, -Int.reduceAbs]; done) | (simp only [↓R0, R1, simprocAttr, -Int.reduceAbs]; rfl) | rfl)
  · (first | (simp only [↓R0, R1, simprocAttr, -Int.reduceAbs]; done) | (simp only [↓R0, R1, simprocAttr, -Int.reduceAbs]; rfl) | rfl)
  · (first | (simp only [↓R0, R1, simprocAttr, -Int.reduceAbs]; done) | (simp only [↓R0, R1, simprocAttr, -Int.reduceAbs]; rfl) | rfl)
  · (first | (simp only [↓R0, R1, simprocAttr, -Int.reduceAbs]; done) | (simp only [↓R0, R1, simprocAttr, -Int.reduceAbs]; rfl) | rfl)
  · (first | (simp only [↓R0, R1, simprocAttr, -Int.reduceAbs]; done) | (simp only [↓R0, R1, simprocAttr, -Int.reduceAbs]; rfl) | rfl)
  · (first | (simp only [↓R0, R1, simprocAttr, -Int.reduceAbs]; done) | (simp only [↓R0, R1, simprocAttr, -Int.reduceAbs]; rfl) | rfl)
  · intro q hq
    simp only [↓R0, R1, simprocAttr, -Int.reduceAbs, hget_new hq]
end Go.Eng
end
section
set_option linter.unusedVariables false
set_option linter.unusedSimpArgs false
set_option linter.unusedSectionVars false
namespace Go.Eng
def cyM (d q i : Nat) : Nat := q * (d % 4294967296 ^ i) / 4294967296 ^ i
theorem cyM_zero (d q : Nat) : cyM d q 0 = 0 := by simp [cyM, Nat.mod_one]
theorem cyM_div (d q i : Nat) : q * (d % 4294967296 ^ (i + 1)) / 4294967296 ^ i = lm d i * q + cyM d q i := by
  unfold cyM
  rw [mod_step, Nat.mul_add, Nat.mul_comm (4294967296 ^ i), ← Nat.mul_assoc, Nat.add_mul_div_right _ _ (pB i), Nat.mul_comm q (lm d i)]
  omega
theorem cyM_succ (d q i : Nat) : cyM d q (i + 1) = (lm d i * q + cyM d q i) / 4294967296 := by
  rw [← cyM_div]; unfold cyM; rw [Nat.pow_succ, ← Nat.div_div_eq_div_mul]
theorem cyM_limb (d q i : Nat) : lm (q * d) i = (lm d i * q + cyM d q i) % 4294967296 := by
  rw [← cyM_div]
  have e : q * d = q * (d % 4294967296 ^ (i + 1)) + q * (d / 4294967296 ^ (i + 1)) * 4294967296 ^ (i + 1) := by
    conv => lhs; rw [← Nat.mod_add_div d (4294967296 ^ (i + 1))]
    rw [Nat.mul_add, Nat.mul_assoc, Nat.mul_comm (4294967296 ^ (i + 1))]
  rw [e, lm_add_mul (Nat.lt_succ_self i)]; rfl
theorem cyM_lt {d q i : Nat} (hq : q < 4294967296) : cyM d q i < 4294967296 ∧ lm d i * q + cyM d q i < 18446744073709551616 := by
  have h1 : cyM d q i < 4294967296 := by
    unfold cyM
    rw [Nat.div_lt_iff_lt_mul (pB i)]
    have hm := Nat.mod_lt d (pB i)
    exact Nat.mul_lt_mul'' hq hm
  have h2 := lm_lt d i
  have h3 : lm d i * q ≤ 4294967295 * 4294967295 := Nat.mul_le_mul (by omega) (by omega)
  exact ⟨h1, by omega⟩
theorem cyM_top {d q m : Nat} (hd : d < 4294967296 ^ m) (hq : q < 4294967296) : cyM d q m = lm (q * d) m ∧ q * d < 4294967296 ^ (m + 1) := by
  have h : q * d < 4294967296 ^ (m + 1) := by rw [Nat.pow_succ, Nat.mul_comm]; exact Nat.mul_lt_mul'' hd hq
  exact ⟨by rw [lm_top h]; unfold cyM; rw [Nat.mod_eq_of_lt hd], h⟩
def tkT (u p m : Nat) : Nat := u + 4294967296 ^ (m + 1) - p
theorem tk_limb {u p m i : Nat} (hp : p < 4294967296 ^ (m + 1)) (hi : i ≤ m) : ((lm u i : Int) - lm p i - cyS u p i) % 4294967296 = (lm (tkT u p m) i : Int) := by
  refine (sub_limb ?_).symm
  have h := mod_add_cases p (tkT u p m) (pB (i + 1))
  have e : p + tkT u p m = u + 4294967296 ^ (m + 1) := by unfold tkT; omega
  rw [e] at h
  have e2 : 4294967296 ^ (m + 1) = 4294967296 ^ (i + 1) * 4294967296 ^ (m - i) := by rw [← Nat.pow_add]; congr 1; omega
  rw [e2, Nat.add_mul_mod_self_left] at h
  exact h
theorem tk_cy {u p m : Nat} (hu : u < 4294967296 ^ (m + 1)) (hp : p < 4294967296 ^ (m + 1)) : cyS u p (m + 1) = if u < p then 1 else 0 := by
  unfold cyS; rw [Nat.mod_eq_of_lt hu, Nat.mod_eq_of_lt hp]
theorem cyS_int (a b i : Nat) : (if (lm a i : Int) < lm b i + cyS a b i then (1 : Int) else 0) = (cyS a b (i + 1) : Int) := by
  rw [cyS_succ]
  by_cases g : lm a i < lm b i + cyS a b i
  · rw [if_pos g, if_pos (by omega)]; rfl
  · rw [if_neg g, if_neg (by omega)]; rfl
def tkX (u p d m : Nat) : Nat := if u < p then u + 4294967296 ^ (m + 1) - p + d else u - p
theorem tk_done {u p d m j : Nat} (h : ¬ u < p) (hj : j ≤ m) : lm (tkT u p m) j = lm (tkX u p d m) j := by
  unfold tkX tkT
  rw [if_neg h, show u + 4294967296 ^ (m + 1) - p = u - p + 1 * 4294967296 ^ (m + 1) by omega, lm_add_mul (by omega)]
theorem seg_limb {W off len i : Nat} (h : i < len) : lm (W / 4294967296 ^ off % 4294967296 ^ len) i = lm W (off + i) := by
  rw [lm_mod h, lm_shift]
def tkCells (W off m D q L : Nat) : List Value :=
  tb L fun j => if off ≤ j ∧ j < off + (m + 1) then lm (tkX (W / 4294967296 ^ off % 4294967296 ^ (m + 1)) (q * D) D m) (j - off) else lm W j
end Go.Eng
end
section
set_option linter.unusedVariables false
set_option linter.unusedSimpArgs false
set_option linter.unusedSectionVars false
set_option maxRecDepth 4000
namespace Go.Eng
open Go Go.Proofs Go.IntWalk
def spTake : List Value → Heap → Option (Value × Nat × Blk)
  | [.slice (some ⟨ku, off, none⟩) len cap, .slice (some ⟨kd, od, none⟩) dlen dcap, .int .u32 q], h => match hget h ku, shows h (.slice (some ⟨kd, od, none⟩) dlen dcap) with
    | some blk, some ds => if uok blk.cells = true ∧ uok ds = true ∧ len = dlen + 1 ∧ off + len ≤ blk.cells.length ∧ 0 ≤ q ∧ q < 4294967296 ∧ dlen ≤ 34359738368 ∧ ku ≠ kd ∧ blk.sz ≠ 0 then
        some (.bool (Nat.blt (ud blk.cells / 4294967296 ^ off % 4294967296 ^ (dlen + 1)) (q.toNat * ud ds)), ku, ⟨blk.elem, blk.sz, blk.x, tkCells (ud blk.cells) off dlen (ud ds) q.toNat blk.cells.length⟩) else none
    | _, _ => none
  | _, _ => none
def c110 : ICode :=
  (.seq (.reg [qq 6 (.mv (.c (.bool false)))]) (.seq (.reg [qq 7 (.mv (.c (.int .u64 0))), qq 8 (.mv (.c (.int .u32 0)))]) (.seq (.seq (.reg [qq 15 (.mv (.t 1)), qq 16 (.lensl (.t 15)), qq 17 (.mv (ci 0))]) (.block 0 (.loop (.seq (.reg [qq 18 (.bin .lss (.t 17) (.t 16))]) (.seq (.cond (.t 18) .skip (.exit 0)) (.seq (.block 1 (.seq (.reg [qq 19 (.mv (.t 17)), qq 20 (.ixsl 1 (.t 15) (.t 17)), qq 21 (.load false 1 (.t 20)), qq 9 (.mv (.t 19)), qq 10 (.mv (.t 21))]) (.seq (.reg [qq 22 (.mv (.t 10)), qq 23 (.conv .u64 (.t 22)), qq 24 (.mv (.t 2)), qq 25 (.conv .u64 (.t 24)), qq 26 (.bin .mul (.t 23) (.t 25)), qq 27 (.mv (.t 7)), qq 28 (.bin .add (.t 26) (.t 27)), qq 11 (.mv (.t 28))]) (.seq (.reg [qq 29 (.mv (.t 11)), qq 30 (.bin .shr (.t 29) (.c (.int .u64 32))), qq 7 (.mv (.t 30))]) (.reg [qq 32 (.mv (.t 0)), qq 33 (.mv (.t 9)), qq 34 (.mv (.t 0)), qq 35 (.mv (.t 9)), qq 36 (.ixsl 1 (.t 34) (.t 35)), qq 37 (.load false 1 (.t 36)), qq 38 (.mv (.t 11)), qq 39 (.conv .u32 (.t 38)), qq 40 (.mv (.t 8)), qq 41 (.call 96 [(.t 37), (.t 39), (.t 40)]), qq 31 (.mv (.t 41)), qq 42 (.ext (.t 31) 0), qq 43 (.ext (.t 31) 1), qq 44 (.ixsl 1 (.t 32) (.t 33)), qn (.store 1 (.t 44) (.t 42)), qq 8 (.mv (.t 43))]))))) (.reg [qq 45 (.bin .add (.t 17) (ci 1)), qq 17 (.mv (.t 45))]))))))) (.seq (.reg [qq 47 (.mv (.t 0)), qq 48 (.mv (.t 1)), qq 49 (.lensl (.t 48)), qq 50 (.mv (.t 0)), qq 51 (.mv (.t 1)), qq 52 (.lensl (.t 51)), qq 53 (.ixsl 1 (.t 50) (.t 52)), qq 54 (.load false 1 (.t 53)), qq 55 (.mv (.t 7)), qq 56 (.conv .u32 (.t 55)), qq 57 (.mv (.t 8)), qq 58 (.call 96 [(.t 54), (.t 56), (.t 57)]), qq 46 (.mv (.t 58)), qq 59 (.ext (.t 46) 0), qq 60 (.ext (.t 46) 1), qq 61 (.ixsl 1 (.t 47) (.t 49)), qn (.store 1 (.t 61) (.t 59)), qq 8 (.mv (.t 60))]) (.seq (.seq (.reg [qq 62 (.mv (.t 8)), qq 63 (.bin .eql (.t 62) (.c (.int .u32 0)))]) (.cond (.t 63) (.seq (.reg [qq 6 (.mv (.c (.bool false)))]) .ret) .skip)) (.seq (.reg [qq 12 (.mv (.c (.int .u32 0)))]) (.seq (.seq (.reg [qq 64 (.mv (.t 1)), qq 65 (.lensl (.t 64)), qq 66 (.mv (ci 0))]) (.block 2 (.loop (.seq (.reg [qq 67 (.bin .lss (.t 66) (.t 65))]) (.seq (.cond (.t 67) .skip (.exit 2)) (.seq (.block 3 (.seq (.reg [qq 68 (.mv (.t 66)), qq 69 (.ixsl 1 (.t 64) (.t 66)), qq 70 (.load false 1 (.t 69)), qq 13 (.mv (.t 68)), qq 14 (.mv (.t 70))]) (.reg [qq 72 (.mv (.t 0)), qq 73 (.mv (.t 13)), qq 74 (.mv (.t 0)), qq 75 (.mv (.t 13)), qq 76 (.ixsl 1 (.t 74) (.t 75)), qq 77 (.load false 1 (.t 76)), qq 78 (.mv (.t 14)), qq 79 (.mv (.t 12)), qq 80 (.call 94 [(.t 77), (.t 78), (.t 79)]), qq 71 (.mv (.t 80)), qq 81 (.ext (.t 71) 0), qq 82 (.ext (.t 71) 1), qq 83 (.ixsl 1 (.t 72) (.t 73)), qn (.store 1 (.t 83) (.t 81)), qq 12 (.mv (.t 82))]))) (.reg [qq 84 (.bin .add (.t 66) (ci 1)), qq 66 (.mv (.t 84))]))))))) (.seq (.reg [qq 85 (.mv (.t 0)), qq 86 (.mv (.t 1)), qq 87 (.lensl (.t 86)), qq 88 (.ixsl 1 (.t 85) (.t 87)), qq 89 (.load false 1 (.t 88)), qq 90 (.mv (.t 12)), qq 91 (.bin .add (.t 89) (.t 90)), qq 92 (.ixsl 1 (.t 85) (.t 87)), qn (.store 1 (.t 92) (.t 91))]) (.seq (.reg [qq 6 (.mv (.c (.bool true)))]) .ret)))))))))
theorem tr110 : trFun Tryz.prog 110 = some ⟨93, [.t 6], c110⟩ := by kernel_rfl
set_option maxHeartbeats 2000000 in
theorem ok_ntake : SpecOK Tryz.prog 110 (upS spTake) := by
  refine up_run (env_cons ok_add32 (env_cons ok_sub32 (env_nil _))) mixed tr110 ?_ ?_
  · intro args h h' v hle e
    unfold spTake at e ⊢
    split at e
    · split at e
      · rename_i blk ds hb hds
        simp only [hle _ _ hb, shows_mono hle hds]; exact e
      · cases e
    · cases e
  intro args v ku b h N hG hN
  unfold spTake at hG
  split at hG
  case h_2 => cases hG
  rename_i ku0 off len cap kd od dlen dcap q
  split at hG
  case h_2 => cases hG
  rename_i blk ds hb hds
  split at hG
  case isFalse => cases hG
  rename_i hl
  obtain ⟨hu, hud, hlen, hle, hq0, hq, hdl, hne, hz⟩ := hl
  cases hG
  have hku := hN _ _ hb
  obtain ⟨q, rfl⟩ := Int.eq_ofNat_of_zero_le hq0
  simp only [Int.toNat_natCast]
  refine ⟨hku, tb_base _ _, rfl, by simp, ?_⟩
  obtain ⟨kb, od', K, cap', blkd, e0, hbd, hled, hcell, hD, hdlen⟩ := shows_tb hds hud
  cases e0
  subst hlen
  obtain ⟨elem, sz, x, cells⟩ := blk
  simp only at hu hle hb hz ⊢
  have hz' := eq_false hz
  have hcells := tb_ud hu
  generalize hW : ud cells = W at *
  generalize hLL : cells.length = L at *
  subst hcells
  clear hW hLL hu hds hud hdlen
  generalize ud ds = D at *
  have hkd := hN _ _ hbd
  have n1 : (ku = kd) = False := eq_false hne
  have hq' : q < 4294967296 := by omega
  obtain ⟨hct, hP⟩ := cyM_top hD hq'
  have hU : W / 4294967296 ^ off % 4294967296 ^ (dlen + 1) < 4294967296 ^ (dlen + 1) := Nat.mod_lt _ (pB _)
  have hseg : ∀ i, i ≤ dlen → lm (W / 4294967296 ^ off % 4294967296 ^ (dlen + 1)) i = lm W (off + i) := fun i hi => seg_limb (by omega)
  unfold tkCells
  generalize W / 4294967296 ^ off % 4294967296 ^ (dlen + 1) = U at *
  generalize hPP : q * D = P at *
  have eq64 : IntKind.u64.wrap (q : Int) = (q : Int) := u64_nat (by omega)
  simp only [c110, G0, Nat.reduceAdd]
  simp only [↓R0, R1, simprocAttr, -Int.reduceAbs]
  refine lp_parts (fun m tm hp nx => ∃ (i : Nat) (f : Nat → Nat), m + i = dlen ∧ tmget tm 0 = .slice (some ⟨ku, off, none⟩) (dlen + 1) cap ∧ tmget tm 1 = .slice (some ⟨kd, od, none⟩) dlen dcap ∧ tmget tm 2 = .int .u32 (q : Nat) ∧
      tmget tm 7 = .int .u64 (cyM D q i : Nat) ∧ tmget tm 8 = .int .u32 (cyS U P i : Nat) ∧ tmget tm 15 = .slice (some ⟨kd, od, none⟩) dlen dcap ∧ tmget tm 16 = .int .i64 dlen ∧ tmget tm 17 = .int .i64 i ∧
      hget hp ku = some ⟨elem, sz, x, tb L f⟩ ∧ (∀ j, j < L → f j = if off ≤ j ∧ j < off + i then lm (tkT U P dlen) (j - off) else lm W j) ∧ (∀ q, q < N → q ≠ ku → hget hp q = hget h q) ∧ nx = N + 0) ?_ dlen
    ⟨0, lm W, by omega, ?_, ?_, ?_, ?_, ?_, ?_, ?_, ?_, hb, fun j hj => by rw [if_neg (by omega)], fun q _ _ => rfl, rfl⟩
  · intro m tm hp nx ⟨i, f, hm, h0, h1, h2, h7, h8, h15, h16, h17, hb1, hf, hh, hnx⟩
    rw [hnx]
    clear hnx nx
    have hbb : hget hp kd = some blkd := by rw [hh kd hkd (fun e => hne e.symm)]; exact hbd
    obtain ⟨hc1, hc2⟩ := cyM_lt (d := D) (i := i) hq'
    have c1' : i ≤ dlen := by omega
    have c2' : i < dlen + 1 := by omega
    have c3 : off + i < L := by omega
    have c3' : off + i + 1 ≤ L := by omega
    have hfi : f (off + i) = lm U i := by rw [hf _ c3, if_neg (by omega), hseg i c1']
    have k1 := tb_get' f c3
    rw [hfi] at k1
    have b1 := lm_lt U i
    have b2 := lm_lt P i
    have b3 := cyS_le U P i
    have v1 : ((lm U i : Nat) : Int) < 4294967296 := by omega
    have v2 : ((lm P i : Nat) : Int) < 4294967296 := by omega
    have v3 : ((cyS U P i : Nat) : Int) ≤ 1 := by omega
    have v4 := tk_limb (u := U) hP c1'
    have v5 := cyS_int U P i
    by_cases c1 : i < dlen
    · have hlim := cyM_limb D q i
      rw [hPP] at hlim
      have hcs := cyM_succ D q i
      have b4 := lm_lt D i
      have hx1 : lm D i * q ≤ 4294967295 * 4294967295 := Nat.mul_le_mul (by omega) (by omega)
      have w1 := u64_nat (n := lm D i) (by omega)
      have w2 : IntKind.u64.wrap ((lm D i : Int) * (q : Int)) = ((lm D i * q : Nat) : Int) := by rw [← Int.natCast_mul, u64_nat (by omega)]
      have w3 : IntKind.u64.wrap (((lm D i * q : Nat) : Int) + (cyM D q i : Int)) = ((lm D i * q + cyM D q i : Nat) : Int) := by rw [← Int.natCast_add, u64_nat hc2]
      have w4 : ((lm D i * q + cyM D q i : Nat) : Int).fdiv (2 ^ min 32 IntKind.u64.bits) = ((cyM D q (i + 1) : Nat) : Int) := by
        have : (2 : Int) ^ min 32 IntKind.u64.bits = 4294967296 := rfl
        rw [this, Int.fdiv_eq_ediv_of_nonneg _ (by omega), hcs]; omega
      have w5 : IntKind.u32.wrap ((lm D i * q + cyM D q i : Nat) : Int) = (lm P i : Int) := by rw [u32_mod, ← hlim]
      have e3 : IntKind.i64.wrap ((i : Int) + 1) = ((i + 1 : Nat) : Int) := by rw [i64_in _ (by omega)]; omega
      have k2 := hcell i c1
      simp only [↓R0, R1, simprocAttr, -Int.reduceAbs, h0, h1, h2, h7, h8, h15, h16, h17, hb1, hbb, c1, c1', c2', c3, c3', n1, hz', eq64, w1, w2, w3, w4, w5, e3, k1, k2, spSub32, v1, v2, v3, v4, v5, tb_length, tb_set]
      refine ⟨m - 1, by omega, i + 1, _, by omega, rfl, rfl, rfl, rfl, fun j hj => ?_, ?_⟩
      · by_cases g : j = off + i
        · rw [if_pos g, if_pos (by omega), g]; congr 1; omega
        · rw [if_neg g, hf j hj]
          by_cases g2 : off ≤ j ∧ j < off + i
          · rw [if_pos g2, if_pos (by omega)]
          · rw [if_neg g2, if_neg (by omega)]
      · intro q hq hqk
        simp only [if_neg (fun e : ku = q => hqk e.symm)]
        exact hh q hq hqk
    · have ei : i = dlen := by omega
      subst ei
      have w1 : IntKind.u32.wrap (cyM D q i : Int) = (lm P i : Int) := by rw [u32_nat hc1, hct]
      have hcy := tk_cy hU hP
      simp only [↓R0, R1, simprocAttr, -Int.reduceAbs, h0, h1, h2, h7, h8, h15, h16, h17, hb1, hbb, c1, c2', c3, c3', n1, hz', w1, k1, spSub32, v1, v2, v3, v4, v5, tb_length, tb_set]
      have hg0 : ∀ j, j < L → (fun j => if j = off + i then lm (tkT U P i) i else f j) j = if off ≤ j ∧ j < off + (i + 1) then lm (tkT U P i) (j - off) else lm W j := by
        intro j hj
        simp only
        by_cases g : j = off + i
        · rw [if_pos g, if_pos (by omega), g]; congr 1; omega
        · rw [if_neg g, hf j hj]
          by_cases g2 : off ≤ j ∧ j < off + i
          · rw [if_pos g2, if_pos (by omega)]
          · rw [if_neg g2, if_neg (by omega)]
      have hh0 : ∀ q, q < N → q ≠ ku → hget ((ku, some (⟨elem, sz, x, tb L (fun j => if j = off + i then lm (tkT U P i) i else f j)⟩ : Blk)) :: hp) q = hget h q := by
        intro q hq hqk
        simp only [hget, if_neg (fun e : ku = q => hqk e.symm)]
        exact hh q hq hqk
      generalize (fun j => if j = off + i then lm (tkT U P i) i else f j) = g at *
      by_cases hlt : U < P
      · rw [if_pos hlt] at hcy
        have z1 : ((1 : Nat) : Int) = 1 := rfl
        have hblt : Nat.blt U P = true := by rw [Nat.blt_eq]; exact hlt
        have hX : tkX U P D i = tkT U P i + D := by unfold tkX tkT; rw [if_pos hlt]
        rw [hblt, hX]
        generalize tkT U P i = T at *
        simp only [↓R0, R1, simprocAttr, -Int.reduceAbs, hcy, z1, h1]
        refine lp_parts (fun m2 tm hp nx => ∃ (r : Nat) (f : Nat → Nat), m2 + r = i ∧ tmget tm 0 = .slice (some ⟨ku, off, none⟩) (i + 1) cap ∧ tmget tm 1 = .slice (some ⟨kd, od, none⟩) i dcap ∧
          tmget tm 12 = .int .u32 (cyA T D r : Nat) ∧ tmget tm 64 = .slice (some ⟨kd, od, none⟩) i dcap ∧ tmget tm 65 = .int .i64 i ∧ tmget tm 66 = .int .i64 r ∧
          hget hp ku = some ⟨elem, sz, x, tb L f⟩ ∧ (∀ j, j < L → f j = if off ≤ j ∧ j < off + r then lm (T + D) (j - off) else if off ≤ j ∧ j < off + (i + 1) then lm T (j - off) else lm W j) ∧ (∀ q, q < N → q ≠ ku → hget hp q = hget h q) ∧ nx = N + 0) ?_ i
          ⟨0, g, by omega, ?_, ?_, ?_, ?_, ?_, ?_, ?_, fun j hj => by rw [hg0 j hj, if_neg (show ¬ (off ≤ j ∧ j < off + 0) by omega)], hh0, rfl⟩
        · clear hh0 hg0 hh hbb hb1 hf h0 h1 h2 h7 h8 h15 h16 h17 k1 v1 v3 v4 v5 hfi
          clear tm hp f g hm m
          intro m2 tm hp nx ⟨r, f, hm, h0, h1, h12, h64, h65, h66, hb1, hf, hh, hnx⟩
          rw [hnx]
          clear hnx nx
          have hbb : hget hp kd = some blkd := by rw [hh kd hkd (fun e => hne e.symm)]; exact hbd
          have c4 : r ≤ i := by omega
          have c4' : r < i + 1 := by omega
          have c5 : off + r < L := by omega
          have c5' : off + r + 1 ≤ L := by omega
          have hfr : f (off + r) = lm T r := by rw [hf _ c5, if_neg (by omega), if_pos (by omega)]; congr 1; omega
          have k1 := tb_get' f c5
          rw [hfr] at k1
          have b1 := lm_lt T r
          have b2 := lm_lt D r
          have b3 := cyA_le T D r
          have v1 : ((lm T r : Nat) : Int) < 4294967296 := by omega
          have v2 : ((lm D r : Nat) : Int) < 4294967296 := by omega
          have v3 : ((cyA T D r : Nat) : Int) ≤ 1 := by omega
          have v4 : ((lm T r : Int) + lm D r + cyA T D r) % 4294967296 = (lm (T + D) r : Int) := by rw [add_limb]; omega
          have v5 : ((lm T r : Int) + lm D r + cyA T D r) / 4294967296 = (cyA T D (r + 1) : Int) := by rw [cyA_succ]; omega
          by_cases c6 : r < i
          · have k2 := hcell r c6
            have e3 : IntKind.i64.wrap ((r : Int) + 1) = ((r + 1 : Nat) : Int) := by rw [i64_in _ (by omega)]; omega
            simp only [↓R0, R1, simprocAttr, -Int.reduceAbs, h0, h1, h12, h64, h65, h66, hb1, hbb, c4, c4', c5, c5', c6, n1, hz', e3, k1, k2, spAdd32, v1, v2, v3, v4, v5, tb_length, tb_set]
            refine ⟨m2 - 1, by omega, r + 1, _, by omega, rfl, rfl, rfl, fun j hj => ?_, ?_⟩
            · by_cases g : j = off + r
              · rw [if_pos g, if_pos (by omega), g]; congr 1; omega
              · rw [if_neg g, hf j hj]
                by_cases g2 : off ≤ j ∧ j < off + r
                · rw [if_pos g2, if_pos (by omega)]
                · rw [if_neg g2, if_neg (show ¬ (off ≤ j ∧ j < off + (r + 1)) by omega)]
            · intro q hq hqk
              simp only [if_neg (fun e : ku = q => hqk e.symm)]
              exact hh q hq hqk
          · have er : r = i := by omega
            subst er
            have hz : lm D r = 0 := lm_of_lt' hD (Nat.le_refl _)
            have w1 : IntKind.u32.wrap ((lm T r : Int) + (cyA T D r : Int)) = (lm (T + D) r : Int) := by rw [u32_int, add_limb, hz]; omega
            simp only [↓R0, R1, simprocAttr, -Int.reduceAbs, h0, h1, h12, h64, h65, h66, hb1, hbb, c4, c4', c5, c5', c6, n1, hz', k1, w1, tb_length, tb_set, FinU, Fin, isEnd, resL, res1, iE, rE]
            refine ⟨_, rfl, rfl, ?_, ?_⟩
            · congr 2
              apply tb_congr
              intro j hj
              by_cases g : j = off + r
              · rw [if_pos g, if_pos (by omega), g]; congr 1; omega
              · rw [if_neg g, hf j hj]
                by_cases g2 : off ≤ j ∧ j < off + r
                · rw [if_pos g2, if_pos (by omega)]
                · rw [if_neg g2]
                  by_cases g3 : off ≤ j ∧ j < off + (r + 1)
                  · omega
                  · rw [if_neg g3, if_neg g3]
            · intro q hq hqk
              simp only [if_neg (fun e : ku = q => hqk e.symm)]
              exact hh q hq hqk
        · (first | (simp only [↓R0, R1, simprocAttr, -Int.reduceAbs, h0]; done) | (simp only [↓R0, R1, simprocAttr, -Int.reduceAbs, h0]; rfl) | rfl)
        · (first | (simp only [↓R0, R1, simprocAttr, -Int.reduceAbs, h1]; done) | (simp only [↓R0, R1, simprocAttr, -Int.reduceAbs, h1]; rfl) | rfl)
        · (first | (simp only [↓R0, R1, simprocAttr, -Int.reduceAbs, cyA_zero]; done) | (simp only [↓R0, R1, simprocAttr, -Int.reduceAbs, cyA_zero]; rfl) | rfl)
        · (first | (simp only [↓R0, R1, simprocAttr, -Int.reduceAbs, h1]; done) | (simp only [↓R0, R1, simprocAttr, -Int.reduceAbs, h1]; rfl) | rfl)
        · (first | (simp only [↓R0, R1, simprocAttr, -Int.reduceAbs]; done) | (simp only [↓R0, R1, simprocAttr, -Int.reduceAbs]; rfl) | rfl)
        · (first | (simp only [↓R0, R1, simprocAttr, -Int.reduceAbs]; done) | (simp only [↓R0, R1, simprocAttr, -Int.reduceAbs]; rfl) | rfl)
        · (first | (simp only [↓R0, R1, simprocAttr, -Int.reduceAbs]; done) | (simp only [↓R0, R1, simprocAttr, -Int.reduceAbs]; rfl) | rfl)
      · rw [if_neg hlt] at hcy
        have z1 : ((0 : Nat) : Int) = 0 := rfl
        have hblt : Nat.blt U P = false := by
          cases hb : Nat.blt U P with
          | false => rfl
          | true => rw [Nat.blt_eq] at hb; exact absurd hb hlt
        rw [hblt]
        simp only [↓R0, R1, simprocAttr, -Int.reduceAbs, hcy, z1, FinU, Fin, isEnd, resL, res1, iE, rE]
        refine ⟨_, rfl, rfl, ?_, ?_⟩
        · congr 2
          apply tb_congr
          intro j hj
          rw [hg0 j hj]
          by_cases g2 : off ≤ j ∧ j < off + (i + 1)
          · rw [if_pos g2, if_pos g2, tk_done hlt (by omega)]
          · rw [if_neg g2, if_neg g2]
        · intro q hq hqk
          simp only [if_neg (fun e : ku = q => hqk e.symm)]
          exact hh q hq hqk
  · (first | (simp only [↓R0, R1, simprocAttr, -Int.reduceAbs]; done) | (simp only [↓R0, R1, simprocAttr, -Int.reduceAbs]; rfl) | rfl)
  · (first | (simp only [↓R0, R1, simprocAttr, -Int.reduceAbs]; done) | (simp only [↓R0, R1, simprocAttr, -Int.reduceAbs]; rfl) | rfl)
  · (first | (simp only [↓R0, R1, simprocAttr, -Int.reduceAbs]; done) | (simp only [↓R0, R1, simprocAttr, -Int.reduceAbs]; rfl) | rfl)
  · (first | (simp only [↓R0, R1, simprocAttr, -Int.reduceAbs, cyM_zero]; done) | (simp only [↓R0, R1, simprocAttr, -Int.reduceAbs, cyM_zero]; rfl) | rfl)
  · (first | (simp only [↓R0, R1, simprocAttr, -Int.reduceAbs, cyS_zero]; done) | (simp only [↓R0, R1, simprocAttr, -Int.reduceAbs, cyS_zero]; rfl) | rfl)
  · (first | (simp only [↓R0, R1, simprocAttr, -Int.reduceAbs]; done) | (simp only [↓R0, R1, simprocAttr, -Int.reduceAbs]; rfl) | rfl)
  · (first | (simp only [↓R0, R1, simprocAttr, -Int.reduceAbs]; done) | (simp only [↓R0, R1, simprocAttr, -Int.reduceAbs]; rfl) | rfl)
  · (first | (simp only [↓R0, R1, simprocAttr, -Int.reduceAbs]; done) | (simp only [↓R0, R1, simprocAttr, -Int.reduceAbs]; rfl) | rfl)
end Go.Eng
end
section
set_option linter.unusedVariables false
set_option linter.unusedSimpArgs false
set_option linter.unusedSectionVars false
namespace Go.Eng
theorem lg_facts {R Dv k p : Nat} (hD : Dv < 4294967296 ^ (p + 2)) (hD1 : 4294967296 ^ (p + 1) ≤ Dv) (hR : R < Dv * 4294967296 ^ (k + 1)) :
    1 ≤ lm Dv (p + 1) ∧ R / 4294967296 ^ k / Dv < 4294967296 ∧
    lm R (k + (p + 2)) * 4294967296 + lm R (k + (p + 1)) < (lm Dv (p + 1) + 1) * 4294967296 ∧
    R / 4294967296 ^ k / Dv * (lm Dv (p + 1) * 4294967296 + lm Dv p) ≤ (lm R (k + (p + 2)) * 4294967296 + lm R (k + (p + 1))) * 4294967296 + lm R (k + p) ∧
    ∀ q r, q * lm Dv (p + 1) + r = lm R (k + (p + 2)) * 4294967296 + lm R (k + (p + 1)) → q * lm Dv p ≤ r * 4294967296 + lm R (k + p) → q < 4294967296 → q ≤ R / 4294967296 ^ k / Dv + 1 := by
  have hDp : 0 < Dv := Nat.lt_of_lt_of_le (pB (p + 1)) hD1
  have hseg : R / 4294967296 ^ k < Dv * 4294967296 := by
    refine Nat.div_lt_of_lt_mul ?_
    rw [Nat.pow_succ, ← Nat.mul_assoc, Nat.mul_comm Dv, Nat.mul_assoc] at hR
    exact hR
  have hseg3 : R / 4294967296 ^ k < 4294967296 ^ (p + 3) := by
    rw [show p + 3 = p + 2 + 1 by omega, Nat.pow_succ]
    exact Nat.lt_of_lt_of_le hseg (Nat.mul_le_mul_right _ (Nat.le_of_lt hD))
  have e1 := lm_shift R k (p + 2)
  have e2 := lm_shift R k (p + 1)
  have e3 := lm_shift R k p
  rw [← e1, ← e2, ← e3]
  generalize R / 4294967296 ^ k = seg at *
  have hparts := kn_parts hD
  have hfront := kn_front hseg3
  have hdl := Nat.mod_lt Dv (pB p)
  have hsl := Nat.mod_lt seg (pB p)
  have hd2 := lm_lt Dv p
  have htop : 1 ≤ lm Dv (p + 1) := by
    rw [lm_top (j := p + 1) hD]
    exact (Nat.le_div_iff_mul_le (pB _)).2 (by rw [Nat.one_mul]; exact hD1)
  refine ⟨htop, ?_, ?_, ?_, ?_⟩
  · rw [Nat.div_lt_iff_lt_mul hDp, Nat.mul_comm]; exact hseg
  · exact kn_lt hparts hd2 hdl hfront hseg (by omega)
  · exact kn_true hparts hfront hsl (by rw [Nat.mul_comm]; exact Nat.mul_div_le _ _)
  · intro q r hr hc hq
    have h := kn_end (P := 4294967296 ^ p) hr hc hq htop hdl
    rw [← hparts] at h
    have h2 : (q - 1) * Dv ≤ seg := by rw [hfront]; omega
    have := (Nat.le_div_iff_mul_le hDp).2 h2
    omega
theorem lg_cells {R Dv k m q qd : Nat} (hDp : 0 < Dv) (hD : Dv < 4294967296 ^ m) (hR : R < Dv * 4294967296 ^ (k + 1)) (hqd : qd = R / 4294967296 ^ k / Dv) (hle : qd ≤ q) (hge : q ≤ qd + 1) :
    (R / 4294967296 ^ k < q * Dv ↔ q = qd + 1) ∧ ∀ j, (if k ≤ j ∧ j < k + (m + 1) then lm (tkX (R / 4294967296 ^ k) (q * Dv) Dv m) (j - k) else lm R j) = lm (R - qd * (Dv * 4294967296 ^ k)) j := by
  have hRB : R < 4294967296 ^ (k + m + 1) := by
    refine Nat.lt_of_lt_of_le hR ?_
    rw [show k + m + 1 = m + (k + 1) by omega, Nat.pow_add _ m]
    exact Nat.mul_le_mul_right _ (Nat.le_of_lt hD)
  have hdm := Nat.div_add_mod R (4294967296 ^ k)
  have hml := Nat.mod_lt R (pB k)
  have hq1 : qd * Dv ≤ R / 4294967296 ^ k := by rw [hqd, Nat.mul_comm]; exact Nat.mul_div_le _ _
  have hq2 : R / 4294967296 ^ k < (qd + 1) * Dv := by rw [hqd, Nat.mul_comm]; exact Nat.lt_mul_div_succ _ hDp
  clear hqd
  generalize hs : R / 4294967296 ^ k = seg at *
  have hcase : (seg < q * Dv ↔ q = qd + 1) := by
    constructor
    · intro h
      rcases Nat.lt_or_ge q (qd + 1) with g | g
      · have : q = qd := by omega
        subst this; omega
      · omega
    · intro h; rw [h]; exact hq2
  refine ⟨hcase, fun j => ?_⟩
  have hY : R - qd * (Dv * 4294967296 ^ k) = R % 4294967296 ^ k + (seg - qd * Dv) * 4294967296 ^ k := by
    have e : seg = (seg - qd * Dv) + qd * Dv := by omega
    have : 4294967296 ^ k * seg = (seg - qd * Dv) * 4294967296 ^ k + qd * (Dv * 4294967296 ^ k) := by
      conv => lhs; rw [e]
      rw [Nat.mul_comm, Nat.add_mul, Nat.mul_assoc qd]
    omega
  have hX : ∀ i, i ≤ m → lm (tkX seg (q * Dv) Dv m) i = lm (seg - qd * Dv) i := by
    intro i hi
    unfold tkX
    by_cases c : seg < q * Dv
    · have hq := hcase.1 c
      rw [if_pos c, hq]
      have hB : Dv ≤ 4294967296 ^ (m + 1) := Nat.le_trans (Nat.le_of_lt hD) (Nat.pow_le_pow_right (by omega) (by omega))
      rw [Nat.add_mul, Nat.one_mul]
      rw [show seg + 4294967296 ^ (m + 1) - (qd * Dv + Dv) + Dv = seg - qd * Dv + 1 * 4294967296 ^ (m + 1) by omega, lm_add_mul (by omega)]
    · have hq : q = qd := by
        rcases Nat.lt_or_ge qd q with g | g
        · exact absurd (hcase.2 (by omega)) c
        · omega
      rw [if_neg c, hq]
  by_cases c : k ≤ j ∧ j < k + (m + 1)
  · rw [if_pos c, hX _ (by omega)]
    obtain ⟨i, rfl⟩ : ∃ i, j = k + i := ⟨j - k, by omega⟩
    rw [← lm_shift, hY, Nat.add_mul_div_right _ _ (pB k), Nat.div_eq_of_lt hml, Nat.zero_add]
    congr 1; omega
  · rw [if_neg c]
    by_cases c2 : j < k
    · rw [hY, lm_add_mul c2, lm_mod c2]
    · have hj : k + m + 1 ≤ j := by omega
      rw [lm_of_lt' hRB hj, lm_of_lt' (Nat.lt_of_le_of_lt (Nat.sub_le _ _) hRB) hj]
structure LG (u d p K L : Nat) : Prop where
  hi : d < 4294967296 ^ (p + 2)
  lo : 4294967296 ^ (p + 1) ≤ d
  quo : u < d * 4294967296 ^ K
  len : u < 4294967296 ^ L
def lgR (u d M : Nat) : Nat := u % (d * 4294967296 ^ M)
theorem lgR_top {u d p K L : Nat} (g : LG u d p K L) : lgR u d K = u := Nat.mod_eq_of_lt g.quo
theorem lgR_zero (u d : Nat) : lgR u d 0 = u % d := by unfold lgR; rw [Nat.pow_zero, Nat.mul_one]
theorem lg_ud {u d p K L m : Nat} (g : LG u d p K L) : ud (tb L (lm (lgR u d m))) = lgR u d m := by
  rw [ud_tb, Nat.mod_eq_of_lt]
  exact Nat.lt_of_le_of_lt (Nat.mod_le _ _) g.len
theorem lg_dv {u d p K L : Nat} (g : LG u d p K L) : ud (tb (p + 2) (lm d)) = d := by rw [ud_tb, Nat.mod_eq_of_lt g.hi]
theorem lg_end {u d p K L : Nat} (g : LG u d p K L) : ud (tb (p + 2) (lm (lgR u d 0))) = u % d := by
  rw [ud_tb, lgR_zero, Nat.mod_eq_of_lt]
  exact Nat.lt_trans (Nat.mod_lt _ (Nat.lt_of_lt_of_le (pB _) g.lo)) g.hi
theorem lg_step {u d p K L k : Nat} (g : LG u d p K L) (hk : k < K) (hL : k + (p + 2) < L) :
    ∃ t2 t1 t0 top d2 qd, lm (lgR u d (k + 1)) (k + (p + 2)) = t2 ∧ lm (lgR u d (k + 1)) (k + (p + 1)) = t1 ∧ lm (lgR u d (k + 1)) (k + p) = t0 ∧ lm d (p + 1) = top ∧ lm d p = d2 ∧ lm (u / d) k = qd ∧
      t2 < 4294967296 ∧ t1 < 4294967296 ∧ t0 < 4294967296 ∧ top < 4294967296 ∧ d2 < 4294967296 ∧ 1 ≤ top ∧ qd < 4294967296 ∧ t2 * 4294967296 + t1 < (top + 1) * 4294967296 ∧
      qd * (top * 4294967296 + d2) ≤ (t2 * 4294967296 + t1) * 4294967296 + t0 ∧
      (∀ q r, q * top + r = t2 * 4294967296 + t1 → q * d2 ≤ r * 4294967296 + t0 → q < 4294967296 → q ≤ qd + 1) ∧
      (∀ q, qd ≤ q → q ≤ qd + 1 → Nat.blt (lgR u d (k + 1) / 4294967296 ^ k % 4294967296 ^ (p + 2 + 1)) (q * d) = Nat.beq q (qd + 1) ∧ tkCells (lgR u d (k + 1)) k (p + 2) d q L = tb L (lm (lgR u d k))) := by
  have hd0 : 0 < d := Nat.lt_of_lt_of_le (pB _) g.lo
  have hR : lgR u d (k + 1) < d * 4294967296 ^ (k + 1) := Nat.mod_lt _ (Nat.mul_pos hd0 (pB _))
  have hq := dig_lm u d k hd0
  have hrest := dig_rest u d k hd0
  have e1 : u % (d * 4294967296 ^ (k + 1)) = lgR u d (k + 1) := rfl
  have e2 : u % (d * 4294967296 ^ k) = lgR u d k := rfl
  rw [e1] at hq hrest
  rw [e2] at hrest
  obtain ⟨f1, f2, f3, f4, f5⟩ := lg_facts g.hi g.lo hR
  refine ⟨_, _, _, _, _, _, rfl, rfl, rfl, rfl, rfl, rfl, lm_lt _ _, lm_lt _ _, lm_lt _ _, lm_lt _ _, lm_lt _ _, f1, lm_lt _ _, f3, ?_, ?_, ?_⟩
  · rw [← hq]; exact f4
  · rw [← hq]; exact f5
  · intro q h1 h2
    obtain ⟨c1, c2⟩ := lg_cells (m := p + 2) hd0 g.hi hR hq.symm h1 h2
    have hseg : lgR u d (k + 1) / 4294967296 ^ k < 4294967296 ^ (p + 2 + 1) := by
      refine Nat.div_lt_of_lt_mul (Nat.lt_of_lt_of_le hR ?_)
      rw [← Nat.pow_add, show k + (p + 2 + 1) = p + 2 + (k + 1) by omega, Nat.pow_add _ (p + 2)]
      exact Nat.mul_le_mul_right _ (Nat.le_of_lt g.hi)
    rw [Nat.mod_eq_of_lt hseg]
    constructor
    · rw [Bool.eq_iff_iff, Nat.blt_eq, Nat.beq_eq]; exact c1
    · unfold tkCells
      rw [Nat.mod_eq_of_lt hseg]
      apply tb_congr
      intro j _
      rw [c2 j, hrest]
def w2 (a b : Nat) : Nat := a * 4294967296 + b
theorem w2_lt {a b : Nat} (ha : a < 4294967296) (hb : b < 4294967296) : w2 a b < 18446744073709551616 := by unfold w2; omega
def LI (X top qd q r : Nat) : Prop := q * top + r = X ∧ qd ≤ q
theorem lg_step2 {u d p K L k : Nat} (g : LG u d p K L) (hk : k < K) (hL : k + (p + 2) < L) :
    ∃ t2 t1 t0 top d2 qd X, lm (lgR u d (k + 1)) (k + (p + 2)) = t2 ∧ lm (lgR u d (k + 1)) (k + (p + 1)) = t1 ∧ lm (lgR u d (k + 1)) (k + p) = t0 ∧ lm d (p + 1) = top ∧ lm d p = d2 ∧ lm (u / d) k = qd ∧ w2 t2 t1 = X ∧
      t2 < 4294967296 ∧ t1 < 4294967296 ∧ t0 < 4294967296 ∧ top < 4294967296 ∧ d2 < 4294967296 ∧ 1 ≤ top ∧ qd < 4294967296 ∧ X < 18446744073709551616 ∧
      LI X top qd (X / top) (X % top) ∧ (∀ q r, LI X top qd q r → 4294967296 ≤ q ∨ w2 r t0 < q * d2 → 1 ≤ q ∧ LI X top qd (q - 1) (r + top)) ∧
      (∀ q r, LI X top qd q r → q < 4294967296 → q * d2 ≤ w2 r t0 → qd ≤ q ∧ q ≤ qd + 1 ∧ q < 4294967296) ∧
      (∀ q r, LI X top qd q r → 4294967296 ≤ r → qd ≤ q ∧ q ≤ qd + 1 ∧ q < 4294967296) ∧ (∀ q r, LI X top qd q r → q ≤ X) ∧
      (∀ q, qd ≤ q → q ≤ qd + 1 → Nat.blt (lgR u d (k + 1) / 4294967296 ^ k % 4294967296 ^ (p + 2 + 1)) (q * d) = Nat.beq q (qd + 1) ∧ tkCells (lgR u d (k + 1)) k (p + 2) d q L = tb L (lm (lgR u d k))) := by
  obtain ⟨t2, t1, t0, top, d2, qd, g1, g2, g3, g4, g5, g6, b2, b1, b0, bt, bd, ht, bq, hX, hqd, hend, hcells⟩ := lg_step g hk hL
  refine ⟨t2, t1, t0, top, d2, qd, w2 t2 t1, g1, g2, g3, g4, g5, g6, rfl, b2, b1, b0, bt, bd, ht, bq, w2_lt b2 b1, ⟨?_, ?_⟩, ?_, ?_, ?_, ?_, hcells⟩
  · rw [Nat.mul_comm]; exact Nat.div_add_mod _ _
  · refine (Nat.le_div_iff_mul_le (by omega)).2 ?_
    have key : ∀ X, qd * (top * 4294967296 + d2) ≤ X * 4294967296 + t0 → qd * top ≤ X := by
      intro X h
      refine Nat.le_of_not_lt fun hlt => ?_
      have h1 : (X + 1) * 4294967296 ≤ qd * top * 4294967296 := Nat.mul_le_mul_right _ hlt
      rw [Nat.mul_add, ← Nat.mul_assoc] at h
      clear hqd hX hend hcells
      omega
    exact key _ hqd
  · intro q r ⟨h1, h2⟩ hc
    have := kn_step hqd h1 h2 bq hc
    refine ⟨by omega, ?_, by omega⟩
    obtain ⟨q, rfl⟩ : ∃ q', q = q' + 1 := ⟨q - 1, by omega⟩
    rw [Nat.add_sub_cancel]
    rw [Nat.add_mul] at h1
    omega
  · intro q r ⟨h1, h2⟩ hq hc
    exact ⟨h2, hend q r h1 hc hq, hq⟩
  · intro q r ⟨h1, h2⟩ hr
    obtain ⟨h3, h4⟩ := kn_break (u2 := t0) h1 hX hr bd
    exact ⟨h2, hend q r h1 h4 h3, h3⟩
  · intro q r ⟨h1, h2⟩
    have : q * 1 ≤ q * top := Nat.mul_le_mul_left _ ht
    omega
end Go.Eng
end
section
set_option linter.unusedVariables false
set_option linter.unusedSimpArgs false
set_option linter.unusedSectionVars false
set_option maxRecDepth 20000
namespace Go.Eng
open Go Go.Proofs Go.IntWalk
theorem shows_new {h : Heap} {N a kb off len cap : Nat} {b : Option Blk} (hk : kb < N) : shows ((N + a, b) :: h) (.slice (some ⟨kb, off, none⟩) len cap) = shows h (.slice (some ⟨kb, off, none⟩) len cap) := by
  simp only [shows, hget, if_neg (show ¬ N + a = kb by omega)]
def spLong : List Value → Heap → Option ((Nat → Nat → Value) × Blk × Blk)
  | [vu, vd], h => match shows h vu, shows h vd with
    | some us, some ds => if uok us = true ∧ uok ds = true ∧ 2 ≤ ds.length ∧ ds.length ≤ us.length ∧ us.length ≤ 8589934592 ∧ 4294967296 ^ (ds.length - 1) ≤ ud ds then
        some (fun a b => .tuple ⟨[.slice (some ⟨a, 0, none⟩) (us.length + 1 - ds.length) (us.length + 1 - ds.length), .slice (some ⟨b, 0, none⟩) ds.length ds.length]⟩,
          ⟨84, 1, false, tb (us.length + 1 - ds.length) (lm (ud us / ud ds))⟩, ⟨84, 1, false, tb ds.length (lm (ud us % ud ds))⟩) else none
    | _, _ => none
  | _, _ => none
def c99 : ICode :=
  (.seq (.reg [qq 4 (.mv (.c (.slice none 0 0))), qq 5 (.mv (.c (.slice none 0 0)))]) (.seq (.reg [qq 15 (.mv (.t 1)), qq 16 (.mv (.t 1)), qq 17 (.lensl (.t 16)), qq 18 (.bin .sub (.t 17) (ci 1)), qq 19 (.ixsl 1 (.t 15) (.t 18)), qq 20 (.load false 1 (.t 19)), qq 21 (.call 108 [(.t 20)]), qq 6 (.mv (.t 21))]) (.seq (.reg [qq 22 (.mv (.t 1)), qq 23 (.mv (.t 6)), qq 24 (.call 109 [(.t 22), (.t 23)]), qq 25 (.mv (.t 1)), qq 26 (.lensl (.t 25)), qq 27 (.slsl 1 (.t 24) none (some (.t 26))), qq 1 (.mv (.t 27))]) (.seq (.reg [qq 28 (.mv (.t 0)), qq 29 (.mv (.t 6)), qq 30 (.call 109 [(.t 28), (.t 29)]), qq 0 (.mv (.t 30))]) (.seq (.reg [qq 31 (.mv (.t 1)), qq 32 (.lensl (.t 31)), qq 7 (.mv (.t 32))]) (.seq (.reg [qq 33 (.mv (.t 1)), qq 34 (.mv (.t 7)), qq 35 (.bin .sub (.t 34) (ci 1)), qq 36 (.ixsl 1 (.t 33) (.t 35)), qq 37 (.load false 1 (.t 36)), qq 8 (.mv (.t 37))]) (.seq (.reg [qq 38 (.mv (.t 0)), qq 39 (.lensl (.t 38)), qq 40 (.mv (.t 7)), qq 41 (.bin .sub (.t 39) (.t 40)), qq 42 (.mxmn true (.t 41) (ci 0)), qq 43 (.mkslice 84 1 4 [(.int .u32 0)] (.t 42) (.t 42)), qq 9 (.mv (.t 43))]) (.seq (.seq (.reg [qq 44 (.mv (.t 9)), qq 45 (.lensl (.t 44)), qq 46 (.mv (ci 0))]) (.block 0 (.loop (.seq (.reg [qq 47 (.bin .lss (.t 46) (.t 45))]) (.seq (.cond (.t 47) .skip (.exit 0)) (.seq (.block 1 (.seq (.reg [qq 48 (.mv (.t 46)), qq 10 (.mv (.t 48))]) (.seq (.reg [qq 49 (.mv (.t 9)), qq 50 (.lensl (.t 49)), qq 51 (.bin .sub (.t 50) (ci 1)), qq 52 (.mv (.t 10)), qq 53 (.bin .sub (.t 51) (.t 52)), qq 11 (.mv (.t 53))]) (.seq (.dreg [qu 54 (.mv (.t 0)), qu 55 (.mv (.t 11)), qu 56 (.mv (.t 7)), qu 57 (.bin .add (.t 55) (.t 56)), qu 58 (.ixsl 1 (.t 54) (.t 57)), qu 59 (.load false 1 (.t 58)), qu 60 (.conv .u64 (.t 59)), qu 61 (.bin .shl (.t 60) (.c (.int .u64 32))), qu 62 (.mv (.t 0)), qu 63 (.mv (.t 11)), qu 64 (.mv (.t 7)), qu 65 (.bin .add (.t 63) (.t 64)), qu 66 (.bin .sub (.t 65) (ci 1)), qu 67 (.ixsl 1 (.t 62) (.t 66)), qu 68 (.load false 1 (.t 67)), qu 69 (.conv .u64 (.t 68)), qu 70 (.bin .or (.t 61) (.t 69)), qu 12 (.mv (.t 70))]) (.seq (.dreg [qu 71 (.mv (.t 12)), qu 72 (.mv (.t 8)), qu 73 (.conv .u64 (.t 72)), qu 74 (.bin .quo (.t 71) (.t 73)), qu 75 (.mv (.t 12)), qu 76 (.mv (.t 8)), qu 77 (.conv .u64 (.t 76)), qu 78 (.bin .rem (.t 75) (.t 77)), qu 13 (.mv (.t 74)), qu 14 (.mv (.t 78))]) (.seq (.block 2 (.loop (.seq (.seq (.dreg [qu 79 (.mv (.t 13)), qu 80 (.bin .gtr (.t 79) (.c (.int .u64 4294967295))), qu 81 (.mv (.t 80)), ⟨(some 82), (some (81, false)), [], (.mv (.t 13))⟩, ⟨(some 83), (some (81, false)), [], (.mv (.t 1))⟩, ⟨(some 84), (some (81, false)), [], (.mv (.t 7))⟩, ⟨(some 85), (some (81, false)), [], (.bin .sub (.t 84) (ci 2))⟩, ⟨(some 86), (some (81, false)), [], (.ixsl 1 (.t 83) (.t 85))⟩, ⟨(some 87), (some (81, false)), [], (.load false 1 (.t 86))⟩, ⟨(some 88), (some (81, false)), [], (.conv .u64 (.t 87))⟩, ⟨(some 89), (some (81, false)), [], (.bin .mul (.t 82) (.t 88))⟩, ⟨(some 90), (some (81, false)), [], (.mv (.t 14))⟩, ⟨(some 91), (some (81, false)), [], (.bin .shl (.t 90) (.c (.int .u64 32)))⟩, ⟨(some 92), (some (81, false)), [], (.mv (.t 0))⟩, ⟨(some 93), (some (81, false)), [], (.mv (.t 11))⟩, ⟨(some 94), (some (81, false)), [], (.mv (.t 7))⟩, ⟨(some 95), (some (81, false)), [], (.bin .add (.t 93) (.t 94))⟩, ⟨(some 96), (some (81, false)), [], (.bin .sub (.t 95) (ci 2))⟩, ⟨(some 97), (some (81, false)), [], (.ixsl 1 (.t 92) (.t 96))⟩, ⟨(some 98), (some (81, false)), [], (.load false 1 (.t 97))⟩, ⟨(some 99), (some (81, false)), [], (.conv .u64 (.t 98))⟩, ⟨(some 100), (some (81, false)), [], (.bin .or (.t 91) (.t 99))⟩, ⟨(some 101), (some (81, false)), [], (.bin .gtr (.t 89) (.t 100))⟩, qu 102 (.pick (.t 81) (.c (.bool true)) (.t 101))]) (.cond (.t 102) .skip (.exit 2))) (.block 3 (.seq (.reg [qq 103 (.mv (.t 13)), qq 104 (.bin .sub (.t 103) (.c (.int .u64 1))), qq 105 (.mv (.t 14)), qq 106 (.mv (.t 8)), qq 107 (.conv .u64 (.t 106)), qq 108 (.bin .add (.t 105) (.t 107)), qq 13 (.mv (.t 104)), qq 14 (.mv (.t 108))]) (.seq (.reg [qq 109 (.mv (.t 14)), qq 110 (.bin .gtr (.t 109) (.c (.int .u64 4294967295)))]) (.cond (.t 110) (.exit 2) .skip))))))) (.seq (.seq (.reg [qq 111 (.mv (.t 0)), qq 112 (.mv (.t 11)), qq 113 (.mv (.t 11)), qq 114 (.mv (.t 7)), qq 115 (.bin .add (.t 113) (.t 114)), qq 116 (.bin .add (.t 115) (ci 1)), qq 117 (.slsl 1 (.t 111) (some (.t 112)) (some (.t 116))), qq 118 (.mv (.t 1)), qq 119 (.mv (.t 13)), qq 120 (.conv .u32 (.t 119)), qq 121 (.call 110 [(.t 117), (.t 118), (.t 120)])]) (.cond (.t 121) (.reg [qq 122 (.mv (.t 13)), qq 123 (.bin .sub (.t 122) (.c (.int .u64 1))), qq 13 (.mv (.t 123))]) .skip)) (.reg [qq 124 (.mv (.t 9)), qq 125 (.mv (.t 11)), qq 126 (.mv (.t 13)), qq 127 (.conv .u32 (.t 126)), qq 128 (.ixsl 1 (.t 124) (.t 125)), qn (.store 1 (.t 128) (.t 127))])))))))) (.reg [qq 129 (.bin .add (.t 46) (ci 1)), qq 46 (.mv (.t 129))]))))))) (.seq (.reg [qq 130 (.mv (.t 9)), qq 131 (.mv (.t 0)), qq 132 (.mv (.t 7)), qq 133 (.slsl 1 (.t 131) none (some (.t 132))), qq 134 (.mv (.t 6)), qq 135 (.call 111 [(.t 133), (.t 134)]), qq 4 (.mv (.t 130)), qq 5 (.mv (.t 135))]) .ret)))))))))
theorem tr99 : trFun Tryz.prog 99 = some ⟨136, [.t 4, .t 5], c99⟩ := by kernel_rfl
theorem lm_lt_int (n j : Nat) : ((lm n j : Nat) : Int) < 4294967296 := by have := lm_lt n j; omega
theorem vr2_sl (l1 c1 l2 c2 : Nat) : vr2 fun a b => .tuple ⟨[.slice (some ⟨a, 0, none⟩) l1 c1, .slice (some ⟨b, 0, none⟩) l2 c2]⟩ :=
  fun β i j i' j' h h' => .tup _ _ (.cons _ _ _ _ (.sl i 0 l1 c1 ⟨j, 0, []⟩ h) (.cons _ _ _ _ (.sl i' 0 l2 c2 ⟨j', 0, []⟩ h') .nil))
theorem lz_fits {D p : Nat} (hD : D < 4294967296 ^ (p + 2)) (h1 : 4294967296 ^ (p + 1) ≤ D) : 32 - l32 (lm D (p + 1)) < 32 ∧ D * 2 ^ (32 - l32 (lm D (p + 1))) < 4294967296 ^ (p + 2) := by
  have ht : 1 ≤ lm D (p + 1) := by
    rw [lm_top (j := p + 1) hD]
    exact (Nat.le_div_iff_mul_le (pB _)).2 (by rw [Nat.one_mul]; exact h1)
  have hlt := lm_lt D (p + 1)
  have hp := l32_pos (n := lm D (p + 1)) (by omega) hlt
  have hle := l32_le hlt
  have hl := l32_lt hlt
  refine ⟨by omega, ?_⟩
  have hd : D < (lm D (p + 1) + 1) * 4294967296 ^ (p + 1) := by
    rw [lm_top (j := p + 1) hD, Nat.mul_comm]
    exact Nat.lt_mul_div_succ _ (pB _)
  have h2 : (lm D (p + 1) + 1) * 4294967296 ^ (p + 1) ≤ 2 ^ l32 (lm D (p + 1)) * 4294967296 ^ (p + 1) := Nat.mul_le_mul_right _ hl
  have h3 : D * 2 ^ (32 - l32 (lm D (p + 1))) < 2 ^ l32 (lm D (p + 1)) * 4294967296 ^ (p + 1) * 2 ^ (32 - l32 (lm D (p + 1))) :=
    Nat.mul_lt_mul_of_pos_right (by omega) (Nat.pow_pos (by omega))
  have e : 2 ^ l32 (lm D (p + 1)) * 4294967296 ^ (p + 1) * 2 ^ (32 - l32 (lm D (p + 1))) = 4294967296 ^ (p + 2) := by
    rw [Nat.mul_right_comm, ← Nat.pow_add, show l32 (lm D (p + 1)) + (32 - l32 (lm D (p + 1))) = 32 by omega, show p + 2 = p + 1 + 1 by omega, Nat.pow_succ 4294967296 (p + 1), Nat.mul_comm]
  omega
theorem spLz32_nat {n : Nat} (h : (n : Int) < 4294967296) : spLz32 [.int .u32 (n : Nat)] = some (.int .i64 ((32 - l32 n : Nat) : Int)) := by
  unfold spLz32
  simp only [Int.toNat_natCast]
  rw [if_pos ⟨Int.natCast_nonneg _, h⟩]
theorem lz_all {U D p lu : Nat} (hU : U < 4294967296 ^ lu) (hD : D < 4294967296 ^ (p + 2)) (hD1 : 4294967296 ^ (p + 1) ≤ D) (hmu : p + 2 ≤ lu) :
    32 - l32 (lm D (p + 1)) < 32 ∧ D * 2 ^ (32 - l32 (lm D (p + 1))) < 4294967296 ^ (p + 2) ∧ spLz32 [.int .u32 (lm D (p + 1) : Nat)] = some (.int .i64 ((32 - l32 (lm D (p + 1)) : Nat) : Int)) ∧
    LG (U * 2 ^ (32 - l32 (lm D (p + 1)))) (D * 2 ^ (32 - l32 (lm D (p + 1)))) p (lu + 1 - (p + 2)) (lu + 1) ∧
    U * 2 ^ (32 - l32 (lm D (p + 1))) / (D * 2 ^ (32 - l32 (lm D (p + 1)))) = U / D ∧
    U * 2 ^ (32 - l32 (lm D (p + 1))) % (D * 2 ^ (32 - l32 (lm D (p + 1)))) / 2 ^ (32 - l32 (lm D (p + 1))) = U % D := by
  obtain ⟨hs, hDs⟩ := lz_fits hD hD1
  refine ⟨hs, hDs, ?_, ?_⟩
  · exact spLz32_nat (lm_lt_int _ _)
  generalize 32 - l32 (lm D (p + 1)) = s at *
  have h2 : 0 < 2 ^ s := Nat.pow_pos (by omega)
  refine ⟨⟨hDs, Nat.le_trans hD1 (Nat.le_mul_of_pos_right _ h2), ?_, ?_⟩, Nat.mul_div_mul_right _ _ h2, by rw [Nat.mul_mod_mul_right, Nat.mul_div_cancel _ h2]⟩
  · have h1 : U * 2 ^ s < 4294967296 ^ lu * 2 ^ s := Nat.mul_lt_mul_of_pos_right hU h2
    have h3 : 4294967296 ^ lu * 2 ^ s = 4294967296 ^ (p + 1) * 2 ^ s * 4294967296 ^ (lu + 1 - (p + 2)) := by
      rw [Nat.mul_right_comm, ← Nat.pow_add, show p + 1 + (lu + 1 - (p + 2)) = lu by omega]
    rw [h3] at h1
    exact Nat.lt_of_lt_of_le h1 (Nat.mul_le_mul_right _ (Nat.mul_le_mul_right _ hD1))
  · rw [Nat.pow_succ]
    have : 2 ^ s ≤ 2 ^ 32 := Nat.pow_le_pow_right (by omega) (by omega)
    exact Nat.mul_lt_mul_of_lt_of_le hU this (by omega)
theorem bv_or64 {x c : Nat} (hx : x < 4294967296) (hc : c < 4294967296) : IntKind.u64.wrap ((BitVec.ofInt IntKind.u64.bits ((c * 2 ^ 32 : Nat) : Int) ||| BitVec.ofInt IntKind.u64.bits (x : Int)).toNat : Int) = ((w2 c x : Nat) : Int) := by
  unfold w2
  have h := or_u64 (x := x) (c := c) (s := 32) (by omega) (by omega)
  rw [BitVec.or_comm, h]; omega
set_option maxHeartbeats 4000000 in
theorem nlong_wp {h : Heap} {N ku ou lu cu kd od p cd s dtop Uv Dv K : Nat} {blkd : Blk}
    (hbd : hget h kd = some blkd) (hcell1 : blkd.cells[od + (p + 1)]? = some (.int .u32 (dtop : Nat)))
    (hz : spLz32 [.int .u32 (dtop : Nat)] = some (.int .i64 (s : Nat)))
    (hd : spShift [.slice (some ⟨kd, od, none⟩) (p + 2) cd, .int .i64 (s : Nat)] h = some (fun k => .slice (some ⟨k, 0, none⟩) (p + 2 + 1) (p + 2 + 1), ⟨84, 1, false, tb (p + 2 + 1) (lm Dv)⟩))
    (hu : ∀ x, spShift [.slice (some ⟨ku, ou, none⟩) lu cu, .int .i64 (s : Nat)] ((N + 0, x) :: h) = some (fun k => .slice (some ⟨k, 0, none⟩) (lu + 1) (lu + 1), ⟨84, 1, false, tb (lu + 1) (lm Uv)⟩))
    (hs : s < 32) (g : LG Uv Dv p K (lu + 1)) (hK : K + (p + 2) = lu + 1) (hmu : p + 2 ≤ lu) (hku : lu ≤ 8589934592) :
    wpI (mkEnv [(108, flat spLz32), (109, nwS spShift), (111, nwS spUnshift), (110, upS spTake)]) c99
      (Fin2 [.t 4, .t 5] (fun a b => .tuple ⟨[.slice (some ⟨a, 0, none⟩) K K, .slice (some ⟨b, 0, none⟩) (p + 2) (p + 2)]⟩) ⟨84, 1, false, tb K (lm (Uv / Dv))⟩ ⟨84, 1, false, tb (p + 2) (lm (Uv % Dv / 2 ^ s))⟩ h N)
      ⟨initT [.slice (some ⟨ku, ou, none⟩) lu cu, .slice (some ⟨kd, od, none⟩) (p + 2) cd], h, N + 0⟩ := by
  have e1 : IntKind.i64.wrap (((p + 2 : Nat) : Int) - 1) = ((p + 1 : Nat) : Int) := by rw [i64_in _ (by omega)]; omega
  have c1 : p + 1 < p + 2 := by omega
  have c2 : p + 2 ≤ p + 2 + 1 := by omega
  have c3 : p + 1 ≤ p + 2 := by omega
  have e7 : IntKind.i64.wrap (((lu + 1 : Nat) : Int) - ((p + 2 : Nat) : Int)) = (K : Int) := by rw [i64_in _ (by omega)]; omega
  have e8 : (if (K : Int) < 0 then (0 : Int) else (K : Int)) = (K : Int) := by rw [if_neg (by omega)]
  have e9 : p + 2 - 0 = p + 2 := rfl
  obtain ⟨top, htop⟩ : ∃ top, lm Dv (p + 1) = top := ⟨_, rfl⟩
  have ktop : (tb (p + 2 + 1) (lm Dv))[p + 1]? = some (.int .u32 (top : Nat)) := by rw [tb_get' (lm Dv) (show p + 1 < p + 2 + 1 by omega), htop]
  have e10 : 4 * (K : Int) ≤ 281474976710656 := by omega
  have e11 : (K : Int) ≤ 9223372036854775807 := by omega
  simp only [c99, G0, Nat.reduceAdd]
  simp only [↓R0, R1, simprocAttr, -Int.reduceAbs, e1, c1, c2, c3, hbd, hcell1, hz, nwS, hd, hu, mkSl, e7, e8, Nat.sub_zero, ktop, e9, e10, e11, tb_rep]
  clear hbd hcell1 hz hd hu e1 c3 e7 e8 e9 ktop e10 e11
  refine lp_parts (fun M tm hp nx => ∃ (i : Nat) (f : Nat → Nat), M + i = K ∧ tmget tm 0 = .slice (some ⟨N + 1, 0, none⟩) (lu + 1) (lu + 1) ∧ tmget tm 1 = .slice (some ⟨N + 0, 0, none⟩) (p + 2) (p + 2 + 1) ∧
      tmget tm 6 = .int .i64 s ∧ tmget tm 7 = .int .i64 (p + 2 : Nat) ∧ tmget tm 8 = .int .u32 top ∧ tmget tm 9 = .slice (some ⟨N + 2, 0, none⟩) K K ∧ tmget tm 45 = .int .i64 K ∧ tmget tm 46 = .int .i64 i ∧
      hget hp (N + 0) = some ⟨84, 1, false, tb (p + 2 + 1) (lm Dv)⟩ ∧ hget hp (N + 1) = some ⟨84, 1, false, tb (lu + 1) (lm (lgR Uv Dv M))⟩ ∧ hget hp (N + 2) = some ⟨84, 1, false, tb K f⟩ ∧
      (∀ j, M ≤ j → j < K → f j = lm (Uv / Dv) j) ∧ (∀ q, q < N → hget hp q = hget h q) ∧ nx = N + 3) ?_ K
    ⟨0, fun _ => 0, by omega, ?_, ?_, ?_, ?_, ?_, ?_, ?_, ?_, ?_, ?_, ?_, fun j hj hj2 => by omega, ?_, rfl⟩
  · intro M tm hp nx ⟨i, f, hM, h0, h1, h6, h7, h8, h9, h45, h46, hb0, hb1, hb2, hf, hh, hnx⟩
    subst hnx
    by_cases c4 : i < K
    · obtain ⟨k, rfl⟩ : ∃ k, M = k + 1 := ⟨M - 1, by omega⟩
      obtain ⟨t2, t1, t0, top', d2, qd, X, g1, g2, g3, g4, g5, g6, gX, b2, b1, b0, bt, bd, ht, bq, bX, hI0, hI1, hI2, hI3, hI4, hcells⟩ := lg_step2 g (show k < K by omega) (show k + (p + 2) < lu + 1 by omega)
      rw [htop] at g4
      subst g4
      have e1 : IntKind.i64.wrap ((K : Int) - 1) = ((K - 1 : Nat) : Int) := by rw [i64_in _ (by omega)]; omega
      have e2 : IntKind.i64.wrap (((K - 1 : Nat) : Int) - (i : Int)) = (k : Int) := by rw [i64_in _ (by omega)]; omega
      have e3 : IntKind.i64.wrap ((k : Int) + ((p + 2 : Nat) : Int)) = ((k + (p + 2) : Nat) : Int) := by rw [i64_in _ (by omega)]; omega
      have e4 : IntKind.i64.wrap (((k + (p + 2) : Nat) : Int) - 1) = ((k + (p + 1) : Nat) : Int) := by rw [i64_in _ (by omega)]; omega
      have e5 : IntKind.i64.wrap (((p + 2 : Nat) : Int) - 2) = (p : Int) := by rw [i64_in _ (by omega)]; omega
      have e6 : IntKind.i64.wrap (((k + (p + 2) : Nat) : Int) - 2) = ((k + p : Nat) : Int) := by rw [i64_in _ (by omega)]; omega
      have e7 : IntKind.i64.wrap (((k + (p + 2) : Nat) : Int) + 1) = ((k + (p + 2) + 1 : Nat) : Int) := by rw [i64_in _ (by omega)]; omega
      have e8 : IntKind.i64.wrap ((i : Int) + 1) = ((i + 1 : Nat) : Int) := by rw [i64_in _ (by omega)]; omega
      have k2 : (tb (lu + 1) (lm (lgR Uv Dv (k + 1))))[k + (p + 2)]? = some (.int .u32 (t2 : Nat)) := by rw [tb_get' _ (by omega), g1]
      have k1 : (tb (lu + 1) (lm (lgR Uv Dv (k + 1))))[k + (p + 1)]? = some (.int .u32 (t1 : Nat)) := by rw [tb_get' _ (by omega), g2]
      have k0 : (tb (lu + 1) (lm (lgR Uv Dv (k + 1))))[k + p]? = some (.int .u32 (t0 : Nat)) := by rw [tb_get' _ (by omega), g3]
      have kd2 : (tb (p + 2 + 1) (lm Dv))[p]? = some (.int .u32 (d2 : Nat)) := by rw [tb_get' _ (by omega), g5]
      have a1 : k + (p + 2) < lu + 1 := by omega
      have a2 : k + (p + 1) < lu + 1 := by omega
      have a3 : k + p < lu + 1 := by omega
      have a4 : p < p + 2 := by omega
      have a5 : k < K := by omega
      have a5' : k + 1 ≤ K := by omega
      have a6 : ¬ (lu + 1 = k) := by omega
      have a7 : k + (p + 2) + 1 ≤ lu + 1 := by omega
      have a8 : k + (p + 2) ≤ lu := by omega
      have a9 : k ≤ k + (p + 2) + 1 := by omega
      have a10 : k + (p + 2) + 1 - k = p + 2 + 1 := by omega
      have x2 := u64_nat (n := t2) (by omega)
      have x1 := u64_nat (n := t1) (by omega)
      have x0 := u64_nat (n := t0) (by omega)
      have xd := u64_nat (n := d2) (by omega)
      have xt := u64_nat (n := top) (by omega)
      have s2 : IntKind.u64.wrap ((t2 : Int) * 2 ^ min 32 IntKind.u64.bits) = ((t2 * 2 ^ 32 : Nat) : Int) := shl64 (c := t2) (s := 32) (by omega) (by omega)
      have o2 := bv_or64 b1 b2
      rw [gX] at o2
      clear g1 g2 g3 g5 gX
      have z1 : ¬ ((top : Int) = 0) := by omega
      have z2 : ¬ (top = 0) := by omega
      have q1 : (X : Int).tdiv (top : Int) = ((X / top : Nat) : Int) := by rw [Int.tdiv_eq_ediv_of_nonneg (by omega)]; rfl
      have q2 : (X : Int).tmod (top : Int) = ((X % top : Nat) : Int) := by rw [Int.tmod_eq_emod_of_nonneg (by omega)]; rfl
      have hml := Nat.mod_lt X (show top > 0 by omega)
      have q3 := u64_nat (n := X / top) (Nat.lt_of_le_of_lt (hI4 _ _ hI0) bX)
      have hr0 : X % top < 4294967296 := by omega
      simp only [↓R0, R1, simprocAttr, -Int.reduceAbs, h0, h1, h6, h7, h8, h9, h45, h46, hb0, hb1, hb2, c4, e1, e2, e3, e4, k2, k1, a1, a2, x2, x1, xt, s2, o2, z1, z2, q1, q2, q3]
      refine lp_parts (fun m2 tm hp nx => ∃ (r : Nat), LI X top qd m2 r ∧ r < 4294967296 ∧ tmget tm 0 = .slice (some ⟨N + 1, 0, none⟩) (lu + 1) (lu + 1) ∧ tmget tm 1 = .slice (some ⟨N + 0, 0, none⟩) (p + 2) (p + 2 + 1) ∧
        tmget tm 6 = .int .i64 s ∧ tmget tm 7 = .int .i64 (p + 2 : Nat) ∧ tmget tm 8 = .int .u32 top ∧ tmget tm 9 = .slice (some ⟨N + 2, 0, none⟩) K K ∧ tmget tm 45 = .int .i64 K ∧ tmget tm 46 = .int .i64 i ∧
        tmget tm 11 = .int .i64 k ∧ tmget tm 13 = .int .u64 m2 ∧ tmget tm 14 = .int .u64 r ∧
        hget hp (N + 0) = some ⟨84, 1, false, tb (p + 2 + 1) (lm Dv)⟩ ∧ hget hp (N + 1) = some ⟨84, 1, false, tb (lu + 1) (lm (lgR Uv Dv (k + 1)))⟩ ∧ hget hp (N + 2) = some ⟨84, 1, false, tb K f⟩ ∧
        (∀ q, q < N → hget hp q = hget h q) ∧ nx = N + 3) ?_ (X / top)
        ⟨X % top, hI0, hr0, ?_, ?_, ?_, ?_, ?_, ?_, ?_, ?_, ?_, ?_, ?_, hb0, hb1, hb2, hh, rfl⟩
      · clear h0 h1 h6 h7 h8 h9 h45 h46 hb0 hb1 hb2 hh q1 q2 q3 hml hr0 hI0
        clear tm hp
        intro q tm hp nx ⟨r, hI, hr, h0, h1, h6, h7, h8, h9, h45, h46, h11, h13, h14, hb0, hb1, hb2, hh, hnx⟩
        subst hnx
        have htake : ∀ q' : Nat, qd ≤ q' → q' ≤ qd + 1 → q' < 4294967296 → spTake [.slice (some ⟨N + 1, k, none⟩) (p + 2 + 1) (lu + 1 - k), .slice (some ⟨N + 0, 0, none⟩) (p + 2) (p + 2 + 1), .int .u32 (q' : Nat)] hp = some (.bool (Nat.beq q' (qd + 1)), N + 1, ⟨84, 1, false, tb (lu + 1) (lm (lgR Uv Dv k))⟩) := by
          intro q' l1 l2 l3
          obtain ⟨t1, t2⟩ := hcells q' l1 l2
          have hsh : shows hp (.slice (some ⟨N + 0, 0, none⟩) (p + 2) (p + 2 + 1)) = some (tb (p + 2) (lm Dv)) := by
            simp only [shows, hb0, tb_length, Nat.zero_add]
            rw [if_pos (by omega), List.drop_zero, tb_take _ (by omega)]
          unfold spTake
          simp only [hb1, hsh]
          rw [if_pos ⟨uok_lm _ _, uok_lm _ _, trivial, by rw [tb_length]; omega, by omega, by omega, by omega, by omega, by decide⟩]
          rw [Int.toNat_natCast, lg_ud g, lg_dv g, tb_length, t1, t2]
        by_cases c5 : q < 4294967296
        · have n1 : ¬ ((q : Int) > 4294967295) := by omega
          have hqd2 : q * d2 ≤ 4294967295 * 4294967295 := Nat.mul_le_mul (by omega) (by omega)
          have n2 : IntKind.u64.wrap ((q : Int) * (d2 : Int)) = ((q * d2 : Nat) : Int) := by rw [← Int.natCast_mul, u64_nat (by omega)]
          have n3 : IntKind.u64.wrap ((r : Int) * 2 ^ min 32 IntKind.u64.bits) = ((r * 2 ^ 32 : Nat) : Int) := shl64 (c := r) (s := 32) (by omega) (by omega)
          have n4 := bv_or64 b0 hr
          by_cases c7 : w2 r t0 < q * d2
          · have hcond : 4294967296 ≤ q ∨ w2 r t0 < q * d2 := .inr c7
            have n5 : ((q * d2 : Nat) : Int) > ((w2 r t0 : Nat) : Int) := by omega
            obtain ⟨y1, y2⟩ := hI1 q r hI hcond
            have hqX := hI4 q r hI
            have u1 : IntKind.u64.wrap ((q : Int) - 1) = ((q - 1 : Nat) : Int) := by rw [u64_in _ (by omega)]; omega
            have u2 : IntKind.u64.wrap ((r : Int) + (top : Int)) = ((r + top : Nat) : Int) := by rw [u64_in _ (by omega)]; omega
            by_cases c6 : r + top < 4294967296
            · have u3 : ¬ (((r + top : Nat) : Int) > 4294967295) := by omega
              simp only [↓R0, R1, simprocAttr, -Int.reduceAbs, h0, h1, h6, h7, h8, h9, h45, h46, h11, h13, h14, hb0, hb1, hb2, e5, e3, e6, a3, a4, k0, kd2, x0, xd, xt, u1, u2, u3, n1, n2, n3, n4, n5]
              exact ⟨q - 1, by omega, r + top, y2, c6, rfl, rfl, hh⟩
            · obtain ⟨f1', f2', f3⟩ := hI3 (q - 1) (r + top) y2 (by omega)
              have u3 : ((r + top : Nat) : Int) > 4294967295 := by omega
              simp only [↓R0, R1, simprocAttr, -Int.reduceAbs, h0, h1, h6, h7, h8, h9, h45, h46, h11, h13, h14, hb0, hb1, hb2, e5, e3, e6, a3, a4, k0, kd2, x0, xd, xt, u1, u2, u3, n1, n2, n3, n4, n5]
              have f1 := u32_nat f3
              have f4 := htake (q - 1) f1' f2' f3
              have f5 : IntKind.u32.wrap (qd : Int) = (qd : Int) := u32_nat bq
              by_cases fq : (q - 1) = qd + 1
              · have f6 : Nat.beq (q - 1) (qd + 1) = true := by rw [Nat.beq_eq]; exact fq
                have f7 : IntKind.u64.wrap ((((q - 1) : Nat) : Int) - 1) = (qd : Int) := by rw [u64_in _ (by omega)]; omega
                rw [f6] at f4
                simp only [↓R0, R1, simprocAttr, -Int.reduceAbs, h0, h1, h6, h7, h8, h9, h45, h46, h11, h13, h14, hb0, hb1, hb2, c4, e2, e3, e4, e5, e6, e7, e8, a4, a5, a5', a6, a7, a8, a9, a10, mkSl, upS, f1, f4, f5, f7, tb_length, tb_set, u3]
                refine ⟨k, by omega, i + 1, _, by omega, rfl, rfl, rfl, fun j hj hj2 => ?_, ?_⟩
                · by_cases gj : j = k
                  · rw [if_pos gj, gj, g6]
                  · rw [if_neg gj]; exact hf j (by omega) hj2
                · intro q hq
                  simp only [if_neg (show ¬ N + 2 = q by omega), if_neg (show ¬ N + 1 = q by omega)]
                  exact hh q hq
              · have f6 : Nat.beq (q - 1) (qd + 1) = false := by
                  cases hb : Nat.beq (q - 1) (qd + 1) with
                  | false => rfl
                  | true => rw [Nat.beq_eq] at hb; exact absurd hb fq
                have f8 : (q - 1) = qd := by omega
                rw [f6] at f4
                simp only [↓R0, R1, simprocAttr, -Int.reduceAbs, h0, h1, h6, h7, h8, h9, h45, h46, h11, h13, h14, hb0, hb1, hb2, c4, e2, e3, e4, e5, e6, e7, e8, a4, a5, a5', a6, a7, a8, a9, a10, mkSl, upS, f1, f4, tb_length, tb_set, u3]
                refine ⟨k, by omega, i + 1, _, by omega, rfl, rfl, rfl, fun j hj hj2 => ?_, ?_⟩
                · by_cases gj : j = k
                  · rw [if_pos gj, gj, g6, f8]
                  · rw [if_neg gj]; exact hf j (by omega) hj2
                · intro q hq
                  simp only [if_neg (show ¬ N + 2 = q by omega), if_neg (show ¬ N + 1 = q by omega)]
                  exact hh q hq
          · obtain ⟨f1', f2', f3⟩ := hI2 q r hI c5 (by omega)
            have n5 : ¬ (((q * d2 : Nat) : Int) > ((w2 r t0 : Nat) : Int)) := by omega
            simp only [↓R0, R1, simprocAttr, -Int.reduceAbs, h0, h1, h6, h7, h8, h9, h45, h46, h11, h13, h14, hb0, hb1, hb2, e5, e3, e6, a3, a4, k0, kd2, x0, xd, xt, n1, n2, n3, n4, n5]
            have f1 := u32_nat f3
            have f4 := htake q f1' f2' f3
            have f5 : IntKind.u32.wrap (qd : Int) = (qd : Int) := u32_nat bq
            by_cases fq : q = qd + 1
            · have f6 : Nat.beq q (qd + 1) = true := by rw [Nat.beq_eq]; exact fq
              have f7 : IntKind.u64.wrap (((q : Nat) : Int) - 1) = (qd : Int) := by rw [u64_in _ (by omega)]; omega
              rw [f6] at f4
              simp only [↓R0, R1, simprocAttr, -Int.reduceAbs, h0, h1, h6, h7, h8, h9, h45, h46, h11, h13, h14, hb0, hb1, hb2, c4, e2, e3, e4, e5, e6, e7, e8, a4, a5, a5', a6, a7, a8, a9, a10, mkSl, upS, f1, f4, f5, f7, tb_length, tb_set, n1]
              refine ⟨k, by omega, i + 1, _, by omega, rfl, rfl, rfl, fun j hj hj2 => ?_, ?_⟩
              · by_cases gj : j = k
                · rw [if_pos gj, gj, g6]
                · rw [if_neg gj]; exact hf j (by omega) hj2
              · intro q hq
                simp only [if_neg (show ¬ N + 2 = q by omega), if_neg (show ¬ N + 1 = q by omega)]
                exact hh q hq
            · have f6 : Nat.beq q (qd + 1) = false := by
                cases hb : Nat.beq q (qd + 1) with
                | false => rfl
                | true => rw [Nat.beq_eq] at hb; exact absurd hb fq
              have f8 : q = qd := by omega
              rw [f6] at f4
              simp only [↓R0, R1, simprocAttr, -Int.reduceAbs, h0, h1, h6, h7, h8, h9, h45, h46, h11, h13, h14, hb0, hb1, hb2, c4, e2, e3, e4, e5, e6, e7, e8, a4, a5, a5', a6, a7, a8, a9, a10, mkSl, upS, f1, f4, tb_length, tb_set, n1]
              refine ⟨k, by omega, i + 1, _, by omega, rfl, rfl, rfl, fun j hj hj2 => ?_, ?_⟩
              · by_cases gj : j = k
                · rw [if_pos gj, gj, g6, f8]
                · rw [if_neg gj]; exact hf j (by omega) hj2
              · intro q hq
                simp only [if_neg (show ¬ N + 2 = q by omega), if_neg (show ¬ N + 1 = q by omega)]
                exact hh q hq
        · have n1 : (q : Int) > 4294967295 := by omega
          have hcond : 4294967296 ≤ q ∨ w2 r t0 < q * d2 := .inl (by omega)
          obtain ⟨y1, y2⟩ := hI1 q r hI hcond
          have hqX := hI4 q r hI
          have u1 : IntKind.u64.wrap ((q : Int) - 1) = ((q - 1 : Nat) : Int) := by rw [u64_in _ (by omega)]; omega
          have u2 : IntKind.u64.wrap ((r : Int) + (top : Int)) = ((r + top : Nat) : Int) := by rw [u64_in _ (by omega)]; omega
          by_cases c6 : r + top < 4294967296
          · have u3 : ¬ (((r + top : Nat) : Int) > 4294967295) := by omega
            simp only [↓R0, R1, simprocAttr, -Int.reduceAbs, h0, h1, h6, h7, h8, h9, h45, h46, h11, h13, h14, hb0, hb1, hb2, e5, e3, e6, a3, a4, k0, kd2, x0, xd, xt, u1, u2, u3, n1]
            exact ⟨q - 1, by omega, r + top, y2, c6, rfl, rfl, hh⟩
          · obtain ⟨f1', f2', f3⟩ := hI3 (q - 1) (r + top) y2 (by omega)
            have u3 : ((r + top : Nat) : Int) > 4294967295 := by omega
            simp only [↓R0, R1, simprocAttr, -Int.reduceAbs, h0, h1, h6, h7, h8, h9, h45, h46, h11, h13, h14, hb0, hb1, hb2, e5, e3, e6, a3, a4, k0, kd2, x0, xd, xt, u1, u2, u3, n1]
            have f1 := u32_nat f3
            have f4 := htake (q - 1) f1' f2' f3
            have f5 : IntKind.u32.wrap (qd : Int) = (qd : Int) := u32_nat bq
            by_cases fq : (q - 1) = qd + 1
            · have f6 : Nat.beq (q - 1) (qd + 1) = true := by rw [Nat.beq_eq]; exact fq
              have f7 : IntKind.u64.wrap ((((q - 1) : Nat) : Int) - 1) = (qd : Int) := by rw [u64_in _ (by omega)]; omega
              rw [f6] at f4
              simp only [↓R0, R1, simprocAttr, -Int.reduceAbs, h0, h1, h6, h7, h8, h9, h45, h46, h11, h13, h14, hb0, hb1, hb2, c4, e2, e3, e4, e5, e6, e7, e8, a4, a5, a5', a6, a7, a8, a9, a10, mkSl, upS, f1, f4, f5, f7, tb_length, tb_set, u3]
              refine ⟨k, by omega, i + 1, _, by omega, rfl, rfl, rfl, fun j hj hj2 => ?_, ?_⟩
              · by_cases gj : j = k
                · rw [if_pos gj, gj, g6]
                · rw [if_neg gj]; exact hf j (by omega) hj2
              · intro q hq
                simp only [if_neg (show ¬ N + 2 = q by omega), if_neg (show ¬ N + 1 = q by omega)]
                exact hh q hq
            · have f6 : Nat.beq (q - 1) (qd + 1) = false := by
                cases hb : Nat.beq (q - 1) (qd + 1) with
                | false => rfl
                | true => rw [Nat.beq_eq] at hb; exact absurd hb fq
              have f8 : (q - 1) = qd := by omega
              rw [f6] at f4
              simp only [↓R0, R1, simprocAttr, -Int.reduceAbs, h0, h1, h6, h7, h8, h9, h45, h46, h11, h13, h14, hb0, hb1, hb2, c4, e2, e3, e4, e5, e6, e7, e8, a4, a5, a5', a6, a7, a8, a9, a10, mkSl, upS, f1, f4, tb_length, tb_set, u3]
              refine ⟨k, by omega, i + 1, _, by omega, rfl, rfl, rfl, fun j hj hj2 => ?_, ?_⟩
              · by_cases gj : j = k
                · rw [if_pos gj, gj, g6, f8]
                · rw [if_neg gj]; exact hf j (by omega) hj2
              · intro q hq
                simp only [if_neg (show ¬ N + 2 = q by omega), if_neg (show ¬ N + 1 = q by omega)]
                exact hh q hq
      · (first | (simp only [↓R0, R1, simprocAttr, -Int.reduceAbs, h0]; done) | (simp only [↓R0, R1, simprocAttr, -Int.reduceAbs, h0]; rfl) | rfl)
      · (first | (simp only [↓R0, R1, simprocAttr, -Int.reduceAbs, h1]; done) | (simp only [↓R0, R1, simprocAttr, -Int.reduceAbs, h1]; rfl) | rfl)
      · (first | (simp only [↓R0, R1, simprocAttr, -Int.reduceAbs, h6]; done) | (simp only [↓R0, R1, simprocAttr, -Int.reduceAbs, h6]; rfl) | rfl)
      · (first | (simp only [↓R0, R1, simprocAttr, -Int.reduceAbs, h7]; done) | (simp only [↓R0, R1, simprocAttr, -Int.reduceAbs, h7]; rfl) | rfl)
      · (first | (simp only [↓R0, R1, simprocAttr, -Int.reduceAbs, h8]; done) | (simp only [↓R0, R1, simprocAttr, -Int.reduceAbs, h8]; rfl) | rfl)
      · (first | (simp only [↓R0, R1, simprocAttr, -Int.reduceAbs, h9]; done) | (simp only [↓R0, R1, simprocAttr, -Int.reduceAbs, h9]; rfl) | rfl)
      · (first | (simp only [↓R0, R1, simprocAttr, -Int.reduceAbs, h45]; done) | (simp only [↓R0, R1, simprocAttr, -Int.reduceAbs, h45]; rfl) | rfl)
      · (first | (simp only [↓R0, R1, simprocAttr, -Int.reduceAbs, h46]; done) | (simp only [↓R0, R1, simprocAttr, -Int.reduceAbs, h46]; rfl) | rfl)
      · (first | (simp only [↓R0, R1, simprocAttr, -Int.reduceAbs]; done) | (simp only [↓R0, R1, simprocAttr, -Int.reduceAbs]; rfl) | rfl)
      · (first | (simp only [↓R0, R1, simprocAttr, -Int.reduceAbs]; done) | (simp only [↓R0, R1, simprocAttr, -Int.reduceAbs]; rfl) | rfl)
      · (first | (simp only [↓R0, R1, simprocAttr, -Int.reduceAbs]; done) | (simp only [↓R0, R1, simprocAttr, -Int.reduceAbs]; rfl) | rfl)
    · have ei : i = K := by omega
      have em : M = 0 := by omega
      subst em
      subst ei
      have hun : spUnshift [.slice (some ⟨N + 1, 0, none⟩) (p + 2) (lu + 1), .int .i64 (s : Nat)] hp = some (fun k => .slice (some ⟨k, 0, none⟩) (p + 2) (p + 2), ⟨84, 1, false, tb (p + 2) (lm (Uv % Dv / 2 ^ s))⟩) := by
        have hsh : shows hp (.slice (some ⟨N + 1, 0, none⟩) (p + 2) (lu + 1)) = some (tb (p + 2) (lm (lgR Uv Dv 0))) := by
          simp only [shows, hb1, tb_length, Nat.zero_add]
          rw [if_pos (by omega), List.drop_zero, tb_take _ (by omega)]
        unfold spUnshift
        simp only [hsh]
        rw [if_pos ⟨uok_lm _ _, by rw [tb_length]; omega, by omega, by omega⟩]
        rw [Int.toNat_natCast, lg_end g, tb_length]
      have htb : tb i f = tb i (lm (Uv / Dv)) := tb_congr fun j hj => hf j (by omega) hj
      have a6 : ¬ (lu + 1 = 0) := by omega
      have a7 : p + 2 ≤ lu + 1 := by omega
      have a8 : p + 1 ≤ lu := by omega
      have a9 : p + 2 - 0 = p + 2 := rfl
      have a10 : lu + 1 - 0 = lu + 1 := rfl
      simp only [↓R0, R1, simprocAttr, -Int.reduceAbs, h0, h1, h6, h7, h8, h9, h45, h46, hb0, hb1, hb2, c4, mkSl, a6, a7, a8, a9, a10, nwS, hun]
      refine ⟨trivial, _, N + 2, N + 3, false, false, rfl, ?_, by omega, by omega, by omega, ?_, ?_, ?_⟩
      · (first | (simp only [↓R0, R1, simprocAttr, -Int.reduceAbs, one]; done) | (simp only [↓R0, R1, simprocAttr, -Int.reduceAbs, one]; rfl) | rfl)
      · simp only [↓R0, R1, simprocAttr, -Int.reduceAbs, hb2, htb]
      · simp only [↓R0, R1, simprocAttr, -Int.reduceAbs]
      · intro q hq
        simp only [↓R0, R1, simprocAttr, -Int.reduceAbs, hget_new hq]
        exact hh q hq
  · (first | (simp only [↓R0, R1, simprocAttr, -Int.reduceAbs]; done) | (simp only [↓R0, R1, simprocAttr, -Int.reduceAbs]; rfl) | rfl)
  · (first | (simp only [↓R0, R1, simprocAttr, -Int.reduceAbs]; done) | (simp only [↓R0, R1, simprocAttr, -Int.reduceAbs]; rfl) | rfl)
  · (first | (simp only [↓R0, R1, simprocAttr, -Int.reduceAbs]; done) | (simp only [↓R0, R1, simprocAttr, -Int.reduceAbs]; rfl) | rfl)
  · (first | (simp only [↓R0, R1, simprocAttr, -Int.reduceAbs]; done) | (simp only [↓R0, R1, simprocAttr, -Int.reduceAbs]; rfl) | rfl)
  · (first | (simp only [↓R0, R1, simprocAttr, -Int.reduceAbs]; done) | (simp only [↓R0, R1, simprocAttr, -Int.reduceAbs]; rfl) | rfl)
  · (first | (simp only [↓R0, R1, simprocAttr, -Int.reduceAbs]; done) | (simp only [↓R0, R1, simprocAttr, -Int.reduceAbs]; rfl) | rfl)
  · (first | (simp only [↓R0, R1, simprocAttr, -Int.reduceAbs]; done) | (simp only [↓R0, R1, simprocAttr, -Int.reduceAbs]; rfl) | rfl)
  · (first | (simp only [↓R0, R1, simprocAttr, -Int.reduceAbs]; done) | (simp only [↓R0, R1, simprocAttr, -Int.reduceAbs]; rfl) | rfl)
  · (first | (simp only [↓R0, R1, simprocAttr, -Int.reduceAbs]; done) | (simp only [↓R0, R1, simprocAttr, -Int.reduceAbs]; rfl) | rfl)
  · (first | (simp only [↓R0, R1, simprocAttr, -Int.reduceAbs, lgR_top g]; done) | (simp only [↓R0, R1, simprocAttr, -Int.reduceAbs, lgR_top g]; rfl) | rfl)
  · (first | (simp only [↓R0, R1, simprocAttr, -Int.reduceAbs]; done) | (simp only [↓R0, R1, simprocAttr, -Int.reduceAbs]; rfl) | rfl)
  · intro q hq
    simp only [↓R0, R1, simprocAttr, -Int.reduceAbs, hget_new hq]
theorem ok_nlong : SpecOK Tryz.prog 99 (nw2S spLong) := by
  refine nw2_run (env_cons ok_lz32 (env_cons ok_nshift (env_cons ok_nunshift (env_cons ok_ntake (env_nil _))))) mixed tr99 ?_ ?_
  · intro args h h' v hle e
    unfold spLong at e ⊢
    split at e
    · split at e
      · rename_i us ds hcu hcd
        simp only [shows_mono hle hcu, shows_mono hle hcd]; exact e
      · cases e
    · cases e
  intro args vf b b' h N hG hN
  unfold spLong at hG
  split at hG
  case h_2 => cases hG
  rename_i _ vu vd
  split at hG
  case h_2 => cases hG
  rename_i us ds hcu hcd
  split at hG
  case isFalse => cases hG
  rename_i hl
  obtain ⟨huu, hud, hm2, hmu, hku, hD1⟩ := hl
  cases hG
  refine ⟨rfl, rfl, tb_base _ _, tb_base _ _, vr2_sl _ _ _ _, by simp, ?_⟩
  obtain ⟨ku, ou, lu, cu, blku, rfl, hbu, hleu, hcellu, hU, hlenu⟩ := shows_tb hcu huu
  obtain ⟨kd, od, m, cd, blkd, rfl, hbd, hled, hcelld, hD, hlend⟩ := shows_tb hcd hud
  have hku' := hN _ _ hbu
  have hkd' := hN _ _ hbd
  rw [hlenu] at hmu hku ⊢
  rw [hlend] at hm2 hmu hD1 ⊢
  obtain ⟨p, rfl⟩ : ∃ p, m = p + 2 := ⟨m - 2, by omega⟩
  rw [show p + 2 - 1 = p + 1 by omega] at hD1
  have hcell1 := hcelld (p + 1) (by omega)
  obtain ⟨hs, hDs, hz, g, hdiv, hmod⟩ := lz_all hU hD hD1 hmu
  generalize 32 - l32 (lm (ud ds) (p + 1)) = s at *
  have hd : spShift [.slice (some ⟨kd, od, none⟩) (p + 2) cd, .int .i64 (s : Nat)] h = some (fun k => .slice (some ⟨k, 0, none⟩) (p + 2 + 1) (p + 2 + 1), ⟨84, 1, false, tb (p + 2 + 1) (lm (ud ds * 2 ^ s))⟩) := by
    unfold spShift
    simp only [hcd]
    rw [if_pos ⟨hud, by rw [hlend]; omega, by omega, by omega⟩, Int.toNat_natCast, hlend]
  have hu : ∀ x, spShift [.slice (some ⟨ku, ou, none⟩) lu cu, .int .i64 (s : Nat)] ((N + 0, x) :: h) = some (fun k => .slice (some ⟨k, 0, none⟩) (lu + 1) (lu + 1), ⟨84, 1, false, tb (lu + 1) (lm (ud us * 2 ^ s))⟩) := by
    intro x
    unfold spShift
    simp only [shows_new hku', hcu]
    rw [if_pos ⟨huu, by rw [hlenu]; omega, by omega, by omega⟩, Int.toNat_natCast, hlenu]
  have := nlong_wp hbd hcell1 hz hd hu hs g (by omega) hmu hku
  rw [hdiv, hmod] at this
  exact this
end Go.Eng
end
section
set_option linter.unusedVariables false
set_option linter.unusedSimpArgs false
set_option linter.unusedSectionVars false
set_option maxRecDepth 4000
namespace Go.Eng
open Go Go.Proofs Go.IntWalk
def spNDiv : List Value → Option Value
  | [.string ⟨⟨l⟩⟩, .string ⟨⟨m⟩⟩] => if l.length ≤ 34359738368 ∧ m.length ≤ 34359738368 then
      (if nl m = 0 then some (.tuple ⟨[.string ⟨⟨[]⟩⟩, .string ⟨⟨[]⟩⟩, .bool false]⟩) else some (.tuple ⟨[.string ⟨⟨bl (nl l / nl m)⟩⟩, .string ⟨⟨bl (nl l % nl m)⟩⟩, .bool true]⟩)) else none
  | _ => none
def c80 : ICode :=
  (.seq (.reg [qq 4 (.mv (.c e0)), qq 5 (.mv (.c e0)), qq 6 (.mv (.c (.bool false)))]) (.seq (.reg [qq 12 (.mv (.t 1)), qq 13 (.call 93 [(.t 12)]), qq 7 (.mv (.t 13))]) (.seq (.block 0 (.seq (.reg [qq 15 (.mv (.t 7)), qq 16 (.lensl (.t 15)), qq 17 (.bin .eql (.t 16) (ci 0)), qq 14 (.mv (.t 17))]) (.cond (.t 14) (.seq (.reg [qq 4 (.mv (.c e0)), qq 5 (.mv (.c e0)), qq 6 (.mv (.c (.bool false)))]) .ret) (.seq (.reg [qq 19 (.mv (.t 0)), qq 20 (.mv (.t 1)), qq 21 (.call 95 [(.t 19), (.t 20)]), qq 22 (.bin .lss (.t 21) (ci 0)), qq 18 (.mv (.t 22))]) (.cond (.t 18) (.seq (.reg [qq 23 (.mv (.t 0)), qq 24 (.call 66 [(.t 23)]), qq 4 (.mv (.c e0)), qq 5 (.mv (.t 24)), qq 6 (.mv (.c (.bool true)))]) .ret) (.seq (.reg [qq 26 (.mv (.t 7)), qq 27 (.lensl (.t 26)), qq 28 (.bin .eql (.t 27) (ci 1)), qq 25 (.mv (.t 28))]) (.cond (.t 25) (.seq (.dreg [qu 30 (.mv (.t 0)), qu 31 (.call 93 [(.t 30)]), qu 32 (.mv (.t 7)), qu 33 (.ixsl 1 (.t 32) (ci 0)), qv 34 [1] (.load false 1 (.t 33)), qu 35 (.call 98 [(.t 31), (.t 34)]), qu 29 (.mv (.t 35)), qu 36 (.ext (.t 29) 0), qu 37 (.ext (.t 29) 1), qu 8 (.mv (.t 36)), qu 9 (.mv (.t 37))]) (.seq (.reg [qq 38 (.mv (.t 8)), qq 39 (.call 89 [(.t 38)]), qq 40 (.mv (.t 9)), qq 41 (.conv .u64 (.t 40)), qq 42 (.call 69 [(.t 41)]), qq 4 (.mv (.t 39)), qq 5 (.mv (.t 42)), qq 6 (.mv (.c (.bool true)))]) .ret)) .skip))))))) (.seq (.reg [qq 44 (.mv (.t 0)), qq 45 (.call 93 [(.t 44)]), qq 46 (.mv (.t 7)), qq 47 (.call 99 [(.t 45), (.t 46)]), qq 43 (.mv (.t 47)), qq 48 (.ext (.t 43) 0), qq 49 (.ext (.t 43) 1), qq 10 (.mv (.t 48)), qq 11 (.mv (.t 49))]) (.seq (.reg [qq 50 (.mv (.t 10)), qq 51 (.call 89 [(.t 50)]), qq 52 (.mv (.t 11)), qq 53 (.call 89 [(.t 52)]), qq 4 (.mv (.t 51)), qq 5 (.mv (.t 53)), qq 6 (.mv (.c (.bool true)))]) .ret)))))
theorem tr80 : trFun Tryz.prog 80 = some ⟨54, [.t 4, .t 5, .t 6], c80⟩ := by kernel_rfl
theorem lk_low {n : Nat} (h : n ≠ 0) : 4294967296 ^ (lk n - 1) ≤ n := by
  have h0 : lk n ≠ 0 := fun e => h (lk_zero.1 e)
  exact lk_top (k := lk n - 1) (by omega)
theorem lk_mono {a b : Nat} (h : a ≤ b) : lk a ≤ lk b := by
  have := bl_length_mono h
  unfold lk; omega
theorem short_at {h : Heap} {N a b : Nat} (hb0 : b ≠ 0) (hb1 : lk b = 1) (ha : lk a ≤ 8589934592) :
    spShort [.slice (some ⟨N + 1, 0, none⟩) (lk a) (lk a), .int .u32 (b : Nat)] ((N + 1, some ⟨84, 1, false, tb (lk a) (lm a)⟩) :: (N + 0, some ⟨84, 1, false, tb 1 (lm b)⟩) :: h) =
      some (fun k => .tuple ⟨[.slice (some ⟨k, 0, none⟩) (lk a) (lk a), .int .u32 (a % b : Nat)]⟩, ⟨84, 1, false, tb (lk a) (lm (a / b))⟩) := by
  have hb : b < 4294967296 := by have := lk_lt b; rw [hb1] at this; omega
  unfold spShort
  simp only [shows, hget, if_true, tb_length, Nat.zero_add, Nat.le_refl, List.drop_zero, tb_all]
  rw [if_pos ⟨uok_lm _ _, by omega, by omega, by omega⟩, Int.toNat_natCast, ud_tb, Nat.mod_eq_of_lt (lk_lt a)]
theorem long_at {h : Heap} {N a b : Nat} (hb1 : 2 ≤ lk b) (hab : b ≤ a) (ha : lk a ≤ 8589934592) :
    spLong [.slice (some ⟨N + 1, 0, none⟩) (lk a) (lk a), .slice (some ⟨N + 0, 0, none⟩) (lk b) (lk b)] ((N + 1, some ⟨84, 1, false, tb (lk a) (lm a)⟩) :: (N + 0, some ⟨84, 1, false, tb (lk b) (lm b)⟩) :: h) =
      some (fun x y => .tuple ⟨[.slice (some ⟨x, 0, none⟩) (lk a + 1 - lk b) (lk a + 1 - lk b), .slice (some ⟨y, 0, none⟩) (lk b) (lk b)]⟩, ⟨84, 1, false, tb (lk a + 1 - lk b) (lm (a / b))⟩, ⟨84, 1, false, tb (lk b) (lm (a % b))⟩) := by
  have hb0 : b ≠ 0 := fun e => by rw [lk_zero.2 e] at hb1; omega
  unfold spLong
  simp only [shows, hget, if_true, if_neg (show ¬ N + 1 = N + 0 by omega), tb_length, Nat.zero_add, Nat.le_refl, List.drop_zero, tb_all]
  have ea : ud (tb (lk a) (lm a)) = a := by rw [ud_tb, Nat.mod_eq_of_lt (lk_lt a)]
  have eb : ud (tb (lk b) (lm b)) = b := by rw [ud_tb, Nat.mod_eq_of_lt (lk_lt b)]
  rw [ea, eb, if_pos ⟨uok_lm _ _, uok_lm _ _, hb1, lk_mono hab, ha, lk_low hb0⟩]
theorem mag_quo {a b : Nat} (hb0 : b ≠ 0) (hab : b ≤ a) : a / b < 4294967296 ^ (lk a + 1 - lk b) := by
  have h1 := lk_low hb0
  have h2 := lk_lt a
  have h3 := lk_mono hab
  have h0 : lk b ≠ 0 := fun e => hb0 (lk_zero.1 e)
  refine (Nat.div_lt_iff_lt_mul (by omega)).2 ?_
  have e : 4294967296 ^ lk a = 4294967296 ^ (lk a + 1 - lk b) * 4294967296 ^ (lk b - 1) := by rw [← Nat.pow_add]; congr 1; omega
  rw [e] at h2
  exact Nat.lt_of_lt_of_le h2 (Nat.mul_le_mul_left _ h1)
set_option maxHeartbeats 1000000 in
theorem ok_nDiv : SpecOK Tryz.prog 80 (flat spNDiv) := by
  refine flat_run (env_cons ok_nlimbs (env_cons ok_nCmp (env_cons ok_nNorm (env_cons ok_nshort (env_cons ok_nmag (env_cons ok_nFU64 (env_cons ok_nlong (env_nil _)))))))) mixed tr80 ?_
  intro args v h N hG
  unfold spNDiv at hG
  split at hG
  case h_2 => cases hG
  rename_i l m
  split at hG
  case isFalse => cases hG
  rename_i hl
  obtain ⟨hl, hm⟩ := hl
  have hl' : l.length ≤ 1099511627776 := by omega
  have hm' : m.length ≤ 1099511627776 := by omega
  have hL : lk (nl l) ≤ 8589934592 := lk_len (Nat.le_trans (bl_length_nl l) (by omega))
  have hM : lk (nl m) ≤ 8589934592 := lk_len (Nat.le_trans (bl_length_nl m) (by omega))
  split at hG
  · rename_i h0
    cases hG
    refine ⟨rfl, by simp, ?_⟩
    have hk : lk 0 = 0 := lk_zero.2 rfl
    simp only [c80, G0, Nat.reduceAdd]
    simp only [↓R0, R1, simprocAttr, -Int.reduceAbs, nwS, spLimbs, hl', hm', h0, hk, Int.natCast_zero, Fin, isEnd, resL, res1, iE, rE]
    exact ⟨_, rfl, rfl, fun k hk => by simp only [ne_nb hk, if_false]⟩
  rename_i h0
  cases hG
  refine ⟨rfl, by simp, ?_⟩
  simp only [c80, G0, Nat.reduceAdd]
  generalize ha : nl l = a at *
  generalize hb : nl m = b at *
  have hk0 : ¬ (lk b = 0) := fun e => h0 (lk_zero.1 e)
  have hk0' : ¬ (((lk b : Nat) : Int) = 0) := by omega
  by_cases hlt : a < b
  · rw [Nat.div_eq_of_lt hlt, Nat.mod_eq_of_lt hlt, bl_zero]
    simp only [↓R0, R1, simprocAttr, -Int.reduceAbs, nwS, spLimbs, hl', hm', ha, hb, hk0, hk0', spNCmp, cmpN_neg, hlt, spNNorm, Fin, isEnd, resL, res1, iE, rE]
    exact ⟨_, rfl, rfl, fun k hk => by simp only [ne_nb hk, if_false]⟩
  by_cases hk1 : lk b = 1
  · have hb1 : b < 4294967296 := by have := lk_lt b; rw [hk1] at this; omega
    have t0 : (tb 1 (lm b))[0]? = some (.int .u32 (b : Nat)) := by rw [tb_get' _ (by omega), lm_zero, Nat.mod_eq_of_lt hb1]
    have hr := Nat.mod_lt a (show b > 0 by omega)
    have w1 := u64_nat (n := a % b) (by omega)
    have w2 : ((a % b : Nat) : Int) < 18446744073709551616 := by omega
    have hq : ud (tb (lk a) (lm (a / b))) = a / b := by rw [ud_tb, Nat.mod_eq_of_lt (Nat.lt_of_le_of_lt (Nat.div_le_self _ _) (lk_lt a))]
    have c5 : lk a ≤ 34359738368 := by omega
    have ss := fun h => short_at (h := h) (N := N) h0 hk1 hL
    simp only [↓R0, R1, simprocAttr, -Int.reduceAbs, nwS, spLimbs, hl', hm', ha, hb, hk0, hk0', spNCmp, cmpN_neg, hlt, hk1, t0, ss, rdS, spMag, shows, tb_all, uok_lm, tb_length, c5, hq, w1, w2, spFU64, Fin, isEnd, resL, res1, iE, rE]
    exact ⟨_, rfl, rfl, fun k hk => by simp only [ne_nb hk, if_false]⟩
  · have hk2 : 2 ≤ lk b := by omega
    have hk1' : ¬ (((lk b : Nat) : Int) = 1) := by omega
    have nn : ¬ (N = N + 1) := by omega
    have ss := fun h => long_at (h := h) (N := N) hk2 (show b ≤ a by omega) hL
    have hq : ud (tb (lk a + 1 - lk b) (lm (a / b))) = a / b := by rw [ud_tb, Nat.mod_eq_of_lt (mag_quo h0 (by omega))]
    have hr : ud (tb (lk b) (lm (a % b))) = a % b := by rw [ud_tb, Nat.mod_eq_of_lt (Nat.lt_trans (Nat.mod_lt a (by omega)) (lk_lt b))]
    have c5 : lk a + 1 - lk b ≤ 34359738368 := by omega
    have c6 : lk b ≤ 34359738368 := by omega
    simp only [↓R0, R1, simprocAttr, -Int.reduceAbs, nwS, spLimbs, hl', hm', ha, hb, hk0, hk0', spNCmp, cmpN_neg, hlt, hk1, hk1', nn, ss, nw2S, a_call2, rdS, spMag, shows, tb_all, uok_lm, tb_length, c5, c6, hq, hr, Fin, isEnd, resL, res1, iE, rE]
    exact ⟨_, rfl, rfl, fun k hk => by simp only [ne_nb hk, if_false]; rw [if_neg (by omega)]⟩
def spNGcd : List Value → Option Value
  | [.string ⟨⟨l⟩⟩, .string ⟨⟨m⟩⟩] => if l.length ≤ 34359738368 ∧ m.length ≤ 34359738368 then some (.string ⟨⟨bl (Nat.gcd (nl l) (nl m))⟩⟩) else none
  | _ => none
def c78 : ICode :=
  (.seq (.reg [qq 4 (.mv (.c e0))]) (.seq (.block 0 (.loop (.seq (.seq (.reg [qq 12 (.mv (.t 1)), qq 13 (.call 66 [(.t 12)]), qq 14 (.bin .neq (.t 13) (.c e0))]) (.cond (.t 14) .skip (.exit 0))) (.block 1 (.seq (.reg [qq 16 (.mv (.t 0)), qq 17 (.call 97 [(.t 16)]), qq 15 (.mv (.t 17)), qq 18 (.ext (.t 15) 0), qq 19 (.ext (.t 15) 1), qq 5 (.mv (.t 18)), qq 6 (.mv (.t 19))]) (.seq (.reg [qq 21 (.mv (.t 1)), qq 22 (.call 97 [(.t 21)]), qq 20 (.mv (.t 22)), qq 23 (.ext (.t 20) 0), qq 24 (.ext (.t 20) 1), qq 7 (.mv (.t 23)), qq 8 (.mv (.t 24))]) (.seq (.seq (.reg [qq 25 (.mv (.t 6)), qq 26 (.mv (.t 25)), ⟨(some 27), (some (26, true)), (.mv (.t 8))⟩, qq 28 (.pick (.t 26) (.t 27) (.c (.bool false)))]) (.cond (.t 28) (.seq (.block 2 (.loop (.seq (.seq (.reg [qq 29 (.mv (.t 7)), qq 30 (.bin .neq (.t 29) (.c (.int .u64 0)))]) (.cond (.t 30) .skip (.exit 2))) (.block 3 (.dreg [qu 31 (.mv (.t 7)), qu 32 (.mv (.t 5)), qu 33 (.mv (.t 7)), qu 34 (.bin .rem (.t 32) (.t 33)), qu 5 (.mv (.t 31)), qu 7 (.mv (.t 34))]))))) (.seq (.reg [qq 35 (.mv (.t 5)), qq 36 (.call 69 [(.t 35)]), qq 4 (.mv (.t 36))]) .ret)) .skip)) (.seq (.reg [qq 38 (.mv (.t 0)), qq 39 (.mv (.t 1)), qq 40 (.call 80 [(.t 38), (.t 39)]), qq 37 (.mv (.t 40)), qq 41 (.ext (.t 37) 0), qq 42 (.ext (.t 37) 1), qq 43 (.ext (.t 37) 2), qq 9 (.mv (.t 41)), qq 10 (.mv (.t 42)), qq 11 (.mv (.t 43))]) (.reg [qq 44 (.mv (.t 1)), qq 45 (.mv (.t 10)), qq 0 (.mv (.t 44)), qq 1 (.mv (.t 45))]))))))))) (.seq (.reg [qq 46 (.mv (.t 0)), qq 47 (.call 66 [(.t 46)]), qq 4 (.mv (.t 47))]) .ret)))
theorem tr78 : trFun Tryz.prog 78 = some ⟨48, [.t 4], c78⟩ := by kernel_rfl
theorem gcd_len {a b k : Nat} (hb : b ≠ 0) (h : (bl b).length ≤ k) : (bl (a % b)).length ≤ k :=
  Nat.le_trans (bl_length_mono (Nat.le_of_lt (Nat.mod_lt _ (by omega)))) h
set_option maxHeartbeats 1000000 in
theorem ok_nGcd : SpecOK Tryz.prog 78 (flat spNGcd) := by
  refine flat_run (env_cons ok_nNorm (env_cons ok_nU64 (env_cons ok_nFU64 (env_cons ok_nDiv (env_nil _))))) mixed tr78 ?_
  intro args v h N hG
  unfold spNGcd at hG
  split at hG
  case h_2 => cases hG
  rename_i l m
  split at hG
  case isFalse => cases hG
  rename_i hl
  obtain ⟨hl, hm⟩ := hl
  cases hG
  refine ⟨rfl, by simp, ?_⟩
  simp only [c78, G0, Nat.reduceAdd]
  simp only [↓R0, R1, simprocAttr, -Int.reduceAbs]
  refine lp_parts (fun n tm hp nx => ∃ (l' m' : List UInt8), n = nl m' ∧ tmget tm 0 = .string ⟨⟨l'⟩⟩ ∧ tmget tm 1 = .string ⟨⟨m'⟩⟩ ∧ l'.length ≤ 34359738368 ∧ m'.length ≤ 34359738368 ∧ Nat.gcd (nl l') (nl m') = Nat.gcd (nl l) (nl m) ∧
      hp = h ∧ nx = N + 0) ?_ (nl m) ⟨l, m, rfl, ?_, ?_, hl, hm, rfl, rfl, rfl⟩
  · intro n tm hp nx ⟨l', m', hn, h0, h1, hl1, hm1, hg, hh, hnx⟩
    rw [hnx, hh]
    clear hnx hh
    rw [← hg]
    have hl' : l'.length ≤ 1099511627776 := by omega
    have hm' : m'.length ≤ 1099511627776 := by omega
    by_cases hb0 : nl m' = 0
    · rw [hb0, Nat.gcd_zero_right]
      simp only [↓R0, R1, simprocAttr, -Int.reduceAbs, h0, h1, spNNorm, hl', hm', hb0, bl_zero, Fin, isEnd, resL, res1, iE, rE]
      exact ⟨_, rfl, rfl, fun k hk => by simp only [ne_nb hk, if_false]⟩
    · have hbn : ¬ (bl (nl m') = []) := fun e => hb0 (bl_eq_nil.1 e)
      by_cases hs : nl l' < 18446744073709551616 ∧ nl m' < 18446744073709551616
      · obtain ⟨hs1, hs2⟩ := hs
        simp only [↓R0, R1, simprocAttr, -Int.reduceAbs, h0, h1, spNNorm, hl', hm', hbn, spU64, hs1, hs2]
        generalize nl l' = a at *
        generalize nl m' = b at *
        refine lp_parts (fun n tm hp nx => ∃ (x : Nat), x < 18446744073709551616 ∧ n < 18446744073709551616 ∧ tmget tm 5 = .int .u64 x ∧ tmget tm 7 = .int .u64 n ∧ Nat.gcd x n = Nat.gcd a b ∧ hp = h ∧ nx = N + 0) ?_ b ⟨a, hs1, hs2, ?_, ?_, rfl, rfl, rfl⟩
        · clear h0 h1
          clear tm hp
          intro y tm hp nx ⟨x, hx, hy, h5, h7, hxy, hh, hnx⟩
          rw [hnx, hh]
          clear hnx hh
          by_cases y0 : y = 0
          · subst y0
            rw [Nat.gcd_zero_right] at hxy
            rw [← hxy]
            have f1 : ((x : Nat) : Int) < 18446744073709551616 := by omega
            simp only [↓R0, R1, simprocAttr, -Int.reduceAbs, h5, h7, spFU64, f1, Int.natCast_zero, Fin, isEnd, resL, res1, iE, rE]
            exact ⟨_, rfl, rfl, fun k hk => by simp only [ne_nb hk, if_false]⟩
          · have y1 : ¬ ((y : Int) = 0) := by omega
            have e1 : (x : Int).tmod (y : Int) = ((x % y : Nat) : Int) := by rw [Int.tmod_eq_emod_of_nonneg (by omega)]; rfl
            have hmod := Nat.mod_lt x (show y > 0 by omega)
            simp only [↓R0, R1, simprocAttr, -Int.reduceAbs, h5, h7, y0, y1, e1]
            refine ⟨x % y, hmod, y, hy, by omega, rfl, rfl, ?_⟩
            rw [← hxy, Nat.gcd_comm x y, Nat.gcd_rec y x, Nat.gcd_comm]
        · (first | (simp only [↓R0, R1, simprocAttr, -Int.reduceAbs]; done) | (simp only [↓R0, R1, simprocAttr, -Int.reduceAbs]; rfl) | rfl)
        · (first | (simp only [↓R0, R1, simprocAttr, -Int.reduceAbs]; done) | (simp only [↓R0, R1, simprocAttr, -Int.reduceAbs]; rfl) | rfl)
      · have next : ∃ n', n' < n ∧ n' = nl (bl (nl l' % nl m')) := ⟨_, by rw [nl_bl, hn]; exact Nat.mod_lt _ (by omega), rfl⟩
        have hgg : Nat.gcd (nl m') (nl (bl (nl l' % nl m'))) = Nat.gcd (nl l') (nl m') := by
          rw [nl_bl, Nat.gcd_comm (nl l') (nl m'), Nat.gcd_rec (nl m') (nl l'), Nat.gcd_comm]
        have hlen : (bl (nl l' % nl m')).length ≤ 34359738368 := gcd_len hb0 (Nat.le_trans (bl_length_nl m') hm1)
        obtain ⟨n', hn1, hn2⟩ := next
        by_cases hs1 : nl l' < 18446744073709551616
        · have hs2 : ¬ (nl m' < 18446744073709551616) := fun e => hs ⟨hs1, e⟩
          simp only [↓R0, R1, simprocAttr, -Int.reduceAbs, h0, h1, spNNorm, hl', hm', hbn, spU64, hs1, hs2, spNDiv, hl1, hm1, hb0]
          refine ⟨n', hn1, m', bl (nl l' % nl m'), hn2, rfl, rfl, hm1, hlen, hgg⟩
        · by_cases hs2 : nl m' < 18446744073709551616
          · have := hs
            simp only [↓R0, R1, simprocAttr, -Int.reduceAbs, h0, h1, spNNorm, hl', hm', hbn, spU64, hs1, hs2, spNDiv, hl1, hm1, hb0]
            refine ⟨n', hn1, m', bl (nl l' % nl m'), hn2, rfl, rfl, hm1, hlen, hgg⟩
          · have := hs
            simp only [↓R0, R1, simprocAttr, -Int.reduceAbs, h0, h1, spNNorm, hl', hm', hbn, spU64, hs1, hs2, spNDiv, hl1, hm1, hb0]
            refine ⟨n', hn1, m', bl (nl l' % nl m'), hn2, rfl, rfl, hm1, hlen, hgg⟩
  · (first | (simp only [↓R0, R1, simprocAttr, -Int.reduceAbs]; done) | (simp only [↓R0, R1, simprocAttr, -Int.reduceAbs]; rfl) | rfl)
  · (first | (simp only [↓R0, R1, simprocAttr, -Int.reduceAbs]; done) | (simp only [↓R0, R1, simprocAttr, -Int.reduceAbs]; rfl) | rfl)
end Go.Eng
end
section
set_option linter.unusedVariables false
set_option linter.unusedSimpArgs false
set_option linter.unusedSectionVars false
set_option maxRecDepth 4000
namespace Go.Eng
open Go Go.Proofs Go.IntWalk
def spI2of : List Value → Option Value
  | [.bool s, .string ⟨⟨l⟩⟩] => if l.length ≤ 1099511627776 then some (.agg ⟨iE (sv s l)⟩) else none
  | _ => none
def c81 : ICode :=
  (.seq (.reg [qq 4 (.alloc 53 2 [(.bool false), e0])]) (.seq (.reg [qq 6 (.mv (.t 1)), qq 7 (.call 73 [(.t 6)]), qq 5 (.mv (.t 7))]) (.seq (.reg [qq 8 (.mv (.t 0)), qq 9 (.mv (.t 8)), ⟨(some 10), (some (9, true)), (.mv (.t 5))⟩, ⟨(some 11), (some (9, true)), (.bin .neq (.t 10) (.c e0))⟩, qq 12 (.pick (.t 9) (.t 11) (.c (.bool false))), qq 13 (.mv (.t 5)), qq 14 (.build [(.bool false), e0] [(0, 1, (.t 12)), (1, 1, (.t 13))]), qn (.store 2 (.t 4) (.t 14))]) .ret)))
theorem tr81 : trFun Tryz.prog 81 = some ⟨15, [.cell 4 true 2], c81⟩ := by kernel_rfl
theorem ok_r2of : SpecOK Tryz.prog 81 (flat spI2of) := by
  refine flat_run (env_cons ok_r1Norm (env_nil _)) mixed tr81 ?_
  intro args v h N hG
  unfold spI2of at hG
  split at hG
  case h_2 => cases hG
  rename_i s l
  split at hG
  case isFalse => cases hG
  rename_i hl
  cases hG
  refine ⟨rfl, by simp, ?_⟩
  rw [iE_sv]
  simp only [c81, G0, Nat.reduceAdd]
  simp only [↓R0, R1, simprocAttr, -Int.reduceAbs, spNorm, hl]
  refine gd_case (fun hb => ?_) (fun hb => ?_)
  · simp only [↓R0, R1, simprocAttr, -Int.reduceAbs, hb, Fin, isEnd, resL, res1]
    refine ⟨_, rfl, rfl, fun k hk => ?_⟩
    rw [if_neg (by omega), if_neg (by omega)]
  · simp only [↓R0, R1, simprocAttr, -Int.reduceAbs, hb, Fin, isEnd, resL, res1]
    refine ⟨_, rfl, rfl, fun k hk => ?_⟩
    rw [if_neg (by omega), if_neg (by omega)]
def spI2Norm : List Value → Option Value
  | [.agg ⟨[.bool s, .string ⟨⟨l⟩⟩]⟩] => if l.length ≤ 1099511627776 then some (.agg ⟨iE (sv s l)⟩) else none
  | _ => none
def c70 : ICode :=
  (.seq (.reg [qq 1 (.box 53 2 (.t 0)), qq 2 (.alloc 53 2 [(.bool false), e0])]) (.seq (.reg [qq 3 (.faddr 0 (.t 1)), qq 4 (.load false 1 (.t 3)), qq 5 (.faddr 1 (.t 1)), qq 6 (.load false 1 (.t 5)), qq 7 (.call 81 [(.t 4), (.t 6)]), qn (.store 2 (.t 2) (.t 7))]) .ret))
theorem tr70 : trFun Tryz.prog 70 = some ⟨8, [.cell 2 true 2], c70⟩ := by kernel_rfl
theorem ok_r2Norm : SpecOK Tryz.prog 70 (flat spI2Norm) := by
  refine flat_run (env_cons ok_r2of (env_nil _)) mixed tr70 ?_
  intro args v h N hG
  unfold spI2Norm at hG
  split at hG
  case h_2 => cases hG
  rename_i s l
  split at hG
  case isFalse => cases hG
  rename_i hl
  cases hG
  refine ⟨rfl, by simp, ?_⟩
  simp only [c70, G0, Nat.reduceAdd]
  simp only [↓R0, R1, simprocAttr, -Int.reduceAbs, spI2of, hl, iE, Fin, isEnd, resL, res1]
  refine ⟨_, rfl, rfl, fun k hk => ?_⟩
  simp only [if_neg (show ¬ N + 1 = k by omega), if_neg (show ¬ N + 0 = k by omega)]
def spI2Neg : List Value → Option Value
  | [.agg ⟨[.bool s, .string ⟨⟨l⟩⟩]⟩] => if l.length ≤ 1099511627776 then some (.agg ⟨iE (- sv s l)⟩) else none
  | _ => none
def c86 : ICode :=
  (.seq (.reg [qq 1 (.box 53 2 (.t 0)), qq 2 (.alloc 53 2 [(.bool false), e0])]) (.seq (.reg [qq 3 (.faddr 0 (.t 1)), qq 4 (.load false 1 (.t 3)), qq 5 (.un .not (.t 4)), qq 6 (.faddr 1 (.t 1)), qq 7 (.load false 1 (.t 6)), qq 8 (.call 81 [(.t 5), (.t 7)]), qn (.store 2 (.t 2) (.t 8))]) .ret))
theorem tr86 : trFun Tryz.prog 86 = some ⟨9, [.cell 2 true 2], c86⟩ := by kernel_rfl
theorem ok_r2Neg : SpecOK Tryz.prog 86 (flat spI2Neg) := by
  refine flat_run (env_cons ok_r2of (env_nil _)) mixed tr86 ?_
  intro args v h N hG
  unfold spI2Neg at hG
  split at hG
  case h_2 => cases hG
  rename_i s l
  split at hG
  case isFalse => cases hG
  rename_i hl
  cases hG
  refine ⟨rfl, by simp, ?_⟩
  rw [← sv_neg]
  simp only [c86, G0, Nat.reduceAdd]
  simp only [↓R0, R1, simprocAttr, -Int.reduceAbs, spI2of, hl, iE, Fin, isEnd, resL, res1]
  refine ⟨_, rfl, rfl, fun k hk => ?_⟩
  simp only [if_neg (show ¬ N + 1 = k by omega), if_neg (show ¬ N + 0 = k by omega)]
def spI2Sign : List Value → Option Value
  | [.agg ⟨[.bool s, .string ⟨⟨l⟩⟩]⟩] => if l.length ≤ 1099511627776 then some (.int .i64 (sv s l).sign) else none
  | _ => none
def c55 : ICode :=
  (.seq (.reg [qq 1 (.box 53 2 (.t 0)), qq 2 (.mv (ci 0))]) (.seq (.seq (.reg [qq 3 (.faddr 1 (.t 1)), qq 4 (.load false 1 (.t 3)), qq 5 (.call 73 [(.t 4)]), qq 6 (.bin .eql (.t 5) (.c e0))]) (.cond (.t 6) (.seq (.reg [qq 2 (.mv (ci 0))]) .ret) .skip)) (.seq (.seq (.reg [qq 7 (.faddr 0 (.t 1)), qq 8 (.load false 1 (.t 7))]) (.cond (.t 8) (.seq (.reg [qq 2 (.mv (ci (-1)))]) .ret) .skip)) (.seq (.reg [qq 2 (.mv (ci 1))]) .ret))))
theorem tr55 : trFun Tryz.prog 55 = some ⟨9, [.t 2], c55⟩ := by kernel_rfl
theorem ok_r2Sign : SpecOK Tryz.prog 55 (flat spI2Sign) := by
  refine flat_run (env_cons ok_r1Norm (env_nil _)) mixed tr55 ?_
  intro args v h N hG
  unfold spI2Sign at hG
  split at hG
  case h_2 => cases hG
  rename_i s l
  split at hG
  case isFalse => cases hG
  rename_i hl
  cases hG
  refine ⟨rfl, by simp, ?_⟩
  rw [sgn_sv]
  simp only [c55, G0, Nat.reduceAdd]
  simp only [↓R0, R1, simprocAttr, -Int.reduceAbs, spNorm, hl, bl_eq_nil]
  refine cd_case (fun hb => ?_) (fun hb => ?_)
  · have hb' : nl l = 0 := by simpa using hb
    rw [if_pos hb']
    simp only [↓R0, R1, simprocAttr, -Int.reduceAbs]
    exact fin_t trivial rfl (fun k hk => by rw [hget_new hk])
  · have hb' : ¬ nl l = 0 := by simpa using hb
    rw [if_neg hb']
    simp only [↓R0, R1, simprocAttr, -Int.reduceAbs]
    cases s
    · simp only [↓R0, R1, simprocAttr, -Int.reduceAbs]
      exact fin_t trivial rfl (fun k hk => by rw [hget_new hk])
    · simp only [↓R0, R1, simprocAttr, -Int.reduceAbs]
      exact fin_t trivial rfl (fun k hk => by rw [hget_new hk])
end Go.Eng
end
section
set_option linter.unusedVariables false
set_option linter.unusedSimpArgs false
set_option linter.unusedSectionVars false
set_option maxRecDepth 4000
namespace Go.Eng
open Go Go.Proofs Go.IntWalk
def spI2From : List Value → Option Value
  | [.int .i64 n] => if -9223372036854775808 ≤ n ∧ n ≤ 9223372036854775807 then some (.agg ⟨iE n⟩) else none
  | _ => none
def c60 : ICode :=
  (.seq (.reg [qq 2 (.alloc 53 2 [(.bool false), e0])]) (.seq (.seq (.reg [qq 3 (.mv (.t 0)), qq 4 (.bin .lss (.t 3) (ci 0))]) (.cond (.t 4) (.seq (.reg [qq 5 (.mv (.t 0)), qq 6 (.bin .add (.t 5) (ci 1)), qq 7 (.un .neg (.t 6)), qq 8 (.conv .u64 (.t 7)), qq 9 (.bin .add (.t 8) (.c (.int .u64 1))), qq 10 (.call 82 [(.t 9)]), qq 11 (.call 81 [(.c (.bool true)), (.t 10)]), qn (.store 2 (.t 2) (.t 11))]) .ret) .skip)) (.seq (.reg [qq 12 (.mv (.t 0)), qq 13 (.conv .u64 (.t 12)), qq 14 (.call 82 [(.t 13)]), qq 15 (.call 81 [(.c (.bool false)), (.t 14)]), qn (.store 2 (.t 2) (.t 15))]) .ret)))
theorem tr60 : trFun Tryz.prog 60 = some ⟨16, [.cell 2 true 2], c60⟩ := by kernel_rfl
theorem ok_r2From : SpecOK Tryz.prog 60 (flat spI2From) := by
  refine flat_run (env_cons ok_r2of (env_cons ok_r1Of (env_nil _))) mixed tr60 ?_
  intro args v h N hG
  unfold spI2From at hG
  split at hG
  case h_2 => cases hG
  rename_i n
  split at hG
  case isFalse => cases hG
  rename_i hl
  cases hG
  refine ⟨rfl, by simp, ?_⟩
  have hlen : (bl n.natAbs).length ≤ 1099511627776 := Nat.le_trans (bl_length_le (k := 8).2 (by omega)) (by omega)
  simp only [c60, G0, Nat.reduceAdd]
  simp only [↓R0, R1, simprocAttr, -Int.reduceAbs]
  refine cd_case (fun hb => ?_) (fun hb => ?_)
  · have hn : n < 0 := by simpa using hb
    have hz : sv true (bl n.natAbs) = n := by rw [sv_true, nl_bl]; omega
    have e1 : IntKind.i64.wrap (n + 1) = n + 1 := by rw [i64_in _ (by omega)]
    have e2 : IntKind.i64.wrap (0 - (n + 1)) = (n.natAbs : Int) - 1 := by rw [i64_in _ (by omega)]; omega
    have e3 : IntKind.u64.wrap ((n.natAbs : Int) - 1) = (n.natAbs : Int) - 1 := by rw [u64_in _ (by omega)]
    have e4 : IntKind.u64.wrap ((n.natAbs : Int) - 1 + 1) = (n.natAbs : Int) := by rw [u64_in _ (by omega)]; omega
    have e5 : (n.natAbs : Int) ≤ 18446744073709551615 := by omega
    simp only [↓R0, R1, simprocAttr, -Int.reduceAbs, e1, e2, e3, e4, e5, spOf, spI2of, hlen, iE, hz, Fin, isEnd, resL, res1]
    refine ⟨_, rfl, ?_, fun k hk => ?_⟩
    · rfl
    · rw [if_neg (by omega), if_neg (by omega)]
  · have hn : 0 ≤ n := by simpa using hb
    have hz : sv false (bl n.natAbs) = n := by rw [sv_false, nl_bl]; omega
    have e3 : IntKind.u64.wrap n = (n.natAbs : Int) := by rw [u64_in _ (by omega)]; omega
    have e5 : (n.natAbs : Int) ≤ 18446744073709551615 := by omega
    simp only [↓R0, R1, simprocAttr, -Int.reduceAbs, e3, e5, spOf, spI2of, hlen, iE, hz, Fin, isEnd, resL, res1]
    refine ⟨_, rfl, ?_, fun k hk => ?_⟩
    · rfl
    · rw [if_neg (by omega), if_neg (by omega)]
def spI2Add : List Value → Option Value
  | [.agg ⟨[.bool s, .string ⟨⟨l⟩⟩]⟩, .agg ⟨[.bool t, .string ⟨⟨m⟩⟩]⟩] => if l.length ≤ 549755813888 ∧ m.length ≤ 549755813888 then some (.agg ⟨iE (sv s l + sv t m)⟩) else none
  | _ => none
def c62 : ICode :=
  (.seq (.reg [qq 2 (.box 53 2 (.t 0)), qq 3 (.box 53 2 (.t 1)), qq 4 (.alloc 53 2 [(.bool false), e0])]) (.seq (.seq (.reg [qq 7 (.faddr 0 (.t 2)), qq 8 (.load false 1 (.t 7)), qq 9 (.faddr 0 (.t 3)), qq 10 (.load false 1 (.t 9)), qq 11 (.eqb false (.t 8) (.t 10))]) (.cond (.t 11) (.seq (.dreg [qu 12 (.faddr 0 (.t 2)), qu 13 (.load false 1 (.t 12)), qu 14 (.faddr 1 (.t 2)), qu 15 (.load false 1 (.t 14)), qu 16 (.faddr 1 (.t 3)), qu 17 (.load false 1 (.t 16)), qu 18 (.call 83 [(.t 15), (.t 17)]), qu 19 (.call 81 [(.t 13), (.t 18)]), qm (.store 2 (.t 4) (.t 19))]) .ret) .skip)) (.seq (.reg [qq 21 (.faddr 1 (.t 2)), qq 22 (.load false 1 (.t 21)), qq 23 (.faddr 1 (.t 3)), qq 24 (.load false 1 (.t 23)), qq 25 (.call 84 [(.t 22), (.t 24)]), qq 20 (.mv (.t 25)), qq 26 (.ext (.t 20) 0), qq 27 (.ext (.t 20) 1), qq 5 (.mv (.t 26)), qq 6 (.mv (.t 27))]) (.seq (.seq (.reg [qq 28 (.mv (.t 6))]) (.cond (.t 28) (.seq (.reg [qq 29 (.faddr 0 (.t 2)), qq 30 (.load false 1 (.t 29)), qq 31 (.mv (.t 5)), qq 32 (.call 81 [(.t 30), (.t 31)]), qn (.store 2 (.t 4) (.t 32))]) .ret) .skip)) (.seq (.reg [qq 34 (.faddr 1 (.t 3)), qq 35 (.load false 1 (.t 34)), qq 36 (.faddr 1 (.t 2)), qq 37 (.load false 1 (.t 36)), qq 38 (.call 84 [(.t 35), (.t 37)]), qq 33 (.mv (.t 38)), qq 39 (.ext (.t 33) 0), qq 40 (.ext (.t 33) 1), qq 5 (.mv (.t 39))]) (.seq (.reg [qq 41 (.faddr 0 (.t 3)), qq 42 (.load false 1 (.t 41)), qq 43 (.mv (.t 5)), qq 44 (.call 81 [(.t 42), (.t 43)]), qn (.store 2 (.t 4) (.t 44))]) .ret))))))
theorem tr62 : trFun Tryz.prog 62 = some ⟨45, [.cell 4 true 2], c62⟩ := by kernel_rfl
theorem ok_r2Add : SpecOK Tryz.prog 62 (flat spI2Add) := by
  refine flat_run (env_cons ok_r2of (env_cons ok_r1Add (env_cons ok_r1Sub (env_nil _)))) mixed tr62 ?_
  intro args v h N hG
  unfold spI2Add at hG
  split at hG
  case h_2 => cases hG
  rename_i s l t m
  split at hG
  case isFalse => cases hG
  rename_i hl
  obtain ⟨hl, hm⟩ := hl
  cases hG
  refine ⟨rfl, by simp, ?_⟩
  have la := bl_length_nl l
  have lb := bl_length_nl m
  have ls : (bl (nl l + nl m)).length ≤ 1099511627776 := Nat.le_trans (bl_length_add (k := max l.length m.length) (by omega) (by omega)) (by omega)
  have ld1 : (bl (nl l - nl m)).length ≤ 1099511627776 := Nat.le_trans (bl_length_mono (Nat.sub_le _ _)) (by omega)
  have ld2 : (bl (nl m - nl l)).length ≤ 1099511627776 := Nat.le_trans (bl_length_mono (Nat.sub_le _ _)) (by omega)
  by_cases hst : s = t
  · subst hst
    have hz : sv s l + sv s m = sv s (bl (nl l + nl m)) := by rw [sv_bl]; cases s <;> simp [sv] <;> omega
    rw [hz]
    simp only [c62, G0, Nat.reduceAdd]
    simp only [↓R0, R1, simprocAttr, -Int.reduceAbs, spAdd, spI2of, hl, hm, ls, iE, Fin, isEnd, resL, res1]
    refine ⟨_, rfl, rfl, fun k hk => ?_⟩
    simp only [if_neg (show ¬ N + 2 = k by omega), if_neg (show ¬ N + 1 = k by omega), if_neg (show ¬ N + 0 = k by omega)]
  · by_cases hlt : nl l < nl m
    · have hlt2 : ¬ nl m < nl l := by omega
      have hz : sv s l + sv t m = sv t (bl (nl m - nl l)) := by rw [sv_bl]; cases s <;> cases t <;> simp [sv] at hst ⊢ <;> omega
      rw [hz]
      simp only [c62, G0, Nat.reduceAdd]
      simp only [↓R0, R1, simprocAttr, -Int.reduceAbs, hst, spSub, spI2of, hl, hm, hlt, hlt2, ld2, iE, Fin, isEnd, resL, res1]
      refine ⟨_, rfl, rfl, fun k hk => ?_⟩
      simp only [if_neg (show ¬ N + 2 = k by omega), if_neg (show ¬ N + 1 = k by omega), if_neg (show ¬ N + 0 = k by omega)]
    · have hz : sv s l + sv t m = sv s (bl (nl l - nl m)) := by rw [sv_bl]; cases s <;> cases t <;> simp [sv] at hst ⊢ <;> omega
      rw [hz]
      simp only [c62, G0, Nat.reduceAdd]
      simp only [↓R0, R1, simprocAttr, -Int.reduceAbs, hst, spSub, spI2of, hl, hm, hlt, ld1, iE, Fin, isEnd, resL, res1]
      refine ⟨_, rfl, rfl, fun k hk => ?_⟩
      simp only [if_neg (show ¬ N + 2 = k by omega), if_neg (show ¬ N + 1 = k by omega), if_neg (show ¬ N + 0 = k by omega)]
end Go.Eng
end
section
set_option linter.unusedVariables false
set_option linter.unusedSimpArgs false
set_option linter.unusedSectionVars false
set_option maxRecDepth 4000
namespace Go.Eng
open Go Go.Proofs Go.IntWalk
def spI2Sub : List Value → Option Value
  | [.agg ⟨[.bool s, .string ⟨⟨l⟩⟩]⟩, .agg ⟨[.bool t, .string ⟨⟨m⟩⟩]⟩] => if l.length ≤ 549755813888 ∧ m.length ≤ 549755813888 then some (.agg ⟨iE (sv s l - sv t m)⟩) else none
  | _ => none
def c92 : ICode :=
  (.seq (.reg [qq 2 (.box 53 2 (.t 0)), qq 3 (.box 53 2 (.t 1)), qq 4 (.alloc 53 2 [(.bool false), e0])]) (.seq (.dreg [qu 5 (.load true 2 (.t 2)), qu 6 (.load true 2 (.t 3)), qu 7 (.call 86 [(.t 6)]), qu 8 (.call 62 [(.t 5), (.t 7)]), qm (.store 2 (.t 4) (.t 8))]) .ret))
theorem tr92 : trFun Tryz.prog 92 = some ⟨9, [.cell 4 true 2], c92⟩ := by kernel_rfl
theorem ok_r2Sub : SpecOK Tryz.prog 92 (flat spI2Sub) := by
  refine flat_run (env_cons ok_r2Neg (env_cons ok_r2Add (env_nil _))) mixed tr92 ?_
  intro args v h N hG
  unfold spI2Sub at hG
  split at hG
  case h_2 => cases hG
  rename_i s l t m
  split at hG
  case isFalse => cases hG
  rename_i hl
  obtain ⟨hl, hm⟩ := hl
  cases hG
  refine ⟨rfl, by simp, ?_⟩
  have hm2 : m.length ≤ 1099511627776 := by omega
  have hn : (bl (-sv t m).natAbs).length ≤ 549755813888 := by rw [Int.natAbs_neg, sv_natAbs]; exact Nat.le_trans (bl_length_nl m) hm
  rw [Int.sub_eq_add_neg]
  simp only [c92, G0, Nat.reduceAdd]
  simp only [↓R0, R1, simprocAttr, -Int.reduceAbs, spI2Neg, spI2Add, iE, hl, hm2, hn, Fin, isEnd, resL, res1]
  refine ⟨_, rfl, rfl, fun k hk => ?_⟩
  simp only [if_neg (show ¬ N + 2 = k by omega), if_neg (show ¬ N + 1 = k by omega), if_neg (show ¬ N + 0 = k by omega)]
def spI2Mul : List Value → Option Value
  | [.agg ⟨[.bool s, .string ⟨⟨l⟩⟩]⟩, .agg ⟨[.bool t, .string ⟨⟨m⟩⟩]⟩] => if l.length + m.length ≤ 274877906944 then some (.agg ⟨iE (sv s l * sv t m)⟩) else none
  | _ => none
def c63 : ICode :=
  (.seq (.reg [qq 2 (.box 53 2 (.t 0)), qq 3 (.box 53 2 (.t 1)), qq 4 (.alloc 53 2 [(.bool false), e0])]) (.seq (.dreg [qu 5 (.faddr 0 (.t 2)), qu 6 (.load false 1 (.t 5)), qu 7 (.faddr 0 (.t 3)), qu 8 (.load false 1 (.t 7)), qu 9 (.eqb true (.t 6) (.t 8)), qu 10 (.faddr 1 (.t 2)), qu 11 (.load false 1 (.t 10)), qu 12 (.faddr 1 (.t 3)), qu 13 (.load false 1 (.t 12)), qu 14 (.call 85 [(.t 11), (.t 13)]), qu 15 (.call 81 [(.t 9), (.t 14)]), qm (.store 2 (.t 4) (.t 15))]) .ret))
theorem tr63 : trFun Tryz.prog 63 = some ⟨16, [.cell 4 true 2], c63⟩ := by kernel_rfl
theorem sv_mul (s t : Bool) (l m : List UInt8) : sv (decide (s ≠ t)) (bl (nl l * nl m)) = sv s l * sv t m := by
  rw [sv_bl]
  cases s <;> cases t <;> simp [sv, Int.neg_mul, Int.mul_neg]
theorem ok_r2Mul : SpecOK Tryz.prog 63 (flat spI2Mul) := by
  refine flat_run (env_cons ok_r2of (env_cons ok_r1Mul (env_nil _))) mixed tr63 ?_
  intro args v h N hG
  unfold spI2Mul at hG
  split at hG
  case h_2 => cases hG
  rename_i s l t m
  split at hG
  case isFalse => cases hG
  rename_i hl
  cases hG
  refine ⟨rfl, by simp, ?_⟩
  have la := bl_length_nl l
  have lb := bl_length_nl m
  have hp : (bl (nl l * nl m)).length ≤ 1099511627776 := Nat.le_trans (bl_length_mul _ _) (by omega)
  have hz := sv_mul s t l m
  simp only [ne_eq] at hz
  simp only [c63, G0, Nat.reduceAdd]
  simp only [↓R0, R1, simprocAttr, -Int.reduceAbs, spMul, spI2of, iE, hl, hp, hz, Fin, isEnd, resL, res1]
  refine ⟨_, rfl, rfl, fun k hk => ?_⟩
  simp only [if_neg (show ¬ N + 2 = k by omega), if_neg (show ¬ N + 1 = k by omega), if_neg (show ¬ N + 0 = k by omega)]
end Go.Eng
end
section
set_option linter.unusedVariables false
set_option linter.unusedSimpArgs false
set_option linter.unusedSectionVars false
set_option maxRecDepth 4000
namespace Go.Eng
open Go Go.Proofs Go.IntWalk
def spI2Div : List Value → Option Value
  | [.agg ⟨[.bool s, .string ⟨⟨l⟩⟩]⟩, .agg ⟨[.bool t, .string ⟨⟨m⟩⟩]⟩] => if l.length ≤ 68719476736 ∧ m.length ≤ 68719476736 then
      (if nl m = 0 then some (.tuple ⟨[.agg ⟨[.bool false, .string ⟨⟨[]⟩⟩]⟩, .agg ⟨[.bool false, .string ⟨⟨[]⟩⟩]⟩, .bool false]⟩) else
        some (.tuple ⟨[.agg ⟨iE (sv s l / sv t m)⟩, .agg ⟨iE (sv s l % sv t m)⟩, .bool true]⟩)) else none
  | _ => none
def c72 : ICode :=
  (.seq (.reg [qq 2 (.box 53 2 (.t 0)), qq 3 (.box 53 2 (.t 1)), qq 4 (.alloc 53 2 [(.bool false), e0]), qq 5 (.alloc 53 2 [(.bool false), e0]), qq 6 (.mv (.c (.bool false)))]) (.seq (.reg [qq 13 (.faddr 1 (.t 2)), qq 14 (.load false 1 (.t 13)), qq 15 (.faddr 1 (.t 3)), qq 16 (.load false 1 (.t 15)), qq 17 (.call 91 [(.t 14), (.t 16)]), qq 12 (.mv (.t 17)), qq 18 (.ext (.t 12) 0), qq 19 (.ext (.t 12) 1), qq 20 (.ext (.t 12) 2), qq 7 (.mv (.t 18)), qq 8 (.mv (.t 19)), qq 9 (.mv (.t 20))]) (.seq (.seq (.reg [qq 21 (.mv (.t 9)), qq 22 (.un .not (.t 21))]) (.cond (.t 22) (.seq (.reg [qq 23 (.build [(.bool false), e0] []), qq 24 (.build [(.bool false), e0] []), qn (.store 2 (.t 4) (.t 23)), qn (.store 2 (.t 5) (.t 24)), qq 6 (.mv (.c (.bool false)))]) .ret) .skip)) (.seq (.reg [qq 25 (.faddr 0 (.t 2)), qq 26 (.load false 1 (.t 25)), qq 27 (.mv (.t 8)), qq 28 (.call 81 [(.t 26), (.t 27)]), qq 10 (.alloc 53 2 [(.bool false), e0]), qn (.store 2 (.t 10) (.t 28))]) (.seq (.reg [qq 29 (.faddr 0 (.t 2)), qq 30 (.load false 1 (.t 29)), qq 31 (.faddr 0 (.t 3)), qq 32 (.load false 1 (.t 31)), qq 33 (.eqb true (.t 30) (.t 32)), qq 34 (.mv (.t 7)), qq 35 (.call 81 [(.t 33), (.t 34)]), qq 11 (.alloc 53 2 [(.bool false), e0]), qn (.store 2 (.t 11) (.t 35))]) (.seq (.seq (.reg [qq 36 (.load true 2 (.t 10)), qq 37 (.call 55 [(.t 36)]), qq 38 (.bin .lss (.t 37) (ci 0))]) (.cond (.t 38) (.seq (.dreg [qu 39 (.load true 2 (.t 10)), qu 40 (.faddr 1 (.t 3)), qu 41 (.load false 1 (.t 40)), qu 42 (.call 81 [(.c (.bool false)), (.t 41)]), qu 43 (.call 62 [(.t 39), (.t 42)]), qm (.store 2 (.t 10) (.t 43))]) (.seq (.reg [qq 44 (.load true 2 (.t 3)), qq 45 (.call 55 [(.t 44)]), qq 46 (.bin .gtr (.t 45) (ci 0))]) (.cond (.t 46) (.dreg [qu 47 (.load true 2 (.t 11)), qu 48 (.call 60 [(ci 1)]), qu 49 (.call 92 [(.t 47), (.t 48)]), qm (.store 2 (.t 11) (.t 49))]) (.dreg [qu 50 (.load true 2 (.t 11)), qu 51 (.call 60 [(ci 1)]), qu 52 (.call 62 [(.t 50), (.t 51)]), qm (.store 2 (.t 11) (.t 52))])))) .skip)) (.seq (.dreg [qu 53 (.load true 2 (.t 11)), qu 54 (.load true 2 (.t 10)), ⟨none, none, [1001], (.store 2 (.t 4) (.t 53))⟩, qm (.store 2 (.t 5) (.t 54)), qu 6 (.mv (.c (.bool true)))]) .ret)))))))
theorem tr72 : trFun Tryz.prog 72 = some ⟨55, [.cell 4 true 2, .cell 5 true 2, .t 6], c72⟩ := by kernel_rfl
theorem sv_div {s t : Bool} {l m : List UInt8} (hm : nl m ≠ 0) :
    (s = false ∨ nl l % nl m = 0 → sv s l / sv t m = sv (decide (s ≠ t)) (bl (nl l / nl m)) ∧ sv s l % sv t m = sv s (bl (nl l % nl m))) ∧
    (s = true → nl l % nl m ≠ 0 → sv s l % sv t m = sv s (bl (nl l % nl m)) + sv false (bl (nl m)) ∧
      sv s l / sv t m = if t then sv (decide (s ≠ t)) (bl (nl l / nl m)) + 1 else sv (decide (s ≠ t)) (bl (nl l / nl m)) - 1) := by
  have hd := Nat.div_add_mod (nl l) (nl m)
  have hr := Nat.mod_lt (nl l) (Nat.pos_of_ne_zero hm)
  simp only [sv_bl]
  generalize nl l / nl m = q at *
  generalize nl l % nl m = r at *
  generalize hL : nl l = L at *
  generalize hM : nl m = M at *
  have hdi : (M : Int) * (q : Int) + (r : Int) = (L : Int) := by rw [← hd]; simp
  have pos : ∀ A Q R : Int, R + (M : Int) * Q = A → 0 ≤ R → R < M → A / (M : Int) = Q ∧ A % (M : Int) = R := fun A Q R h1 h2 h3 => (Int.ediv_emod_unique (by omega)).2 ⟨h1, h2, h3⟩
  have neg : ∀ A Q R : Int, R + -(M : Int) * Q = A → 0 ≤ R → R < M → A / -(M : Int) = Q ∧ A % -(M : Int) = R := by
    intro A Q R h1 h2 h3
    have := pos A (-Q) R (by rw [Int.mul_neg, ← Int.neg_mul]; exact h1) h2 h3
    rw [Int.ediv_neg, Int.emod_neg, this.1, this.2]
    simp
  have e1 : (M : Int) * (-(q : Int)) = -((M : Int) * (q : Int)) := by rw [Int.mul_neg]
  have e2 : -(M : Int) * (q : Int) = -((M : Int) * (q : Int)) := by rw [Int.neg_mul]
  have e3 : -(M : Int) * (-(q : Int)) = ((M : Int) * (q : Int)) := by rw [Int.neg_mul, Int.mul_neg]; simp
  constructor
  · intro h
    cases s <;> cases t <;> simp only [sv, hL, hM, ne_eq, reduceCtorEq, not_true_eq_false, not_false_eq_true, decide_true, decide_false, if_true, if_false, Bool.false_eq_true]
    · exact pos _ _ _ (by omega) (by omega) (by omega)
    · exact neg _ _ _ (by omega) (by omega) (by omega)
    · have : r = 0 := by simpa using h
      exact pos _ _ _ (by omega) (by omega) (by omega)
    · have : r = 0 := by simpa using h
      exact neg _ _ _ (by omega) (by omega) (by omega)
  · intro hs h
    subst hs
    cases t <;> simp only [sv, hL, hM, ne_eq, reduceCtorEq, not_true_eq_false, not_false_eq_true, decide_true, decide_false, if_true, if_false, Bool.false_eq_true]
    · have := pos (-(L : Int)) (-(q : Int) - 1) (-(r : Int) + M) (by rw [Int.mul_sub, e1]; omega) (by omega) (by omega)
      exact ⟨this.2, this.1⟩
    · have := neg (-(L : Int)) ((q : Int) + 1) (-(r : Int) + M) (by rw [Int.mul_add, e2]; omega) (by omega) (by omega)
      exact ⟨this.2, this.1⟩
theorem ok_r2Div : SpecOK Tryz.prog 72 (flat spI2Div) := by
  refine flat_run (env_cons ok_r2of (env_cons ok_r1Div (env_cons ok_r2Sign (env_cons ok_r2Add (env_cons ok_r2Sub (env_cons ok_r2From (env_nil _))))))) mixed tr72 ?_
  intro args v h N hG
  unfold spI2Div at hG
  split at hG
  case h_2 => cases hG
  rename_i s l t m
  split at hG
  case isFalse => cases hG
  rename_i hl
  obtain ⟨hl, hm⟩ := hl
  split at hG
  · rename_i h0
    cases hG
    refine ⟨rfl, by simp, ?_⟩
    simp only [c72, G0, Nat.reduceAdd]
    simp only [↓R0, R1, simprocAttr, -Int.reduceAbs, spDiv, hl, hm, h0, Bool.not_false, Fin, isEnd, resL, res1]
    refine ⟨_, rfl, rfl, fun k hk => ?_⟩
    simp only [if_neg (show ¬ N + 3 = k by omega), if_neg (show ¬ N + 2 = k by omega), if_neg (show ¬ N + 1 = k by omega), if_neg (show ¬ N + 0 = k by omega)]
  rename_i h0
  cases hG
  refine ⟨rfl, by simp, ?_⟩
  have la := bl_length_nl l
  have lb := bl_length_nl m
  have q1 : (bl (nl l / nl m)).length ≤ 68719476736 := Nat.le_trans (bl_length_mono (Nat.div_le_self _ _)) (by omega)
  have r1 : (bl (nl l % nl m)).length ≤ 68719476736 := Nat.le_trans (bl_length_mono (Nat.mod_le _ _)) (by omega)
  have q2 : (bl (nl l / nl m)).length ≤ 1099511627776 := by omega
  have r2 : (bl (nl l % nl m)).length ≤ 1099511627776 := by omega
  have m2 : m.length ≤ 1099511627776 := by omega
  have X1 : (bl (sv s (bl (nl l % nl m))).natAbs).length ≤ 1099511627776 := by rw [sv_natAbs, nl_bl]; omega
  have X2 : (bl (sv s (bl (nl l % nl m))).natAbs).length ≤ 549755813888 := by rw [sv_natAbs, nl_bl]; omega
  have M2 : (bl (sv false m).natAbs).length ≤ 549755813888 := by rw [sv_natAbs]; omega
  have Y2 : (bl (sv (decide (s ≠ t)) (bl (nl l / nl m))).natAbs).length ≤ 549755813888 := by rw [sv_natAbs, nl_bl]; omega
  simp only [ne_eq] at Y2
  have o1 : sv false (bl (Int.natAbs 1)) = 1 := by rw [sv_false, nl_bl]; rfl
  have o2 : (bl (Int.natAbs 1)).length ≤ 549755813888 := Nat.le_trans (bl_length_le (k := 1).2 (by decide)) (by omega)
  obtain ⟨d1, d2⟩ := sv_div (s := s) (t := t) (l := l) (m := m) h0
  simp only [ne_eq] at d1 d2
  by_cases hc : s = false ∨ nl l % nl m = 0
  · have hs : ¬ (sv s (bl (nl l % nl m))).sign < 0 := by
      rw [sgn_sv, nl_bl]
      rcases hc with hc | hc
      · subst hc; split <;> simp
      · rw [if_pos hc]; simp
    obtain ⟨d3, d4⟩ := d1 hc
    rw [d3, d4]
    simp only [c72, G0, Nat.reduceAdd]
    simp only [↓R0, R1, simprocAttr, -Int.reduceAbs, spDiv, spI2of, spI2Sign, iE, hl, hm, h0, q2, r2, X1, hs, Bool.not_true, Fin, isEnd, resL, res1]
    refine ⟨_, rfl, rfl, fun k hk => ?_⟩
    simp only [if_neg (show ¬ N + 5 = k by omega), if_neg (show ¬ N + 4 = k by omega), if_neg (show ¬ N + 3 = k by omega), if_neg (show ¬ N + 2 = k by omega), if_neg (show ¬ N + 1 = k by omega), if_neg (show ¬ N + 0 = k by omega)]
  · have hs1 : s = true := by
      cases s
      · simp at hc
      · rfl
    have hr0 : nl l % nl m ≠ 0 := fun e => hc (.inr e)
    have hs : (sv s (bl (nl l % nl m))).sign < 0 := by
      rw [sgn_sv, nl_bl, if_neg hr0, hs1]; simp
    obtain ⟨d3, d4⟩ := d2 hs1 hr0
    have hfm : sv false (bl (nl m)) = sv false m := by rw [sv_false, nl_bl]; rfl
    rw [d3, d4, hfm]
    have ht : (sv t m).sign > 0 ↔ t = false := by
      rw [sgn_sv, if_neg h0]
      cases t <;> simp
    cases t
    · have ht' : (sv false m).sign > 0 := ht.2 rfl
      simp only [c72, G0, Nat.reduceAdd]
      simp only [↓R0, R1, simprocAttr, -Int.reduceAbs, spDiv, spI2of, spI2Sign, spI2Add, spI2From, spI2Sub, iE, hl, hm, h0, q2, r2, m2, X1, X2, M2, Y2, o1, o2, hs, ht', Bool.not_true, Fin, isEnd, resL, res1]
      refine ⟨_, rfl, rfl, fun k hk => ?_⟩
      simp only [if_neg (show ¬ N + 5 = k by omega), if_neg (show ¬ N + 4 = k by omega), if_neg (show ¬ N + 3 = k by omega), if_neg (show ¬ N + 2 = k by omega), if_neg (show ¬ N + 1 = k by omega), if_neg (show ¬ N + 0 = k by omega)]
    · have ht' : ¬ (sv true m).sign > 0 := fun e => by have := ht.1 e; cases this
      simp only [c72, G0, Nat.reduceAdd]
      simp only [↓R0, R1, simprocAttr, -Int.reduceAbs, spDiv, spI2of, spI2Sign, spI2Add, spI2From, iE, hl, hm, h0, q2, r2, m2, X1, X2, M2, Y2, o1, o2, hs, ht', Bool.not_true, Fin, isEnd, resL, res1]
      refine ⟨_, rfl, rfl, fun k hk => ?_⟩
      simp only [if_neg (show ¬ N + 5 = k by omega), if_neg (show ¬ N + 4 = k by omega), if_neg (show ¬ N + 3 = k by omega), if_neg (show ¬ N + 2 = k by omega), if_neg (show ¬ N + 1 = k by omega), if_neg (show ¬ N + 0 = k by omega)]
end Go.Eng
end
section
set_option linter.unusedVariables false
set_option linter.unusedSimpArgs false
set_option linter.unusedSectionVars false
set_option maxRecDepth 4000
namespace Go.Eng
open Go Go.Proofs Go.IntWalk
def ints : List Value → Option (List (Bool × List UInt8))
  | [] => some []
  | .bool s :: .string ⟨⟨l⟩⟩ :: r => (ints r).map ((s, l) :: ·)
  | _ => none
theorem ints_get : ∀ (zs : List (Bool × List UInt8)) {cells : List Value}, ints cells = some zs → ∀ (i : Nat) s l, zs[i]? = some (s, l) → cells[i * 2]? = some (.bool s) ∧ cells[i * 2 + 1]? = some (.string ⟨⟨l⟩⟩)
  | [], cells, h, i, s, l, hi => by simp at hi
  | z :: zs, cells, h, i, s, l, hi => by
    unfold ints at h
    split at h
    · cases h
    · rename_i s' l' r
      simp only [Option.map_eq_some_iff] at h
      obtain ⟨zs', h1, h2⟩ := h
      cases h2
      cases i with
      | zero => simp at hi; obtain ⟨rfl, rfl⟩ := hi; simp
      | succ i =>
        have := ints_get zs h1 i s l (by simpa using hi)
        have e : (i + 1) * 2 = i * 2 + 2 := by omega
        rw [e]
        simpa using this
    · cases h
def gcds (zs : List (Bool × List UInt8)) : Nat := zs.foldl (fun g z => Nat.gcd g (nl z.2)) 0
def spI2Gcd : List Value → Heap → Option Value
  | [.slice (some ⟨k, 0, none⟩) len _], h => match hget h k with
    | some blk => match ints blk.cells with
      | some zs => if len ≤ zs.length ∧ len ≤ 1000 ∧ (∀ z ∈ zs, z.2.length ≤ 68719476736) then some (.agg ⟨iE (gcds (zs.take len) : Int)⟩) else none
      | none => none
    | none => none
  | _, _ => none
def c71 : ICode :=
  (.seq (.reg [qq 2 (.alloc 53 2 [(.bool false), e0])]) (.seq (.reg [qq 3 (.mv (.c e0))]) (.seq (.seq (.reg [qq 4 (.mv (ci 0))]) (.block 0 (.loop (.seq (.seq (.reg [qq 5 (.mv (.t 4)), qq 6 (.mv (.t 0)), qq 7 (.lensl (.t 6)), qq 8 (.bin .lss (.t 5) (.t 7))]) (.cond (.t 8) .skip (.exit 0))) (.seq (.block 1 (.reg [qq 11 (.mv (.t 3)), qq 12 (.mv (.t 0)), qq 13 (.mv (.t 4)), qq 14 (.ixsl 2 (.t 12) (.t 13)), qq 15 (.faddr 1 (.t 14)), qq 16 (.load false 1 (.t 15)), qq 17 (.call 90 [(.t 11), (.t 16)]), qq 3 (.mv (.t 17))])) (.reg [qq 9 (.mv (.t 4)), qq 10 (.bin .add (.t 9) (ci 1)), qq 4 (.mv (.t 10))])))))) (.seq (.reg [qq 18 (.mv (.t 3)), qq 19 (.call 81 [(.c (.bool false)), (.t 18)]), qn (.store 2 (.t 2) (.t 19))]) .ret))))
theorem tr71 : trFun Tryz.prog 71 = some ⟨20, [.cell 2 true 2], c71⟩ := by kernel_rfl
theorem ok_r2Gcd : SpecOK Tryz.prog 71 (rdS spI2Gcd) := by
  refine rd_run (env_cons ok_r2of (env_cons ok_r1Gcd (env_nil _))) mixed tr71 ?_ ?_
  · intro args h h' v hle e
    unfold spI2Gcd at e ⊢
    split at e
    · rename_i k len c
      split at e
      · rename_i blk hb
        simp only [hle _ _ hb]; exact e
      · cases e
    · cases e
  intro args v h N hG hN
  unfold spI2Gcd at hG
  split at hG
  case h_2 => cases hG
  rename_i k len c
  split at hG
  case h_2 => cases hG
  rename_i blk hb
  split at hG
  case h_2 => cases hG
  rename_i zs hz
  split at hG
  case isFalse => cases hG
  rename_i hl
  obtain ⟨hl1, hl2, hl3⟩ := hl
  cases hG
  have hk := hN _ _ hb
  have hne : ¬ (N + 0 = k) := by omega
  refine ⟨rfl, by simp, ?_⟩
  simp only [c71, G0, Nat.reduceAdd]
  simp only [↓R0, R1, simprocAttr, -Int.reduceAbs]
  refine lp_parts (fun n tm hp nx => ∃ (i : Nat), n + i = len ∧ tmget tm 0 = .slice (some ⟨k, 0, none⟩) len c ∧ tmget tm 4 = .int .i64 i ∧ tmget tm 3 = .string ⟨⟨bl (gcds (zs.take i))⟩⟩ ∧
      tmget tm 2 = .pointer (some ⟨N + 0, 0, none⟩) ∧ hp = (N + 0, some ⟨53, 2, true, [.bool false, .string ⟨⟨[]⟩⟩]⟩) :: h ∧ (bl (gcds (zs.take i))).length ≤ 68719476736) ?_ len
    ⟨0, by omega, ?_, ?_, ?_, ?_, rfl, ?_⟩
  · intro n tm hp nx ⟨i, hn, t0, t4, t3, t2, hh, hg⟩
    subst hh
    by_cases c1 : i < len
    · obtain ⟨⟨s, l⟩, hi⟩ : ∃ z, zs[i]? = some z := ⟨_, List.getElem?_eq_getElem (by omega)⟩
      obtain ⟨g1, g2⟩ := ints_get zs hz i s l hi
      have hll : l.length ≤ 68719476736 := hl3 (s, l) (List.mem_of_getElem? hi)
      have e1 : IntKind.i64.wrap ((i : Int) + 1) = ((i + 1 : Nat) : Int) := by rw [i64_in _ (by omega)]; omega
      have hgs : gcds (zs.take (i + 1)) = Nat.gcd (gcds (zs.take i)) (nl l) := by
        unfold gcds; rw [List.take_add_one, hi]; simp
      simp only [↓R0, R1, simprocAttr, -Int.reduceAbs, t0, t4, t3, t2, c1, hne, hb, g2, e1, spGcd, hg, hll, nl_bl]
      refine ⟨n - 1, by omega, i + 1, by omega, rfl, ?_, ?_⟩
      · rw [hgs]
      · rw [hgs]
        rcases Nat.eq_zero_or_pos (nl l) with e | e
        · rw [e, Nat.gcd_zero_right]; exact hg
        · exact Nat.le_trans (bl_length_mono (Nat.gcd_le_right _ e)) (Nat.le_trans (bl_length_nl l) hll)
    · have ei : i = len := by omega
      subst ei
      have hg2 : (bl (gcds (zs.take i))).length ≤ 1099511627776 := by omega
      have hz2 : sv false (bl (gcds (zs.take i))) = (gcds (zs.take i) : Int) := by rw [sv_false, nl_bl]
      simp only [↓R0, R1, simprocAttr, -Int.reduceAbs, t0, t4, t3, t2, c1, spI2of, hg2, hz2, iE, Fin, isEnd, resL, res1]
      refine ⟨_, rfl, rfl, fun k hk => ?_⟩
      simp only [if_neg (show ¬ N + 0 = k by omega)]
  · (first | (simp only [↓R0, R1, simprocAttr, -Int.reduceAbs]; done) | (simp only [↓R0, R1, simprocAttr, -Int.reduceAbs]; rfl) | rfl)
  · (first | (simp only [↓R0, R1, simprocAttr, -Int.reduceAbs]; done) | (simp only [↓R0, R1, simprocAttr, -Int.reduceAbs]; rfl) | rfl)
  · (first | (simp only [↓R0, R1, simprocAttr, -Int.reduceAbs, gcds, List.foldl_nil, bl_zero]; done) | (simp only [↓R0, R1, simprocAttr, -Int.reduceAbs, gcds, List.foldl_nil, bl_zero]; rfl) | rfl)
  · (first | (simp only [↓R0, R1, simprocAttr, -Int.reduceAbs]; done) | (simp only [↓R0, R1, simprocAttr, -Int.reduceAbs]; rfl) | rfl)
  · simp [gcds, bl_zero]
end Go.Eng
end
section
set_option linter.unusedVariables false
set_option linter.unusedSimpArgs false
set_option linter.unusedSectionVars false
set_option maxRecDepth 4000
namespace Go.Eng
open Go Go.Proofs Go.IntWalk
def spOne : List Value → Option Value
  | [] => some (.agg ⟨iE 1⟩)
  | _ => none
def c61 : ICode :=
  (.seq (.reg [qq 0 (.alloc 53 2 [(.bool false), e0])]) (.seq (.reg [qq 1 (.call 60 [(ci 1)]), qn (.store 2 (.t 0) (.t 1))]) .ret))
theorem tr61 : trFun Tryz.prog 61 = some ⟨2, [.cell 0 true 2], c61⟩ := by kernel_rfl
theorem ok_r3one : SpecOK Tryz.prog 61 (flat spOne) := by
  refine flat_run (env_cons ok_r2From (env_nil _)) mixed tr61 ?_
  intro args v h N hG
  unfold spOne at hG
  split at hG
  case h_2 => cases hG
  cases hG
  refine ⟨rfl, by simp, ?_⟩
  simp only [c61, G0, Nat.reduceAdd]
  simp only [↓R0, R1, simprocAttr, -Int.reduceAbs, spI2From, iE, Fin, isEnd, resL, res1]
  refine ⟨_, rfl, rfl, fun k hk => ?_⟩
  simp only [if_neg (show ¬ N + 0 = k by omega)]
def spAbove : List Value → Option Value
  | [.agg ⟨[.bool s, .string ⟨⟨n⟩⟩, .string ⟨⟨d⟩⟩]⟩] => if n.length ≤ 1099511627776 then some (.agg ⟨iE (sv s n)⟩) else none
  | _ => none
def c53 : ICode :=
  (.seq (.reg [qq 1 (.box 30 3 (.t 0)), qq 2 (.alloc 53 2 [(.bool false), e0])]) (.seq (.reg [qq 3 (.faddr 0 (.t 1)), qq 4 (.load false 1 (.t 3)), qq 5 (.faddr 1 (.t 1)), qq 6 (.load false 1 (.t 5)), qq 7 (.build [(.bool false), e0] [(0, 1, (.t 4)), (1, 1, (.t 6))]), qq 8 (.call 70 [(.t 7)]), qn (.store 2 (.t 2) (.t 8))]) .ret))
theorem tr53 : trFun Tryz.prog 53 = some ⟨9, [.cell 2 true 2], c53⟩ := by kernel_rfl
theorem ok_r3above : SpecOK Tryz.prog 53 (flat spAbove) := by
  refine flat_run (env_cons ok_r2Norm (env_nil _)) mixed tr53 ?_
  intro args v h N hG
  unfold spAbove at hG
  split at hG
  case h_2 => cases hG
  rename_i s n d
  split at hG
  case isFalse => cases hG
  rename_i hl
  cases hG
  refine ⟨rfl, by simp, ?_⟩
  simp only [c53, G0, Nat.reduceAdd]
  simp only [↓R0, R1, simprocAttr, -Int.reduceAbs, spI2Norm, hl, iE, Fin, isEnd, resL, res1]
  refine ⟨_, rfl, rfl, fun k hk => ?_⟩
  simp only [if_neg (show ¬ N + 1 = k by omega), if_neg (show ¬ N + 0 = k by omega)]
def spBelow : List Value → Option Value
  | [.agg ⟨[.bool s, .string ⟨⟨n⟩⟩, .string ⟨⟨d⟩⟩]⟩] => if d.length ≤ 1099511627776 then some (.agg ⟨iE (dv d)⟩) else none
  | _ => none
def c54 : ICode :=
  (.seq (.reg [qq 1 (.box 30 3 (.t 0)), qq 2 (.alloc 53 2 [(.bool false), e0])]) (.seq (.reg [qq 4 (.faddr 2 (.t 1)), qq 5 (.load false 1 (.t 4)), qq 6 (.build [(.bool false), e0] [(1, 1, (.t 5))]), qq 7 (.call 70 [(.t 6)]), qq 3 (.alloc 53 2 [(.bool false), e0]), qn (.store 2 (.t 3) (.t 7))]) (.seq (.seq (.reg [qq 8 (.faddr 1 (.t 3)), qq 9 (.load false 1 (.t 8)), qq 10 (.bin .eql (.t 9) (.c e0))]) (.cond (.t 10) (.seq (.reg [qq 11 (.call 61 []), qn (.store 2 (.t 2) (.t 11))]) .ret) .skip)) (.seq (.reg [qq 12 (.load true 2 (.t 3)), qn (.store 2 (.t 2) (.t 12))]) .ret))))
theorem tr54 : trFun Tryz.prog 54 = some ⟨13, [.cell 2 true 2], c54⟩ := by kernel_rfl
theorem ok_r3below : SpecOK Tryz.prog 54 (flat spBelow) := by
  refine flat_run (env_cons ok_r2Norm (env_cons ok_r3one (env_nil _))) mixed tr54 ?_
  intro args v h N hG
  unfold spBelow at hG
  split at hG
  case h_2 => cases hG
  rename_i s n d
  split at hG
  case isFalse => cases hG
  rename_i hl
  cases hG
  refine ⟨rfl, by simp, ?_⟩
  have e0 : (sv false d).natAbs = nl d := sv_natAbs _ _
  by_cases h0 : nl d = 0
  · have e1 : dv d = 1 := by unfold dv; rw [if_pos h0]
    rw [e1]
    simp only [c54, G0, Nat.reduceAdd]
    simp only [↓R0, R1, simprocAttr, -Int.reduceAbs, spI2Norm, spOne, hl, iE, bl_eq_nil, e0, h0, Fin, isEnd, resL, res1]
    refine ⟨_, rfl, rfl, fun k hk => ?_⟩
    simp only [if_neg (show ¬ N + 2 = k by omega), if_neg (show ¬ N + 1 = k by omega), if_neg (show ¬ N + 0 = k by omega)]
  · have e1 : dv d = sv false d := by unfold dv; rw [if_neg h0]; rfl
    rw [e1]
    simp only [c54, G0, Nat.reduceAdd]
    simp only [↓R0, R1, simprocAttr, -Int.reduceAbs, spI2Norm, spOne, hl, iE, bl_eq_nil, e0, h0, Fin, isEnd, resL, res1]
    refine ⟨_, rfl, ?_, fun k hk => ?_⟩
    · simp only [one, e0]
    · simp only [if_neg (show ¬ N + 2 = k by omega), if_neg (show ¬ N + 1 = k by omega), if_neg (show ¬ N + 0 = k by omega)]
end Go.Eng
end
section
set_option linter.unusedVariables false
set_option linter.unusedSimpArgs false
set_option linter.unusedSectionVars false
set_option maxRecDepth 4000
namespace Go.Eng
open Go Go.Proofs Go.IntWalk
def spR3Make : List Value → Option Value
  | [.agg ⟨[.bool s, .string ⟨⟨l⟩⟩]⟩, .agg ⟨[.bool t, .string ⟨⟨m⟩⟩]⟩] => if l.length ≤ 68719476736 ∧ m.length ≤ 68719476736 then
      (if nl m = 0 then some (.tuple ⟨[.agg ⟨[.bool false, .string ⟨⟨[]⟩⟩, .string ⟨⟨[]⟩⟩]⟩, .bool false]⟩) else
        some (.tuple ⟨[.agg ⟨rE (Rat.divInt (sv s l) (sv t m))⟩, .bool true]⟩)) else none
  | _ => none
def c52 : ICode :=
  (.seq (.reg [qq 2 (.box 53 2 (.t 0)), qq 3 (.box 53 2 (.t 1)), qq 4 (.alloc 30 3 [(.bool false), e0, e0]), qq 5 (.mv (.c (.bool false)))]) (.seq (.dreg [qu 9 (.load true 2 (.t 2)), qu 10 (.call 70 [(.t 9)]), qv 11 [1] (.load true 2 (.t 3)), qu 12 (.call 70 [(.t 11)]), qm (.store 2 (.t 2) (.t 10)), qm (.store 2 (.t 3) (.t 12))]) (.seq (.seq (.reg [qq 13 (.faddr 1 (.t 3)), qq 14 (.load false 1 (.t 13)), qq 15 (.bin .eql (.t 14) (.c e0))]) (.cond (.t 15) (.seq (.reg [qq 16 (.build [(.bool false), e0, e0] []), qn (.store 3 (.t 4) (.t 16)), qq 5 (.mv (.c (.bool false)))]) .ret) .skip)) (.seq (.reg [qq 17 (.faddr 0 (.t 2)), qq 18 (.load false 1 (.t 17)), qq 19 (.faddr 0 (.t 3)), qq 20 (.load false 1 (.t 19)), qq 21 (.eqb true (.t 18) (.t 20)), qq 6 (.mv (.t 21))]) (.seq (.reg [qq 22 (.faddr 0 (.t 2)), qn (.store 1 (.t 22) (.c (.bool false))), qq 23 (.faddr 0 (.t 3)), qn (.store 1 (.t 23) (.c (.bool false)))]) (.seq (.reg [qq 24 (.load true 2 (.t 2)), qq 25 (.load true 2 (.t 3)), qq 26 (.bslice 53 2 2 [(.bool false), e0, (.bool false), e0] [(0, 2, (.t 24)), (2, 2, (.t 25))]), qq 27 (.call 71 [(.t 26)]), qq 7 (.alloc 53 2 [(.bool false), e0]), qn (.store 2 (.t 7) (.t 27))]) (.seq (.reg [qq 29 (.load true 2 (.t 2)), qq 30 (.load true 2 (.t 7)), qq 31 (.call 72 [(.t 29), (.t 30)]), qq 28 (.mv (.t 31)), qq 32 (.ext (.t 28) 0), qq 33 (.ext (.t 28) 1), qq 34 (.ext (.t 28) 2), qn (.store 2 (.t 2) (.t 32))]) (.seq (.reg [qq 36 (.load true 2 (.t 3)), qq 37 (.load true 2 (.t 7)), qq 38 (.call 72 [(.t 36), (.t 37)]), qq 35 (.mv (.t 38)), qq 39 (.ext (.t 35) 0), qq 40 (.ext (.t 35) 1), qq 41 (.ext (.t 35) 2), qn (.store 2 (.t 3) (.t 39))]) (.seq (.reg [qq 42 (.mv (.t 6)), qq 43 (.faddr 1 (.t 2)), qq 44 (.load false 1 (.t 43)), qq 45 (.faddr 1 (.t 3)), qq 46 (.load false 1 (.t 45)), qq 47 (.build [(.bool false), e0, e0] [(0, 1, (.t 42)), (1, 1, (.t 44)), (2, 1, (.t 46))]), qq 8 (.alloc 30 3 [(.bool false), e0, e0]), qn (.store 3 (.t 8) (.t 47))]) (.seq (.seq (.reg [qq 48 (.faddr 1 (.t 8)), qq 49 (.load false 1 (.t 48)), qq 50 (.bin .eql (.t 49) (.c e0))]) (.cond (.t 50) (.reg [qq 51 (.faddr 0 (.t 8)), qn (.store 1 (.t 51) (.c (.bool false)))]) .skip)) (.seq (.seq (.dreg [qu 52 (.load true 2 (.t 3)), qu 53 (.call 61 []), qu 54 (.eqa false [.b, .s] (.t 52) (.t 53))]) (.cond (.t 54) (.reg [qq 55 (.faddr 2 (.t 8)), qn (.store 1 (.t 55) (.c e0))]) .skip)) (.seq (.reg [qq 56 (.load true 3 (.t 8)), qn (.store 3 (.t 4) (.t 56)), qq 5 (.mv (.c (.bool true)))]) .ret))))))))))))
theorem tr52 : trFun Tryz.prog 52 = some ⟨57, [.cell 4 true 3, .t 5], c52⟩ := by kernel_rfl
theorem ok_r3Make : SpecOK Tryz.prog 52 (flat spR3Make) := by
  refine flat_run (env_cons ok_r2Norm (env_cons ok_r2Gcd (env_cons ok_r2Div (env_cons ok_r3one (env_nil _))))) mixed tr52 ?_
  intro args v h N hG
  unfold spR3Make at hG
  split at hG
  case h_2 => cases hG
  rename_i s l t m
  split at hG
  case isFalse => cases hG
  rename_i hl
  obtain ⟨hl, hm⟩ := hl
  have l2 : l.length ≤ 1099511627776 := by omega
  have m2 : m.length ≤ 1099511627776 := by omega
  have aN : (sv s l).natAbs = nl l := sv_natAbs _ _
  have aD : (sv t m).natAbs = nl m := sv_natAbs _ _
  split at hG
  · rename_i h0
    cases hG
    refine ⟨rfl, by simp, ?_⟩
    simp only [c52, G0, Nat.reduceAdd]
    simp only [↓R0, R1, simprocAttr, -Int.reduceAbs, spI2Norm, l2, m2, iE, bl_eq_nil, aD, h0, Fin, isEnd, resL, res1]
    refine ⟨_, rfl, rfl, fun k hk => ?_⟩
    simp only [if_neg (show ¬ N + 2 = k by omega), if_neg (show ¬ N + 1 = k by omega), if_neg (show ¬ N + 0 = k by omega)]
  rename_i h0
  cases hG
  refine ⟨rfl, by simp, ?_⟩
  have hD : sv t m ≠ 0 := fun e => h0 ((sv_eq_zero t m).1 e)
  obtain ⟨d1, d2, d3⟩ := divInt_cells (N := sv s l) hD
  rw [aN, aD] at d1 d2
  have lN : (bl (nl l)).length ≤ 68719476736 := Nat.le_trans (bl_length_nl l) hl
  have lD : (bl (nl m)).length ≤ 68719476736 := Nat.le_trans (bl_length_nl m) hm
  have hst : decide ((Rat.divInt (sv s l) (sv t m)).num < 0) = (decide (decide (sv s l < 0) ≠ decide (sv t m < 0)) && decide (nl l ≠ 0)) := by
    rw [Bool.eq_iff_iff]
    simp only [decide_eq_true_eq, Bool.and_eq_true, d3, ne_eq, sv_eq_zero]
  have hG0 : 0 < (nl l).gcd (nl m) := Nat.gcd_pos_of_pos_right _ (by omega)
  have lG : (bl ((nl l).gcd (nl m))).length ≤ 68719476736 := Nat.le_trans (bl_length_mono (Nat.gcd_le_right _ (by omega))) lD
  have hL0 : nl l / (nl l).gcd (nl m) = 0 ↔ nl l = 0 := by
    obtain ⟨k, hk⟩ := Nat.gcd_dvd_left (nl l) (nl m)
    generalize (nl l).gcd (nl m) = G at *
    constructor
    · intro e
      rw [hk, Nat.mul_div_cancel_left _ hG0] at e
      rw [hk, e]; simp
    · intro e; rw [e]; simp
  unfold rE
  rw [hst, d1, d2]
  clear hst d1 d2 d3
  generalize hGG : (nl l).gcd (nl m) = G at *
  have f1 : ¬ ((G : Int) < 0) := by omega
  have f2 : ¬ (G = 0) := by omega
  have f3 : sv false (bl (nl l)) = (nl l : Int) := by rw [sv_false, nl_bl]
  have f4 : sv false (bl (nl m)) = (nl m : Int) := by rw [sv_false, nl_bl]
  have f5 : sv false (bl G) = (G : Int) := by rw [sv_false, nl_bl]
  have f6 : (nl l : Int) / (G : Int) = ((nl l / G : Nat) : Int) := by simp
  have f7 : (nl m : Int) / (G : Int) = ((nl m / G : Nat) : Int) := by simp
  have f8 : ¬ (((nl l / G : Nat) : Int) < 0) := Int.not_lt.2 (Int.natCast_nonneg _)
  have f9 : ¬ (((nl m / G : Nat) : Int) < 0) := Int.not_lt.2 (Int.natCast_nonneg _)
  have f10 : (bl (nl m / G) = bl (Int.natAbs 1)) = (nl m / G = 1) := propext ⟨fun e => bl_inj e, fun e => by rw [e]; rfl⟩
  simp only [c52, G0, Nat.reduceAdd]
  simp only [↓R0, R1, simprocAttr, -Int.reduceAbs, spI2Norm, l2, m2, iE, bl_eq_nil, aN, aD, h0, rdS, spI2Gcd, ints, gcds, List.foldl_cons, List.foldl_nil, Nat.gcd_zero_left, nl_bl, List.forall_mem_cons, lN, lD, List.not_mem_nil, false_implies, implies_true, hGG, f1, f2, f3, f4, f5, f6, f7, f8, f9, lG, Int.natAbs_natCast, spI2Div, spOne, ceq, f10]
  have f11 : (bl 1 = bl (Int.natAbs 1)) = True := eq_true rfl
  have nb : ∀ k, k < N → ¬ N + 7 = k ∧ ¬ N + 6 = k ∧ ¬ N + 5 = k ∧ ¬ N + 4 = k ∧ ¬ N + 3 = k ∧ ¬ N + 2 = k ∧ ¬ N + 1 = k ∧ ¬ N + 0 = k := fun k hk => by omega
  by_cases c1 : nl l / G = 0
  · have c2 : nl l = 0 := hL0.1 c1
    by_cases c3 : nl m / G = 1
    · simp only [↓R0, R1, simprocAttr, -Int.reduceAbs, c1, c3, f11, spOne, iE, ceq, f10, Option.map_some, Bool.true_and, Bool.and_true, Fin, isEnd, resL, res1]
      refine ⟨_, rfl, ?_, fun k hk => ?_⟩
      · simp [one, c2, c3]
      · simp only [nb k hk, if_false]
    · simp only [↓R0, R1, simprocAttr, -Int.reduceAbs, c1, c3, f11, spOne, iE, ceq, f10, Option.map_some, Bool.true_and, Bool.and_true, Fin, isEnd, resL, res1]
      refine ⟨_, rfl, ?_, fun k hk => ?_⟩
      · simp [one, c2, c3]
      · simp only [nb k hk, if_false]
  · have c2 : ¬ nl l = 0 := fun e => c1 (hL0.2 e)
    by_cases c3 : nl m / G = 1
    · simp only [↓R0, R1, simprocAttr, -Int.reduceAbs, c1, c3, f11, spOne, iE, ceq, f10, Option.map_some, Bool.true_and, Bool.and_true, Fin, isEnd, resL, res1]
      refine ⟨_, rfl, ?_, fun k hk => ?_⟩
      · simp [one, c2, c3]
      · simp only [nb k hk, if_false]
    · simp only [↓R0, R1, simprocAttr, -Int.reduceAbs, c1, c3, f11, spOne, iE, ceq, f10, Option.map_some, Bool.true_and, Bool.and_true, Fin, isEnd, resL, res1]
      refine ⟨_, rfl, ?_, fun k hk => ?_⟩
      · simp [one, c2, c3]
      · simp only [nb k hk, if_false]
end Go.Eng
end
section
set_option linter.unusedVariables false
set_option linter.unusedSimpArgs false
set_option linter.unusedSectionVars false
set_option maxRecDepth 4000
namespace Go.Eng
open Go Go.Proofs Go.IntWalk
theorem bl_dv (d : List UInt8) : (bl (dv d).natAbs).length ≤ d.length + 1 := by
  unfold dv
  split
  · exact Nat.le_trans (bl_length_le (k := 1).2 (by decide)) (by omega)
  · exact Nat.le_trans (bl_length_nl d) (by omega)
theorem dv_nl (d : List UInt8) : ¬ (dv d).natAbs = 0 := by have := dv_pos d; omega
end Go.Eng
end
section
set_option linter.unusedVariables false
set_option linter.unusedSimpArgs false
set_option linter.unusedSectionVars false
set_option maxRecDepth 4000
namespace Go.Eng
open Go Go.Proofs Go.IntWalk
def spR3Neg : List Value → Option Value
  | [.agg ⟨[.bool s, .string ⟨⟨n⟩⟩, .string ⟨⟨d⟩⟩]⟩] => if n.length ≤ 34359738368 ∧ d.length ≤ 34359738368 then some (.agg ⟨rE (- rv s n d)⟩) else none
  | _ => none
def c64 : ICode :=
  (.seq (.reg [qq 1 (.box 30 3 (.t 0)), qq 2 (.alloc 30 3 [(.bool false), e0, e0])]) (.seq (.dreg [qu 6 (.load true 3 (.t 1)), qu 7 (.call 53 [(.t 6)]), qu 8 (.call 86 [(.t 7)]), qv 9 [1, 2] (.load true 3 (.t 1)), qu 10 (.call 54 [(.t 9)]), qu 11 (.call 52 [(.t 8), (.t 10)]), qu 5 (.mv (.t 11)), qu 12 (.ext (.t 5) 0), qu 13 (.ext (.t 5) 1), qu 3 (.alloc 30 3 [(.bool false), e0, e0]), qm (.store 3 (.t 3) (.t 12)), qu 4 (.mv (.t 13))]) (.seq (.reg [qq 14 (.load true 3 (.t 3)), qn (.store 3 (.t 2) (.t 14))]) .ret)))
theorem tr64 : trFun Tryz.prog 64 = some ⟨15, [.cell 2 true 3], c64⟩ := by kernel_rfl
theorem ok_r3Neg : SpecOK Tryz.prog 64 (flat spR3Neg) := by
  refine flat_run (env_cons ok_r3above (env_cons ok_r3below (env_cons ok_r3Make (env_cons ok_r2Neg (env_nil _))))) mixed tr64 ?_
  intro args v h N hG
  unfold spR3Neg at hG
  split at hG
  case h_2 => cases hG
  rename_i s n d
  split at hG
  case isFalse => cases hG
  rename_i hl
  cases hG
  refine ⟨rfl, by simp, ?_⟩
  have n2 : n.length ≤ 1099511627776 := by omega
  have d2 : d.length ≤ 1099511627776 := by omega
  have n3 : (bl (sv s n).natAbs).length ≤ 1099511627776 := by rw [sv_natAbs]; exact Nat.le_trans (bl_length_nl n) (by omega)
  have n4 : (bl (-sv s n).natAbs).length ≤ 68719476736 := by rw [Int.natAbs_neg, sv_natAbs]; exact Nat.le_trans (bl_length_nl n) (by omega)
  have d3 : (bl (dv d).natAbs).length ≤ 68719476736 := Nat.le_trans (bl_dv d) (by omega)
  have d4 := dv_nl d
  unfold rv
  rw [Rat.neg_divInt]
  simp only [c64, G0, Nat.reduceAdd]
  simp only [↓R0, R1, simprocAttr, -Int.reduceAbs, spAbove, spBelow, spR3Make, spI2Neg, n2, d2, n3, n4, d3, d4, nl_bl, Fin, isEnd, resL, res1, iE, rE]
  exact ⟨_, rfl, rfl, fun k hk => by simp only [ne_nb hk, if_false]⟩
theorem len_mul {a b : Int} {j k : Nat} (ha : (bl a.natAbs).length ≤ j) (hb : (bl b.natAbs).length ≤ k) : (bl (a * b).natAbs).length ≤ j + k := by
  rw [Int.natAbs_mul]; exact Nat.le_trans (bl_length_mul _ _) (by omega)
theorem len_add {a b : Int} {k : Nat} (ha : (bl a.natAbs).length ≤ k) (hb : (bl b.natAbs).length ≤ k) : (bl (a + b).natAbs).length ≤ k + 1 :=
  Nat.le_trans (bl_length_mono (Int.natAbs_add_le a b)) (bl_length_add ha hb)
theorem len_sv {s : Bool} {n : List UInt8} {k : Nat} (h : n.length ≤ k) : (bl (sv s n).natAbs).length ≤ k := by rw [sv_natAbs]; exact Nat.le_trans (bl_length_nl n) h
theorem len_dv {d : List UInt8} {k : Nat} (h : d.length + 1 ≤ k) : (bl (dv d).natAbs).length ≤ k := Nat.le_trans (bl_dv d) h
def spR3Mul : List Value → Option Value
  | [.agg ⟨[.bool s, .string ⟨⟨n⟩⟩, .string ⟨⟨d⟩⟩]⟩, .agg ⟨[.bool t, .string ⟨⟨m⟩⟩, .string ⟨⟨e⟩⟩]⟩] => if n.length ≤ 8589934592 ∧ d.length ≤ 8589934592 ∧ m.length ≤ 8589934592 ∧ e.length ≤ 8589934592 then some (.agg ⟨rE (rv s n d * rv t m e)⟩) else none
  | _ => none
def c37 : ICode :=
  (.seq (.reg [qq 2 (.box 30 3 (.t 0)), qq 3 (.box 30 3 (.t 1)), qq 4 (.alloc 30 3 [(.bool false), e0, e0])]) (.seq (.dreg [qu 8 (.load true 3 (.t 2)), qu 9 (.call 53 [(.t 8)]), qv 10 [1] (.load true 3 (.t 3)), qu 11 (.call 53 [(.t 10)]), qu 12 (.call 63 [(.t 9), (.t 11)]), qv 13 [1, 3, 4] (.load true 3 (.t 2)), qu 14 (.call 54 [(.t 13)]), qv 15 [1, 3, 4, 6] (.load true 3 (.t 3)), qu 16 (.call 54 [(.t 15)]), qu 17 (.call 63 [(.t 14), (.t 16)]), qu 18 (.call 52 [(.t 12), (.t 17)]), qu 7 (.mv (.t 18)), qu 19 (.ext (.t 7) 0), qu 20 (.ext (.t 7) 1), qu 5 (.alloc 30 3 [(.bool false), e0, e0]), qm (.store 3 (.t 5) (.t 19)), qu 6 (.mv (.t 20))]) (.seq (.reg [qq 21 (.load true 3 (.t 5)), qn (.store 3 (.t 4) (.t 21))]) .ret)))
theorem tr37 : trFun Tryz.prog 37 = some ⟨22, [.cell 4 true 3], c37⟩ := by kernel_rfl
theorem ok_r3Mul : SpecOK Tryz.prog 37 (flat spR3Mul) := by
  refine flat_run (env_cons ok_r3above (env_cons ok_r3below (env_cons ok_r3Make (env_cons ok_r2Mul (env_nil _))))) mixed tr37 ?_
  intro args v h N hG
  unfold spR3Mul at hG
  split at hG
  case h_2 => cases hG
  rename_i s n d t m e
  split at hG
  case isFalse => cases hG
  rename_i hl
  obtain ⟨h1, h2, h3, h4⟩ := hl
  cases hG
  refine ⟨rfl, by simp, ?_⟩
  have n2 : n.length ≤ 1099511627776 := by omega
  have d2 : d.length ≤ 1099511627776 := by omega
  have m2 : m.length ≤ 1099511627776 := by omega
  have e2 : e.length ≤ 1099511627776 := by omega
  have n3 := len_sv (s := s) h1
  have m3 := len_sv (s := t) h3
  have d3 : (bl (dv d).natAbs).length ≤ 8589934593 := len_dv (by omega)
  have e3 : (bl (dv e).natAbs).length ≤ 8589934593 := len_dv (by omega)
  have p1 : (bl (sv s n).natAbs).length + (bl (sv t m).natAbs).length ≤ 274877906944 := by omega
  have p2 : (bl (dv d).natAbs).length + (bl (dv e).natAbs).length ≤ 274877906944 := by omega
  have q1 : (bl (sv s n * sv t m).natAbs).length ≤ 68719476736 := Nat.le_trans (len_mul n3 m3) (by omega)
  have q2 : (bl (dv d * dv e).natAbs).length ≤ 68719476736 := Nat.le_trans (len_mul d3 e3) (by omega)
  have q3 : ¬ (dv d * dv e).natAbs = 0 := by have := Int.mul_pos (dv_pos d) (dv_pos e); omega
  unfold rv
  rw [Rat.divInt_mul_divInt]
  simp only [c37, G0, Nat.reduceAdd]
  simp only [↓R0, R1, simprocAttr, -Int.reduceAbs, spAbove, spBelow, spR3Make, spI2Mul, n2, d2, m2, e2, p1, p2, q1, q2, q3, nl_bl, Fin, isEnd, resL, res1, iE, rE]
  exact ⟨_, rfl, rfl, fun k hk => by simp only [ne_nb hk, if_false]⟩
end Go.Eng
end
section
set_option linter.unusedVariables false
set_option linter.unusedSimpArgs false
set_option linter.unusedSectionVars false
set_option maxRecDepth 4000
namespace Go.Eng
open Go Go.Proofs Go.IntWalk
def spR3Add : List Value → Option Value
  | [.agg ⟨[.bool s, .string ⟨⟨n⟩⟩, .string ⟨⟨d⟩⟩]⟩, .agg ⟨[.bool t, .string ⟨⟨m⟩⟩, .string ⟨⟨e⟩⟩]⟩] => if n.length ≤ 8589934592 ∧ d.length ≤ 8589934592 ∧ m.length ≤ 8589934592 ∧ e.length ≤ 8589934592 then some (.agg ⟨rE (rv s n d + rv t m e)⟩) else none
  | _ => none
def c35 : ICode :=
  (.seq (.reg [qq 2 (.box 30 3 (.t 0)), qq 3 (.box 30 3 (.t 1)), qq 4 (.alloc 30 3 [(.bool false), e0, e0])]) (.seq (.dreg [qu 8 (.load true 3 (.t 2)), qu 9 (.call 53 [(.t 8)]), qv 10 [1] (.load true 3 (.t 3)), qu 11 (.call 54 [(.t 10)]), qu 12 (.call 63 [(.t 9), (.t 11)]), qv 13 [1, 3, 4] (.load true 3 (.t 3)), qu 14 (.call 53 [(.t 13)]), qv 15 [1, 3, 4, 6] (.load true 3 (.t 2)), qu 16 (.call 54 [(.t 15)]), qu 17 (.call 63 [(.t 14), (.t 16)]), qu 18 (.call 62 [(.t 12), (.t 17)]), qv 19 [1, 3, 4, 6, 8, 9, 10] (.load true 3 (.t 2)), qu 20 (.call 54 [(.t 19)]), qv 21 [1, 3, 4, 6, 8, 9, 10, 12] (.load true 3 (.t 3)), qu 22 (.call 54 [(.t 21)]), qu 23 (.call 63 [(.t 20), (.t 22)]), qu 24 (.call 52 [(.t 18), (.t 23)]), qu 7 (.mv (.t 24)), qu 25 (.ext (.t 7) 0), qu 26 (.ext (.t 7) 1), qu 5 (.alloc 30 3 [(.bool false), e0, e0]), qm (.store 3 (.t 5) (.t 25)), qu 6 (.mv (.t 26))]) (.seq (.reg [qq 27 (.load true 3 (.t 5)), qn (.store 3 (.t 4) (.t 27))]) .ret)))
theorem tr35 : trFun Tryz.prog 35 = some ⟨28, [.cell 4 true 3], c35⟩ := by kernel_rfl
theorem ok_r3Add : SpecOK Tryz.prog 35 (flat spR3Add) := by
  refine flat_run (env_cons ok_r3above (env_cons ok_r3below (env_cons ok_r3Make (env_cons ok_r2Mul (env_cons ok_r2Add (env_nil _)))))) mixed tr35 ?_
  intro args v h N hG
  unfold spR3Add at hG
  split at hG
  case h_2 => cases hG
  rename_i s n d t m e
  split at hG
  case isFalse => cases hG
  rename_i hl
  obtain ⟨h1, h2, h3, h4⟩ := hl
  cases hG
  refine ⟨rfl, by simp, ?_⟩
  have n2 : n.length ≤ 1099511627776 := by omega
  have d2 : d.length ≤ 1099511627776 := by omega
  have m2 : m.length ≤ 1099511627776 := by omega
  have e2 : e.length ≤ 1099511627776 := by omega
  have n3 := len_sv (s := s) h1
  have m3 := len_sv (s := t) h3
  have d3 : (bl (dv d).natAbs).length ≤ 8589934593 := len_dv (by omega)
  have e3 : (bl (dv e).natAbs).length ≤ 8589934593 := len_dv (by omega)
  have p1 : (bl (sv s n).natAbs).length + (bl (dv e).natAbs).length ≤ 274877906944 := by omega
  have p2 : (bl (sv t m).natAbs).length + (bl (dv d).natAbs).length ≤ 274877906944 := by omega
  have p3 : (bl (dv d).natAbs).length + (bl (dv e).natAbs).length ≤ 274877906944 := by omega
  have q1 := len_mul n3 e3
  have q2 := len_mul m3 d3
  have q3 : (bl (dv d * dv e).natAbs).length ≤ 68719476736 := Nat.le_trans (len_mul d3 e3) (by omega)
  have q4 : ¬ (dv d * dv e).natAbs = 0 := by have := Int.mul_pos (dv_pos d) (dv_pos e); omega
  have q5 : (bl (sv s n * dv e + sv t m * dv d).natAbs).length ≤ 68719476736 := Nat.le_trans (len_add q1 q2) (by omega)
  have q6 : (bl (sv s n * dv e).natAbs).length ≤ 549755813888 := Nat.le_trans q1 (by omega)
  have q7 : (bl (sv t m * dv d).natAbs).length ≤ 549755813888 := Nat.le_trans q2 (by omega)
  unfold rv
  rw [Rat.divInt_add_divInt _ _ (by have := dv_pos d; omega) (by have := dv_pos e; omega)]
  simp only [c35, G0, Nat.reduceAdd]
  simp only [↓R0, R1, simprocAttr, -Int.reduceAbs, spAbove, spBelow, spR3Make, spI2Mul, spI2Add, n2, d2, m2, e2, p1, p2, p3, q3, q4, q5, q6, q7, nl_bl, Fin, isEnd, resL, res1, iE, rE]
  exact ⟨_, rfl, rfl, fun k hk => by simp only [ne_nb hk, if_false]⟩
end Go.Eng
end
section
set_option linter.unusedVariables false
set_option linter.unusedSimpArgs false
set_option linter.unusedSectionVars false
set_option maxRecDepth 4000
namespace Go.Eng
open Go Go.Proofs Go.IntWalk
theorem len_rneg (q : Rat) : (-q).num.natAbs = q.num.natAbs ∧ (-q).den = q.den := by
  constructor
  · rw [Rat.neg_num]; simp
  · rw [Rat.neg_den]
theorem len_den (q : Rat) {k : Nat} (h : (bl q.den).length ≤ k) : (if q.den = 1 then ([] : List UInt8) else bl q.den).length ≤ k := by
  split
  · simp
  · exact h
theorem divInt_le {N D : Int} (hD : 0 < D) : (Rat.divInt N D).num.natAbs ≤ N.natAbs ∧ (Rat.divInt N D).den ≤ D.natAbs := by
  obtain ⟨h1, h2, _⟩ := divInt_cells (N := N) (D := D) (by omega)
  rw [h1, h2]
  exact ⟨Nat.div_le_self _ _, Nat.div_le_self _ _⟩
def spR3Sub : List Value → Option Value
  | [.agg ⟨[.bool s, .string ⟨⟨n⟩⟩, .string ⟨⟨d⟩⟩]⟩, .agg ⟨[.bool t, .string ⟨⟨m⟩⟩, .string ⟨⟨e⟩⟩]⟩] => if n.length ≤ 8589934592 ∧ d.length ≤ 8589934592 ∧ m.length ≤ 8589934592 ∧ e.length + 1 ≤ 8589934592 then some (.agg ⟨rE (rv s n d - rv t m e)⟩) else none
  | _ => none
def c36 : ICode :=
  (.seq (.reg [qq 2 (.box 30 3 (.t 0)), qq 3 (.box 30 3 (.t 1)), qq 4 (.alloc 30 3 [(.bool false), e0, e0])]) (.seq (.dreg [qu 5 (.load true 3 (.t 2)), qu 6 (.load true 3 (.t 3)), qu 7 (.call 64 [(.t 6)]), qu 8 (.call 35 [(.t 5), (.t 7)]), qm (.store 3 (.t 4) (.t 8))]) .ret))
theorem tr36 : trFun Tryz.prog 36 = some ⟨9, [.cell 4 true 3], c36⟩ := by kernel_rfl
theorem ok_r3Sub : SpecOK Tryz.prog 36 (flat spR3Sub) := by
  refine flat_run (env_cons ok_r3Neg (env_cons ok_r3Add (env_nil _))) mixed tr36 ?_
  intro args v h N hG
  unfold spR3Sub at hG
  split at hG
  case h_2 => cases hG
  rename_i s n d t m e
  split at hG
  case isFalse => cases hG
  rename_i hl
  obtain ⟨h1, h2, h3, h4⟩ := hl
  cases hG
  refine ⟨rfl, by simp, ?_⟩
  obtain ⟨g1, g2⟩ := divInt_le (N := sv t m) (dv_pos e)
  have m2 : m.length ≤ 34359738368 := by omega
  have e2 : e.length ≤ 34359738368 := by omega
  have m3 : (bl (-rv t m e).num.natAbs).length ≤ 8589934592 := by
    rw [(len_rneg _).1]; exact Nat.le_trans (bl_length_mono g1) (len_sv h3)
  have e3 : (if (-rv t m e).den = 1 then ([] : List UInt8) else bl (-rv t m e).den).length ≤ 8589934592 := by
    refine len_den _ ?_
    rw [(len_rneg _).2]; exact Nat.le_trans (bl_length_mono g2) (Nat.le_trans (bl_dv e) h4)
  rw [Rat.sub_eq_add_neg]
  simp only [c36, G0, Nat.reduceAdd]
  simp only [↓R0, R1, simprocAttr, -Int.reduceAbs, spR3Neg, spR3Add, h1, h2, m2, e2, m3, e3, rv_can, Fin, isEnd, resL, res1, iE, rE]
  exact ⟨_, rfl, rfl, fun k hk => by simp only [ne_nb hk, if_false]⟩
end Go.Eng
end
section
set_option linter.unusedVariables false
set_option linter.unusedSimpArgs false
set_option linter.unusedSectionVars false
set_option maxRecDepth 4000
namespace Go.Eng
open Go Go.Proofs Go.IntWalk
end Go.Eng
end
section
set_option linter.unusedVariables false
set_option linter.unusedSimpArgs false
set_option linter.unusedSectionVars false
set_option maxRecDepth 4000
namespace Go.Eng
open Go Go.Proofs Go.IntWalk
def spIof : List Value → Option Value
  | [.bool s, .string ⟨⟨l⟩⟩] => if bl (nl l) = l then some (.agg ⟨iE (sv s l)⟩) else none
  | _ => none
def c68 : ICode :=
  (.seq (.reg [qq 4 (.alloc 53 2 [(.bool false), e0])]) (.seq (.reg [qq 5 (.mv (.t 0)), qq 6 (.mv (.t 5)), ⟨(some 7), (some (6, true)), (.mv (.t 1))⟩, ⟨(some 8), (some (6, true)), (.bin .neq (.t 7) (.c e0))⟩, qq 9 (.pick (.t 6) (.t 8) (.c (.bool false))), qq 10 (.mv (.t 1)), qq 11 (.build [(.bool false), e0] [(0, 1, (.t 9)), (1, 1, (.t 10))]), qn (.store 2 (.t 4) (.t 11))]) .ret))
theorem tr68 : trFun Tryz.prog 68 = some ⟨12, [.cell 4 true 2], c68⟩ := by kernel_rfl
theorem ok_iof : SpecOK Tryz.prog 68 (flat spIof) := by
  refine flat_run (env_nil _) mixed tr68 ?_
  intro args v h N hG
  unfold spIof at hG
  split at hG
  case h_2 => cases hG
  rename_i s l
  split at hG
  case isFalse => cases hG
  rename_i hl
  cases hG
  refine ⟨rfl, by simp, ?_⟩
  rw [iE_sv, hl]
  simp only [c68, G0, Nat.reduceAdd]
  cases s
  · simp only [↓R0, R1, simprocAttr, -Int.reduceAbs, Bool.false_and, Fin, isEnd, resL, res1, iE, rE]
    exact ⟨_, rfl, rfl, fun k hk => by simp only [ne_nb hk, if_false]⟩
  · simp only [↓R0, R1, simprocAttr, -Int.reduceAbs, Bool.true_and, Fin, isEnd, resL, res1, iE, rE]
    exact ⟨_, rfl, rfl, fun k hk => by simp only [ne_nb hk, if_false]⟩
def spINorm : List Value → Option Value
  | [.agg ⟨[.bool s, .string ⟨⟨l⟩⟩]⟩] => if l.length ≤ 1099511627776 then some (.agg ⟨iE (sv s l)⟩) else none
  | _ => none
def c67 : ICode :=
  (.seq (.reg [qq 1 (.box 53 2 (.t 0)), qq 2 (.alloc 53 2 [(.bool false), e0])]) (.seq (.dreg [qu 3 (.faddr 0 (.t 1)), qu 4 (.load false 1 (.t 3)), qu 5 (.faddr 1 (.t 1)), qu 6 (.load false 1 (.t 5)), qu 7 (.call 66 [(.t 6)]), qu 8 (.call 68 [(.t 4), (.t 7)]), qm (.store 2 (.t 2) (.t 8))]) .ret))
theorem tr67 : trFun Tryz.prog 67 = some ⟨9, [.cell 2 true 2], c67⟩ := by kernel_rfl
theorem sv_nl (s : Bool) (l : List UInt8) : sv s (bl (nl l)) = sv s l := by cases s <;> simp [sv, nl_bl]
theorem ok_iNorm : SpecOK Tryz.prog 67 (flat spINorm) := by
  refine flat_run (env_cons ok_iof (env_cons ok_nNorm (env_nil _))) mixed tr67 ?_
  intro args v h N hG
  unfold spINorm at hG
  split at hG
  case h_2 => cases hG
  rename_i s l
  split at hG
  case isFalse => cases hG
  rename_i hl
  cases hG
  refine ⟨rfl, by simp, ?_⟩
  simp only [c67, G0, Nat.reduceAdd]
  simp only [↓R0, R1, simprocAttr, -Int.reduceAbs, spNNorm, spIof, hl, nl_bl, sv_nl, Fin, isEnd, resL, res1, iE, rE]
  exact ⟨_, rfl, rfl, fun k hk => by simp only [ne_nb hk, if_false]⟩
def spISign : List Value → Option Value
  | [.agg ⟨[.bool s, .string ⟨⟨l⟩⟩]⟩] => if l.length ≤ 1099511627776 then some (.int .i64 (sv s l).sign) else none
  | _ => none
def c45 : ICode :=
  (.seq (.reg [qq 1 (.box 53 2 (.t 0)), qq 2 (.mv (ci 0))]) (.seq (.seq (.reg [qq 3 (.load true 2 (.t 1)), qq 4 (.call 67 [(.t 3)]), qn (.store 2 (.t 1) (.t 4))]) (.block 0 (.seq (.reg [qq 6 (.faddr 0 (.t 1)), qq 7 (.load false 1 (.t 6)), qq 5 (.mv (.t 7))]) (.cond (.t 5) (.seq (.reg [qq 2 (.mv (ci (-1)))]) .ret) (.seq (.reg [qq 9 (.faddr 1 (.t 1)), qq 10 (.load false 1 (.t 9)), qq 11 (.bin .neq (.t 10) (.c e0)), qq 8 (.mv (.t 11))]) (.cond (.t 8) (.seq (.reg [qq 2 (.mv (ci 1))]) .ret) .skip)))))) (.seq (.reg [qq 2 (.mv (ci 0))]) .ret)))
theorem tr45 : trFun Tryz.prog 45 = some ⟨12, [.t 2], c45⟩ := by kernel_rfl
theorem ok_iSign : SpecOK Tryz.prog 45 (flat spISign) := by
  refine flat_run (env_cons ok_iNorm (env_nil _)) mixed tr45 ?_
  intro args v h N hG
  unfold spISign at hG
  split at hG
  case h_2 => cases hG
  rename_i s l
  split at hG
  case isFalse => cases hG
  rename_i hl
  cases hG
  refine ⟨rfl, by simp, ?_⟩
  simp only [c45, G0, Nat.reduceAdd]
  simp only [↓R0, R1, simprocAttr, -Int.reduceAbs, spINorm, hl, iE]
  generalize sv s l = z
  rcases Int.lt_trichotomy z 0 with hz | hz | hz
  · rw [Int.sign_eq_neg_one_of_neg hz]
    simp only [↓R0, R1, simprocAttr, -Int.reduceAbs, hz, Fin, isEnd, resL, res1, iE, rE]
    exact ⟨_, rfl, rfl, fun k hk => by simp only [ne_nb hk, if_false]⟩
  · subst hz
    have z0 : bl (Int.natAbs 0) = [] := bl_zero
    simp only [↓R0, R1, simprocAttr, -Int.reduceAbs, z0, Int.lt_irrefl, Int.sign_zero, Fin, isEnd, resL, res1, iE, rE]
    exact ⟨_, rfl, rfl, fun k hk => by simp only [ne_nb hk, if_false]⟩
  · rw [Int.sign_eq_one_of_pos hz]
    have z1 : ¬ (z < 0) := by omega
    have z2 : ¬ (bl z.natAbs = []) := fun e => by have := bl_eq_nil.1 e; omega
    simp only [↓R0, R1, simprocAttr, -Int.reduceAbs, z1, z2, Fin, isEnd, resL, res1, iE, rE]
    exact ⟨_, rfl, rfl, fun k hk => by simp only [ne_nb hk, if_false]⟩
def spINeg : List Value → Option Value
  | [.agg ⟨[.bool s, .string ⟨⟨l⟩⟩]⟩] => if l.length ≤ 1099511627776 then some (.agg ⟨iE (- sv s l)⟩) else none
  | _ => none
def c77 : ICode :=
  (.seq (.reg [qq 1 (.box 53 2 (.t 0)), qq 2 (.alloc 53 2 [(.bool false), e0])]) (.seq (.reg [qq 3 (.load true 2 (.t 1)), qq 4 (.call 67 [(.t 3)]), qn (.store 2 (.t 1) (.t 4))]) (.seq (.reg [qq 5 (.faddr 0 (.t 1)), qq 6 (.load false 1 (.t 5)), qq 7 (.un .not (.t 6)), qq 8 (.faddr 1 (.t 1)), qq 9 (.load false 1 (.t 8)), qq 10 (.call 68 [(.t 7), (.t 9)]), qn (.store 2 (.t 2) (.t 10))]) .ret)))
theorem tr77 : trFun Tryz.prog 77 = some ⟨11, [.cell 2 true 2], c77⟩ := by kernel_rfl
theorem ok_iNeg : SpecOK Tryz.prog 77 (flat spINeg) := by
  refine flat_run (env_cons ok_iof (env_cons ok_iNorm (env_nil _))) mixed tr77 ?_
  intro args v h N hG
  unfold spINeg at hG
  split at hG
  case h_2 => cases hG
  rename_i s l
  split at hG
  case isFalse => cases hG
  rename_i hl
  cases hG
  refine ⟨rfl, by simp, ?_⟩
  have hz : sv (!decide (sv s l < 0)) (bl (sv s l).natAbs) = - sv s l := by rw [sv_neg, sv_can]
  simp only [c77, G0, Nat.reduceAdd]
  simp only [↓R0, R1, simprocAttr, -Int.reduceAbs, spINorm, spIof, hl, nl_bl, hz, Fin, isEnd, resL, res1, iE, rE]
  exact ⟨_, rfl, rfl, fun k hk => by simp only [ne_nb hk, if_false]⟩
def spIFrom : List Value → Option Value
  | [.int .i64 n] => if -9223372036854775808 ≤ n ∧ n ≤ 9223372036854775807 then some (.agg ⟨iE n⟩) else none
  | _ => none
def c47 : ICode :=
  (.seq (.reg [qq 2 (.alloc 53 2 [(.bool false), e0])]) (.seq (.seq (.reg [qq 3 (.mv (.t 0)), qq 4 (.bin .lss (.t 3) (ci 0))]) (.cond (.t 4) (.seq (.reg [qq 5 (.mv (.t 0)), qq 6 (.bin .add (.t 5) (ci 1)), qq 7 (.un .neg (.t 6)), qq 8 (.conv .u64 (.t 7)), qq 9 (.bin .add (.t 8) (.c (.int .u64 1))), qq 10 (.call 69 [(.t 9)]), qq 11 (.call 68 [(.c (.bool true)), (.t 10)]), qn (.store 2 (.t 2) (.t 11))]) .ret) .skip)) (.seq (.reg [qq 12 (.mv (.t 0)), qq 13 (.conv .u64 (.t 12)), qq 14 (.call 69 [(.t 13)]), qq 15 (.call 68 [(.c (.bool false)), (.t 14)]), qn (.store 2 (.t 2) (.t 15))]) .ret)))
theorem tr47 : trFun Tryz.prog 47 = some ⟨16, [.cell 2 true 2], c47⟩ := by kernel_rfl
theorem ok_iFrom : SpecOK Tryz.prog 47 (flat spIFrom) := by
  refine flat_run (env_cons ok_iof (env_cons ok_nFU64 (env_nil _))) mixed tr47 ?_
  intro args v h N hG
  unfold spIFrom at hG
  split at hG
  case h_2 => cases hG
  rename_i n
  split at hG
  case isFalse => cases hG
  rename_i hl
  cases hG
  refine ⟨rfl, by simp, ?_⟩
  simp only [c47, G0, Nat.reduceAdd]
  simp only [↓R0, R1, simprocAttr, -Int.reduceAbs]
  refine cd_case (fun hb => ?_) (fun hb => ?_)
  · have hn : n < 0 := by simpa using hb
    have hz : sv true (bl n.natAbs) = n := by rw [sv_true, nl_bl]; omega
    have e1 : IntKind.i64.wrap (n + 1) = n + 1 := by rw [i64_in _ (by omega)]
    have e2 : IntKind.i64.wrap (0 - (n + 1)) = (n.natAbs : Int) - 1 := by rw [i64_in _ (by omega)]; omega
    have e3 : IntKind.u64.wrap ((n.natAbs : Int) - 1) = (n.natAbs : Int) - 1 := by rw [u64_in _ (by omega)]
    have e4 : IntKind.u64.wrap ((n.natAbs : Int) - 1 + 1) = (n.natAbs : Int) := by rw [u64_in _ (by omega)]; omega
    have e5 : (n.natAbs : Int) < 18446744073709551616 := by omega
    simp only [↓R0, R1, simprocAttr, -Int.reduceAbs, e1, e2, e3, e4, e5, spFU64, spIof, nl_bl, hz, Fin, isEnd, resL, res1, iE, rE]
    exact ⟨_, rfl, rfl, fun k hk => by simp only [ne_nb hk, if_false]⟩
  · have hn : 0 ≤ n := by simpa using hb
    have hz : sv false (bl n.natAbs) = n := by rw [sv_false, nl_bl]; omega
    have e3 : IntKind.u64.wrap n = (n.natAbs : Int) := by rw [u64_in _ (by omega)]; omega
    have e5 : (n.natAbs : Int) < 18446744073709551616 := by omega
    simp only [↓R0, R1, simprocAttr, -Int.reduceAbs, e3, e5, spFU64, spIof, nl_bl, hz, Fin, isEnd, resL, res1, iE, rE]
    exact ⟨_, rfl, rfl, fun k hk => by simp only [ne_nb hk, if_false]⟩
def spIAdd : List Value → Option Value
  | [.agg ⟨[.bool s, .string ⟨⟨l⟩⟩]⟩, .agg ⟨[.bool t, .string ⟨⟨m⟩⟩]⟩] => if l.length ≤ 68719476736 ∧ m.length ≤ 68719476736 then some (.agg ⟨iE (sv s l + sv t m)⟩) else none
  | _ => none
def c56 : ICode :=
  (.seq (.reg [qq 2 (.box 53 2 (.t 0)), qq 3 (.box 53 2 (.t 1)), qq 4 (.alloc 53 2 [(.bool false), e0])]) (.seq (.dreg [qu 9 (.load true 2 (.t 2)), qu 10 (.call 67 [(.t 9)]), qv 11 [1] (.load true 2 (.t 3)), qu 12 (.call 67 [(.t 11)]), qm (.store 2 (.t 2) (.t 10)), qm (.store 2 (.t 3) (.t 12))]) (.seq (.seq (.reg [qq 13 (.faddr 0 (.t 2)), qq 14 (.load false 1 (.t 13)), qq 15 (.faddr 0 (.t 3)), qq 16 (.load false 1 (.t 15)), qq 17 (.eqb false (.t 14) (.t 16))]) (.cond (.t 17) (.seq (.dreg [qu 18 (.faddr 0 (.t 2)), qu 19 (.load false 1 (.t 18)), qu 20 (.faddr 1 (.t 2)), qu 21 (.load false 1 (.t 20)), qu 22 (.faddr 1 (.t 3)), qu 23 (.load false 1 (.t 22)), qu 24 (.call 74 [(.t 21), (.t 23)]), qu 25 (.call 68 [(.t 19), (.t 24)]), qm (.store 2 (.t 4) (.t 25))]) .ret) .skip)) (.seq (.seq (.reg [qq 27 (.faddr 1 (.t 2)), qq 28 (.load false 1 (.t 27)), qq 29 (.faddr 1 (.t 3)), qq 30 (.load false 1 (.t 29)), qq 31 (.call 75 [(.t 28), (.t 30)]), qq 26 (.mv (.t 31)), qq 32 (.ext (.t 26) 0), qq 33 (.ext (.t 26) 1), qq 5 (.mv (.t 32)), qq 6 (.mv (.t 33))]) (.seq (.reg [qq 34 (.mv (.t 6))]) (.cond (.t 34) (.seq (.reg [qq 35 (.faddr 0 (.t 2)), qq 36 (.load false 1 (.t 35)), qq 37 (.mv (.t 5)), qq 38 (.call 68 [(.t 36), (.t 37)]), qn (.store 2 (.t 4) (.t 38))]) .ret) .skip))) (.seq (.reg [qq 40 (.faddr 1 (.t 3)), qq 41 (.load false 1 (.t 40)), qq 42 (.faddr 1 (.t 2)), qq 43 (.load false 1 (.t 42)), qq 44 (.call 75 [(.t 41), (.t 43)]), qq 39 (.mv (.t 44)), qq 45 (.ext (.t 39) 0), qq 46 (.ext (.t 39) 1), qq 7 (.mv (.t 45)), qq 8 (.mv (.t 46))]) (.seq (.reg [qq 47 (.faddr 0 (.t 3)), qq 48 (.load false 1 (.t 47)), qq 49 (.mv (.t 7)), qq 50 (.call 68 [(.t 48), (.t 49)]), qn (.store 2 (.t 4) (.t 50))]) .ret))))))
theorem tr56 : trFun Tryz.prog 56 = some ⟨51, [.cell 4 true 2], c56⟩ := by kernel_rfl
theorem iadd_same {x y : Int} (h : decide (x < 0) = decide (y < 0)) : sv (decide (y < 0)) (bl (x.natAbs + y.natAbs)) = x + y := by
  rw [sv_bl]
  by_cases hx : x < 0
  · have hy : y < 0 := by simpa [hx] using h
    simp [hy]; omega
  · have hy : ¬ y < 0 := by simpa [hx] using h
    simp [hy]; omega
theorem iadd_diff {x y : Int} (h : ¬ decide (x < 0) = decide (y < 0)) :
    (x.natAbs < y.natAbs → sv (decide (y < 0)) (bl (y.natAbs - x.natAbs)) = x + y) ∧ (¬ x.natAbs < y.natAbs → sv (decide (x < 0)) (bl (x.natAbs - y.natAbs)) = x + y) := by
  rw [sv_bl, sv_bl]
  by_cases hx : x < 0
  · have hy : ¬ y < 0 := by simpa [hx] using h
    constructor
    · intro g; simp [hy]; omega
    · intro g; simp [hx]; omega
  · have hy : y < 0 := by simpa [hx] using h
    constructor
    · intro g; simp [hy]; omega
    · intro g; simp [hx]; omega
theorem ok_iAdd : SpecOK Tryz.prog 56 (flat spIAdd) := by
  refine flat_run (env_cons ok_iof (env_cons ok_iNorm (env_cons ok_nAdd (env_cons ok_nSub (env_nil _))))) mixed tr56 ?_
  intro args v h N hG
  unfold spIAdd at hG
  split at hG
  case h_2 => cases hG
  rename_i s l t m
  split at hG
  case isFalse => cases hG
  rename_i hl
  obtain ⟨hl, hm⟩ := hl
  cases hG
  refine ⟨rfl, by simp, ?_⟩
  have hl' : l.length ≤ 1099511627776 := by omega
  have hm' : m.length ≤ 1099511627776 := by omega
  have n1 := len_sv (s := s) hl
  have n2 := len_sv (s := t) hm
  simp only [c56, G0, Nat.reduceAdd]
  simp only [↓R0, R1, simprocAttr, -Int.reduceAbs, spINorm, hl', hm', iE]
  generalize sv s l = x at *
  generalize sv t m = y at *
  by_cases hst : decide (x < 0) = decide (y < 0)
  · have hz := iadd_same hst
    simp only [↓R0, R1, simprocAttr, -Int.reduceAbs, hst, spNAdd, n1, n2, nl_bl, spIof, hz, Fin, isEnd, resL, res1, iE, rE]
    exact ⟨_, rfl, rfl, fun k hk => by simp only [ne_nb hk, if_false]⟩
  · obtain ⟨d1, d2⟩ := iadd_diff hst
    by_cases hlt : x.natAbs < y.natAbs
    · have hlt2 : ¬ y.natAbs < x.natAbs := by omega
      have hz := d1 hlt
      simp only [↓R0, R1, simprocAttr, -Int.reduceAbs, hst, spNSub, n1, n2, nl_bl, hlt, hlt2, spIof, hz, Fin, isEnd, resL, res1, iE, rE]
      exact ⟨_, rfl, rfl, fun k hk => by simp only [ne_nb hk, if_false]⟩
    · have hz := d2 hlt
      simp only [↓R0, R1, simprocAttr, -Int.reduceAbs, hst, spNSub, n1, n2, nl_bl, hlt, spIof, hz, Fin, isEnd, resL, res1, iE, rE]
      exact ⟨_, rfl, rfl, fun k hk => by simp only [ne_nb hk, if_false]⟩
def spISub : List Value → Option Value
  | [.agg ⟨[.bool s, .string ⟨⟨l⟩⟩]⟩, .agg ⟨[.bool t, .string ⟨⟨m⟩⟩]⟩] => if l.length ≤ 68719476736 ∧ m.length ≤ 68719476736 then some (.agg ⟨iE (sv s l - sv t m)⟩) else none
  | _ => none
def c87 : ICode :=
  (.seq (.reg [qq 2 (.box 53 2 (.t 0)), qq 3 (.box 53 2 (.t 1)), qq 4 (.alloc 53 2 [(.bool false), e0])]) (.seq (.dreg [qu 5 (.load true 2 (.t 2)), qu 6 (.load true 2 (.t 3)), qu 7 (.call 77 [(.t 6)]), qu 8 (.call 56 [(.t 5), (.t 7)]), qm (.store 2 (.t 4) (.t 8))]) .ret))
theorem tr87 : trFun Tryz.prog 87 = some ⟨9, [.cell 4 true 2], c87⟩ := by kernel_rfl
theorem ok_iSub : SpecOK Tryz.prog 87 (flat spISub) := by
  refine flat_run (env_cons ok_iNeg (env_cons ok_iAdd (env_nil _))) mixed tr87 ?_
  intro args v h N hG
  unfold spISub at hG
  split at hG
  case h_2 => cases hG
  rename_i s l t m
  split at hG
  case isFalse => cases hG
  rename_i hl
  obtain ⟨hl, hm⟩ := hl
  cases hG
  refine ⟨rfl, by simp, ?_⟩
  have hm' : m.length ≤ 1099511627776 := by omega
  have n2 : (bl (-sv t m).natAbs).length ≤ 68719476736 := by rw [Int.natAbs_neg]; exact len_sv hm
  rw [Int.sub_eq_add_neg]
  simp only [c87, G0, Nat.reduceAdd]
  simp only [↓R0, R1, simprocAttr, -Int.reduceAbs, spINeg, spIAdd, hl, hm', n2, Fin, isEnd, resL, res1, iE, rE]
  exact ⟨_, rfl, rfl, fun k hk => by simp only [ne_nb hk, if_false]⟩
def spICmp : List Value → Option Value
  | [.agg ⟨[.bool s, .string ⟨⟨l⟩⟩]⟩, .agg ⟨[.bool t, .string ⟨⟨m⟩⟩]⟩] => if l.length ≤ 68719476736 ∧ m.length ≤ 68719476736 then some (.int .i64 (sv s l - sv t m).sign) else none
  | _ => none
def c65 : ICode :=
  (.seq (.reg [qq 2 (.box 53 2 (.t 0)), qq 3 (.box 53 2 (.t 1)), qq 4 (.mv (ci 0))]) (.seq (.reg [qq 5 (.load true 2 (.t 2)), qq 6 (.load true 2 (.t 3)), qq 7 (.call 87 [(.t 5), (.t 6)]), qq 8 (.call 45 [(.t 7)]), qq 4 (.mv (.t 8))]) .ret))
theorem tr65 : trFun Tryz.prog 65 = some ⟨9, [.t 4], c65⟩ := by kernel_rfl
theorem ok_iCmp : SpecOK Tryz.prog 65 (flat spICmp) := by
  refine flat_run (env_cons ok_iSub (env_cons ok_iSign (env_nil _))) mixed tr65 ?_
  intro args v h N hG
  unfold spICmp at hG
  split at hG
  case h_2 => cases hG
  rename_i s l t m
  split at hG
  case isFalse => cases hG
  rename_i hl
  obtain ⟨hl, hm⟩ := hl
  cases hG
  refine ⟨rfl, by simp, ?_⟩
  have n2 : (bl (-sv t m).natAbs).length ≤ 68719476736 := by rw [Int.natAbs_neg]; exact len_sv hm
  have n3 : (bl (sv s l - sv t m).natAbs).length ≤ 1099511627776 := by rw [Int.sub_eq_add_neg]; exact Nat.le_trans (len_add (len_sv hl) n2) (by omega)
  simp only [c65, G0, Nat.reduceAdd]
  simp only [↓R0, R1, simprocAttr, -Int.reduceAbs, spISub, spISign, hl, hm, n3, Fin, isEnd, resL, res1, iE, rE]
  exact ⟨_, rfl, rfl, fun k hk => by simp only [ne_nb hk, if_false]⟩
def spIMul : List Value → Option Value
  | [.agg ⟨[.bool s, .string ⟨⟨l⟩⟩]⟩, .agg ⟨[.bool t, .string ⟨⟨m⟩⟩]⟩] => if l.length ≤ 34359738368 ∧ m.length ≤ 34359738368 then some (.agg ⟨iE (sv s l * sv t m)⟩) else none
  | _ => none
def c57 : ICode :=
  (.seq (.reg [qq 2 (.box 53 2 (.t 0)), qq 3 (.box 53 2 (.t 1)), qq 4 (.alloc 53 2 [(.bool false), e0])]) (.seq (.dreg [qu 5 (.load true 2 (.t 2)), qu 6 (.call 67 [(.t 5)]), qv 7 [1] (.load true 2 (.t 3)), qu 8 (.call 67 [(.t 7)]), qm (.store 2 (.t 2) (.t 6)), qm (.store 2 (.t 3) (.t 8))]) (.seq (.dreg [qu 9 (.faddr 0 (.t 2)), qu 10 (.load false 1 (.t 9)), qu 11 (.faddr 0 (.t 3)), qu 12 (.load false 1 (.t 11)), qu 13 (.eqb true (.t 10) (.t 12)), qu 14 (.faddr 1 (.t 2)), qu 15 (.load false 1 (.t 14)), qu 16 (.faddr 1 (.t 3)), qu 17 (.load false 1 (.t 16)), qu 18 (.call 76 [(.t 15), (.t 17)]), qu 19 (.call 68 [(.t 13), (.t 18)]), qm (.store 2 (.t 4) (.t 19))]) .ret)))
theorem tr57 : trFun Tryz.prog 57 = some ⟨20, [.cell 4 true 2], c57⟩ := by kernel_rfl
theorem imul_sv (x y : Int) : sv (decide (¬ decide (x < 0) = decide (y < 0))) (bl (x.natAbs * y.natAbs)) = x * y := by
  have := sv_mul (decide (x < 0)) (decide (y < 0)) (bl x.natAbs) (bl y.natAbs)
  rw [sv_can, sv_can, nl_bl, nl_bl] at this
  exact this
theorem ok_iMul : SpecOK Tryz.prog 57 (flat spIMul) := by
  refine flat_run (env_cons ok_iof (env_cons ok_iNorm (env_cons ok_nMul (env_nil _)))) mixed tr57 ?_
  intro args v h N hG
  unfold spIMul at hG
  split at hG
  case h_2 => cases hG
  rename_i s l t m
  split at hG
  case isFalse => cases hG
  rename_i hl
  obtain ⟨hl, hm⟩ := hl
  cases hG
  refine ⟨rfl, by simp, ?_⟩
  have hl' : l.length ≤ 1099511627776 := by omega
  have hm' : m.length ≤ 1099511627776 := by omega
  have n1 := len_sv (s := s) hl
  have n2 := len_sv (s := t) hm
  have hz := imul_sv (sv s l) (sv t m)
  simp only [c57, G0, Nat.reduceAdd]
  simp only [↓R0, R1, simprocAttr, -Int.reduceAbs, spINorm, spNMul, spIof, hl', hm', n1, n2, nl_bl, hz, Fin, isEnd, resL, res1, iE, rE]
  exact ⟨_, rfl, rfl, fun k hk => by simp only [ne_nb hk, if_false]⟩
end Go.Eng
end
section
set_option linter.unusedVariables false
set_option linter.unusedSimpArgs false
set_option linter.unusedSectionVars false
set_option maxRecDepth 4000
namespace Go.Eng
open Go Go.Proofs Go.IntWalk
end Go.Eng
end
section
set_option linter.unusedVariables false
set_option linter.unusedSimpArgs false
set_option linter.unusedSectionVars false
set_option maxRecDepth 8000
namespace Go.Eng
open Go Go.Proofs Go.IntWalk
def spQParts : List Value → Option Value
  | [.agg ⟨[.bool s, .string ⟨⟨n⟩⟩, .string ⟨⟨d⟩⟩]⟩] => if n.length ≤ 1099511627776 ∧ d.length ≤ 1099511627776 then some (.tuple ⟨[.agg ⟨iE (sv s n)⟩, .agg ⟨iE (dv d)⟩]⟩) else none
  | _ => none
def c44 : ICode :=
  (.seq (.reg [qq 1 (.box 30 3 (.t 0)), qq 2 (.alloc 53 2 [(.bool false), e0]), qq 3 (.alloc 53 2 [(.bool false), e0])]) (.seq (.reg [qq 5 (.faddr 2 (.t 1)), qq 6 (.load false 1 (.t 5)), qq 7 (.call 66 [(.t 6)]), qq 8 (.build [(.bool false), e0] [(1, 1, (.t 7))]), qq 4 (.alloc 53 2 [(.bool false), e0]), qn (.store 2 (.t 4) (.t 8))]) (.seq (.seq (.reg [qq 9 (.faddr 1 (.t 4)), qq 10 (.load false 1 (.t 9)), qq 11 (.bin .eql (.t 10) (.c e0))]) (.cond (.t 11) (.reg [qq 12 (.call 47 [(ci 1)]), qn (.store 2 (.t 4) (.t 12))]) .skip)) (.seq (.dreg [qu 13 (.faddr 0 (.t 1)), qu 14 (.load false 1 (.t 13)), qu 15 (.faddr 1 (.t 1)), qu 16 (.load false 1 (.t 15)), qu 17 (.build [(.bool false), e0] [(0, 1, (.t 14)), (1, 1, (.t 16))]), qu 18 (.call 67 [(.t 17)]), qv 19 [5] (.load true 2 (.t 4)), ⟨none, none, [1006], (.store 2 (.t 2) (.t 18))⟩, qm (.store 2 (.t 3) (.t 19))]) .ret))))
theorem tr44 : trFun Tryz.prog 44 = some ⟨20, [.cell 2 true 2, .cell 3 true 2], c44⟩ := by kernel_rfl
theorem ok_qParts : SpecOK Tryz.prog 44 (flat spQParts) := by
  refine flat_run (env_cons ok_nNorm (env_cons ok_iFrom (env_cons ok_iNorm (env_nil _)))) mixed tr44 ?_
  intro args v h N hG
  unfold spQParts at hG
  split at hG
  case h_2 => cases hG
  rename_i s n d
  split at hG
  case isFalse => cases hG
  rename_i hl
  obtain ⟨h1, h2⟩ := hl
  cases hG
  refine ⟨rfl, by simp, ?_⟩
  by_cases h0 : nl d = 0
  · have e1 : bl (nl d) = [] := by rw [h0, bl_zero]
    have e2 : dv d = 1 := by unfold dv; rw [if_pos h0]
    simp only [c44, G0, Nat.reduceAdd]
    simp only [↓R0, R1, simprocAttr, -Int.reduceAbs, spNNorm, h1, h2, e1, e2, spIFrom, spINorm, iE, Fin, isEnd, resL, res1, iE, rE]
    exact ⟨_, rfl, rfl, fun k hk => by simp only [ne_nb hk, if_false]⟩
  · have e1 : (bl (nl d) = []) = False := eq_false (fun e => h0 (bl_eq_nil.1 e))
    have e2 : dv d = (nl d : Int) := by unfold dv; rw [if_neg h0]
    have e3 : ¬ ((nl d : Int) < 0) := by omega
    simp only [c44, G0, Nat.reduceAdd]
    simp only [↓R0, R1, simprocAttr, -Int.reduceAbs, spNNorm, h1, h2, e1, e2, e3, spIFrom, spINorm, iE, Int.natAbs_natCast, Fin, isEnd, resL, res1, iE, rE]
    exact ⟨_, rfl, rfl, fun k hk => by simp only [ne_nb hk, if_false]⟩
def spQLeast : List Value → Heap → Option Value
  | [.string ⟨⟨l⟩⟩, .pointer (some ⟨k, 0, none⟩)], h => match hget h k with
    | some ⟨_, _, _, [.string ⟨⟨m⟩⟩]⟩ => if l.length ≤ 34359738368 ∧ m.length ≤ 34359738368 ∧ nl m ≠ 0 then some (.string ⟨⟨bl (nl l / nl m)⟩⟩) else none
    | _ => none
  | _, _ => none
def c79 : ICode :=
  (.seq (.reg [qq 3 (.mv (.c e0))]) (.seq (.reg [qq 8 (.mv (.t 0)), qq 9 (.load false 1 (.t 1)), qq 10 (.call 80 [(.t 8), (.t 9)]), qq 7 (.mv (.t 10)), qq 11 (.ext (.t 7) 0), qq 12 (.ext (.t 7) 1), qq 13 (.ext (.t 7) 2), qq 4 (.mv (.t 11)), qq 5 (.mv (.t 12)), qq 6 (.mv (.t 13))]) (.seq (.reg [qq 14 (.mv (.t 4)), qq 3 (.mv (.t 14))]) .ret)))
theorem tr79 : trFun Tryz.prog 79 = some ⟨15, [.t 3], c79⟩ := by kernel_rfl
theorem ok_qLeast : SpecOK Tryz.prog 79 (rdS spQLeast) := by
  refine rd_run (env_cons ok_nDiv (env_nil _)) mixed tr79 ?_ ?_
  · intro args h h' v hle e
    unfold spQLeast at e ⊢
    split at e
    · split at e
      · rename_i b1
        simp only [hle _ _ b1]; exact e
      · cases e
    · cases e
  intro args v h N hG hN
  unfold spQLeast at hG
  split at hG
  case h_2 => cases hG
  rename_i l k
  split at hG
  case h_2 => cases hG
  rename_i e1 z1 x1 m hb1
  split at hG
  case isFalse => cases hG
  rename_i hl
  obtain ⟨h1, h2, h3⟩ := hl
  have h4 := eq_false h3
  cases hG
  refine ⟨rfl, by simp, ?_⟩
  simp only [c79, G0, Nat.reduceAdd]
  simp only [↓R0, R1, simprocAttr, -Int.reduceAbs, hb1, spNDiv, h1, h2, h4, Fin, isEnd, resL, res1, iE, rE]
  exact ⟨_, rfl, rfl, fun k hk => by simp only [ne_nb hk, if_false]⟩
def spQMake : List Value → Option Value
  | [.agg ⟨[.bool s, .string ⟨⟨l⟩⟩]⟩, .agg ⟨[.bool t, .string ⟨⟨m⟩⟩]⟩] => if l.length ≤ 34359738368 ∧ m.length ≤ 34359738368 then
      (if nl m = 0 then some (.tuple ⟨[.agg ⟨[.bool false, .string ⟨⟨[]⟩⟩, .string ⟨⟨[]⟩⟩]⟩, .bool false]⟩) else
        some (.tuple ⟨[.agg ⟨rE (Rat.divInt (sv s l) (sv t m))⟩, .bool true]⟩)) else none
  | _ => none
def c59 : ICode :=
  (.seq (.reg [qq 2 (.box 53 2 (.t 0)), qq 3 (.box 53 2 (.t 1)), qq 4 (.alloc 30 3 [(.bool false), e0, e0]), qq 5 (.mv (.c (.bool false)))]) (.seq (.seq (.reg [qq 9 (.load true 2 (.t 3)), qq 10 (.call 45 [(.t 9)]), qq 11 (.bin .eql (.t 10) (ci 0))]) (.cond (.t 11) (.seq (.reg [qq 12 (.build [(.bool false), e0, e0] []), qn (.store 3 (.t 4) (.t 12)), qq 5 (.mv (.c (.bool false)))]) .ret) .skip)) (.seq (.seq (.reg [qq 13 (.load true 2 (.t 2)), qq 14 (.call 45 [(.t 13)]), qq 15 (.bin .eql (.t 14) (ci 0))]) (.cond (.t 15) (.seq (.reg [qq 16 (.build [(.bool false), e0, e0] []), qn (.store 3 (.t 4) (.t 16)), qq 5 (.mv (.c (.bool true)))]) .ret) .skip)) (.seq (.reg [qq 17 (.faddr 1 (.t 2)), qq 18 (.load false 1 (.t 17)), qq 19 (.faddr 1 (.t 3)), qq 20 (.load false 1 (.t 19)), qq 21 (.call 78 [(.t 18), (.t 20)]), qq 6 (.alloc 9 1 [e0]), qn (.store 1 (.t 6) (.t 21))]) (.seq (.reg [qq 22 (.mkfn 79 [(.t 6)]), qq 7 (.mv (.t 22))]) (.seq (.dreg [qu 23 (.faddr 0 (.t 2)), qu 24 (.load false 1 (.t 23)), qu 25 (.faddr 0 (.t 3)), qu 26 (.load false 1 (.t 25)), qu 27 (.eqb true (.t 24) (.t 26)), qu 28 (.mv (.t 7)), qu 29 (.faddr 1 (.t 2)), qu 30 (.load false 1 (.t 29)), qu 31 (.callv (.t 28) [(.t 30)]), qu 32 (.mv (.t 7)), qu 33 (.faddr 1 (.t 3)), qv 34 [8] (.load false 1 (.t 33)), qu 35 (.callv (.t 32) [(.t 34)]), qu 36 (.build [(.bool false), e0, e0] [(0, 1, (.t 27)), (1, 1, (.t 31)), (2, 1, (.t 35))]), qu 8 (.alloc 30 3 [(.bool false), e0, e0]), qm (.store 3 (.t 8) (.t 36))]) (.seq (.seq (.reg [qq 37 (.faddr 2 (.t 8)), qq 38 (.load false 1 (.t 37)), qq 39 (.bin .eql (.t 38) (.c (.string ⟨⟨[1]⟩⟩)))]) (.cond (.t 39) (.reg [qq 40 (.faddr 2 (.t 8)), qn (.store 1 (.t 40) (.c e0))]) .skip)) (.seq (.reg [qq 41 (.load true 3 (.t 8)), qn (.store 3 (.t 4) (.t 41)), qq 5 (.mv (.c (.bool true)))]) .ret))))))))
theorem tr59 : trFun Tryz.prog 59 = some ⟨42, [.cell 4 true 3, .t 5], c59⟩ := by kernel_rfl
theorem sv_neg_iff {s : Bool} {l : List UInt8} (h : nl l ≠ 0) : decide (sv s l < 0) = s := by
  unfold sv; cases s <;> simp <;> omega
set_option maxHeartbeats 1000000 in
theorem ok_qMake : SpecOK Tryz.prog 59 (flat spQMake) := by
  refine flat_run (env_cons ok_iSign (env_cons ok_nGcd (env_cons ok_qLeast (env_nil _)))) mixed tr59 ?_
  intro args v h N hG
  unfold spQMake at hG
  split at hG
  case h_2 => cases hG
  rename_i s l t m
  split at hG
  case isFalse => cases hG
  rename_i hl
  obtain ⟨hl, hm⟩ := hl
  have l2 : l.length ≤ 1099511627776 := by omega
  have m2 : m.length ≤ 1099511627776 := by omega
  split at hG
  · rename_i h0
    have e0 : sv t m = 0 := (sv_eq_zero t m).2 h0
    cases hG
    refine ⟨rfl, by simp, ?_⟩
    simp only [c59, G0, Nat.reduceAdd]
    simp only [↓R0, R1, simprocAttr, -Int.reduceAbs, spISign, l2, m2, e0, Int.sign_zero, Fin, isEnd, resL, res1, iE, rE]
    exact ⟨_, rfl, rfl, fun k hk => by simp only [ne_nb hk, if_false]⟩
  rename_i h0
  have hD : sv t m ≠ 0 := fun e => h0 ((sv_eq_zero t m).1 e)
  have hD' : ((sv t m).sign = 0) = False := eq_false (fun e => hD (Int.sign_eq_zero_iff_zero.1 e))
  by_cases hn : nl l = 0
  · have e0 : sv s l = 0 := (sv_eq_zero s l).2 hn
    have rz : rE 0 = [.bool false, .string ⟨⟨[]⟩⟩, .string ⟨⟨[]⟩⟩] := by simp [rE, bl_zero]
    rw [e0, Rat.zero_divInt, rz] at hG
    cases hG
    refine ⟨rfl, by simp, ?_⟩
    simp only [c59, G0, Nat.reduceAdd]
    simp only [↓R0, R1, simprocAttr, -Int.reduceAbs, spISign, l2, m2, e0, hD', Int.sign_zero, Fin, isEnd, resL, res1, iE, rE]
    exact ⟨_, rfl, rfl, fun k hk => by simp only [ne_nb hk, if_false]⟩
  have hN : sv s l ≠ 0 := fun e => hn ((sv_eq_zero s l).1 e)
  have hN' : ((sv s l).sign = 0) = False := eq_false (fun e => hN (Int.sign_eq_zero_iff_zero.1 e))
  cases hG
  refine ⟨rfl, by simp, ?_⟩
  obtain ⟨d1, d2, d3⟩ := divInt_cells (N := sv s l) hD
  rw [sv_natAbs, sv_natAbs] at d1 d2
  have hst : decide ((Rat.divInt (sv s l) (sv t m)).num < 0) = decide (s ≠ t) := by
    rw [Bool.eq_iff_iff]
    simp only [decide_eq_true_eq, d3, sv_neg_iff hn, sv_neg_iff h0, and_iff_left hN]
  unfold rE
  rw [hst, d1, d2]
  clear hst d1 d2 d3
  have hG0 : 0 < (nl l).gcd (nl m) := Nat.gcd_pos_of_pos_right _ (by omega)
  have lG : (bl ((nl l).gcd (nl m))).length ≤ 34359738368 := Nat.le_trans (bl_length_mono (Nat.gcd_le_right _ (by omega))) (Nat.le_trans (bl_length_nl m) hm)
  generalize hGG : (nl l).gcd (nl m) = G at *
  have f2 : ¬ (G = 0) := by omega
  have f10 : (bl (nl m / G) = [1]) = (nl m / G = 1) := propext ⟨fun e => bl_inj (e.trans (by decide +kernel : ([1] : List UInt8) = bl 1)), fun e => by rw [e]; decide +kernel⟩
  simp only [c59, G0, Nat.reduceAdd]
  simp only [↓R0, R1, simprocAttr, -Int.reduceAbs, spISign, l2, m2, hD', hN', spNGcd, hl, hm, hGG, rdS, callF, spQLeast, nl_bl, lG, f2, f10]
  by_cases c3 : nl m / G = 1
  · simp only [↓R0, R1, simprocAttr, -Int.reduceAbs, c3, Fin, isEnd, resL, res1, iE, rE]
    exact ⟨_, rfl, rfl, fun k hk => by simp only [ne_nb hk, if_false]⟩
  · simp only [↓R0, R1, simprocAttr, -Int.reduceAbs, c3, Fin, isEnd, resL, res1, iE, rE]
    exact ⟨_, rfl, rfl, fun k hk => by simp only [ne_nb hk, if_false]⟩
def c46 : ICode :=
  (.seq (.reg [qq 2 (.box 53 2 (.t 0)), qq 3 (.box 53 2 (.t 1)), qq 4 (.alloc 30 3 [(.bool false), e0, e0])]) (.seq (.reg [qq 8 (.load true 2 (.t 2)), qq 9 (.load true 2 (.t 3)), qq 10 (.call 59 [(.t 8), (.t 9)]), qq 7 (.mv (.t 10)), qq 11 (.ext (.t 7) 0), qq 12 (.ext (.t 7) 1), qq 5 (.alloc 30 3 [(.bool false), e0, e0]), qn (.store 3 (.t 5) (.t 11)), qq 6 (.mv (.t 12))]) (.seq (.reg [qq 13 (.load true 3 (.t 5)), qn (.store 3 (.t 4) (.t 13))]) .ret)))
theorem tr46 : trFun Tryz.prog 46 = some ⟨14, [.cell 4 true 3], c46⟩ := by kernel_rfl
def spQMade : List Value → Option Value
  | [.agg ⟨[.bool s, .string ⟨⟨l⟩⟩]⟩, .agg ⟨[.bool t, .string ⟨⟨m⟩⟩]⟩] => if l.length ≤ 34359738368 ∧ m.length ≤ 34359738368 ∧ nl m ≠ 0 then
      some (.agg ⟨rE (Rat.divInt (sv s l) (sv t m))⟩) else none
  | _ => none
theorem ok_qMade : SpecOK Tryz.prog 46 (flat spQMade) := by
  refine flat_run (env_cons ok_qMake (env_nil _)) mixed tr46 ?_
  intro args v h N hG
  unfold spQMade at hG
  split at hG
  case h_2 => cases hG
  rename_i s l t m
  split at hG
  case isFalse => cases hG
  rename_i hl
  obtain ⟨h1, h2, h3⟩ := hl
  have h4 := eq_false h3
  cases hG
  refine ⟨rfl, by simp, ?_⟩
  simp only [c46, G0, Nat.reduceAdd]
  simp only [↓R0, R1, simprocAttr, -Int.reduceAbs, spQMake, h1, h2, h4, Fin, isEnd, resL, res1, iE, rE]
  exact ⟨_, rfl, rfl, fun k hk => by simp only [ne_nb hk, if_false]⟩
def spQNorm : List Value → Option Value
  | [.agg ⟨[.bool s, .string ⟨⟨n⟩⟩, .string ⟨⟨d⟩⟩]⟩] => if n.length ≤ 17179869184 ∧ d.length ≤ 17179869184 then some (.agg ⟨rE (rv s n d)⟩) else none
  | _ => none
def c22 : ICode :=
  (.seq (.reg [qq 1 (.box 30 3 (.t 0)), qq 2 (.alloc 30 3 [(.bool false), e0, e0])]) (.seq (.reg [qq 3 (.load true 3 (.t 1)), qq 4 (.call 44 [(.t 3)]), qq 5 (.ext (.t 4) 0), qq 6 (.ext (.t 4) 1), qq 7 (.call 46 [(.t 5), (.t 6)]), qn (.store 3 (.t 2) (.t 7))]) .ret))
theorem tr22 : trFun Tryz.prog 22 = some ⟨8, [.cell 2 true 3], c22⟩ := by kernel_rfl
theorem ok_qNorm : SpecOK Tryz.prog 22 (flat spQNorm) := by
  refine flat_run (env_cons ok_qParts (env_cons ok_qMade (env_nil _))) mixed tr22 ?_
  intro args v h N hG
  unfold spQNorm at hG
  split at hG
  case h_2 => cases hG
  rename_i s n d
  split at hG
  case isFalse => cases hG
  rename_i hl
  obtain ⟨h1, h2⟩ := hl
  cases hG
  refine ⟨rfl, by simp, ?_⟩
  have n2 : n.length ≤ 1099511627776 := by omega
  have d2 : d.length ≤ 1099511627776 := by omega
  have n3 : (bl (sv s n).natAbs).length ≤ 34359738368 := by rw [sv_natAbs]; exact Nat.le_trans (bl_length_nl n) (by omega)
  have d3 : (bl (dv d).natAbs).length ≤ 34359738368 := Nat.le_trans (bl_dv d) (by omega)
  have d4 := dv_nl d
  unfold rv
  simp only [c22, G0, Nat.reduceAdd]
  simp only [↓R0, R1, simprocAttr, -Int.reduceAbs, spQParts, n2, d2, spQMade, n3, d3, d4, nl_bl, Fin, isEnd, resL, res1, iE, rE]
  exact ⟨_, rfl, rfl, fun k hk => by simp only [ne_nb hk, if_false]⟩
end Go.Eng
end
section
set_option linter.unusedVariables false
set_option linter.unusedSimpArgs false
set_option linter.unusedSectionVars false
namespace Go.Eng
def RB (q : Rat) (k : Nat) : Prop := (bl q.num.natAbs).length ≤ k ∧ (bl q.den).length ≤ k
theorem divInt_RB {N D : Int} {k : Nat} (hD : D ≠ 0) (h1 : (bl N.natAbs).length ≤ k) (h2 : (bl D.natAbs).length ≤ k) : RB (Rat.divInt N D) k := by
  obtain ⟨g1, g2, _⟩ := divInt_cells (N := N) (D := D) hD
  unfold RB
  rw [g1, g2]
  exact ⟨Nat.le_trans (bl_length_mono (Nat.div_le_self _ _)) h1, Nat.le_trans (bl_length_mono (Nat.div_le_self _ _)) h2⟩
theorem Lmul {a b : Int} {i j : Nat} (ha : (bl a.natAbs).length ≤ i) (hb : (bl b.natAbs).length ≤ j) : (bl (a * b).natAbs).length ≤ i + j := by
  rw [Int.natAbs_mul]; exact Nat.le_trans (bl_length_mul _ _) (by omega)
theorem Ladd {a b : Int} {k : Nat} (ha : (bl a.natAbs).length ≤ k) (hb : (bl b.natAbs).length ≤ k) : (bl (a + b).natAbs).length ≤ k + 1 :=
  Nat.le_trans (bl_length_mono (Int.natAbs_add_le a b)) (bl_length_add ha hb)
theorem RB.mul {p q : Rat} {i j k : Nat} (hp : RB p i) (hq : RB q j) (h : i + j ≤ k) : RB (p * q) k := by
  have hp0 := p.den_nz
  have hq0 := q.den_nz
  conv => lhs; rw [← Rat.num_divInt_den p, ← Rat.num_divInt_den q, Rat.divInt_mul_divInt]
  refine divInt_RB (by rw [← Int.natCast_mul]; simp [hp0, hq0]) (Nat.le_trans (Lmul hp.1 hq.1) h) ?_
  exact Nat.le_trans (Lmul (a := (p.den : Int)) (b := (q.den : Int)) hp.2 hq.2) h
theorem RB.add {p q : Rat} {i j k : Nat} (hp : RB p i) (hq : RB q j) (h : i + j + 1 ≤ k) : RB (p + q) k := by
  have hp0 := p.den_nz
  have hq0 := q.den_nz
  conv => lhs; rw [← Rat.num_divInt_den p, ← Rat.num_divInt_den q, Rat.divInt_add_divInt _ _ (by simp [hp0]) (by simp [hq0])]
  refine divInt_RB (by rw [← Int.natCast_mul]; simp [hp0, hq0]) ?_ ?_
  · refine Nat.le_trans (Ladd (k := i + j) (Lmul (b := (q.den : Int)) hp.1 hq.2) ?_) h
    exact Nat.le_trans (Lmul (b := (p.den : Int)) hq.1 hp.2) (by omega)
  · exact Nat.le_trans (Lmul (a := (p.den : Int)) (b := (q.den : Int)) hp.2 hq.2) (by omega)
theorem RB.neg {p : Rat} {i : Nat} (hp : RB p i) : RB (-p) i := by
  unfold RB; rw [Rat.neg_num, Rat.neg_den, Int.natAbs_neg]; exact hp
theorem RB.sub {p q : Rat} {i j k : Nat} (hp : RB p i) (hq : RB q j) (h : i + j + 1 ≤ k) : RB (p - q) k := by
  rw [Rat.sub_eq_add_neg]; exact hp.add hq.neg h
theorem RB.inv {p : Rat} {i : Nat} (hp : RB p i) (h1 : 1 ≤ i) : RB p⁻¹ i := by
  by_cases h : p = 0
  · subst h
    have e : ((0 : Rat)⁻¹) = 0 := by first | exact Rat.inv_zero | grind
    rw [e]; unfold RB
    refine ⟨?_, ?_⟩
    · rw [show (0 : Rat).num.natAbs = 0 from rfl, bl_zero]; exact Nat.zero_le _
    · exact Nat.le_trans (bl_length_le (k := 1).2 (by decide)) h1
  · have hn : p.num ≠ 0 := fun e => h (Rat.num_eq_zero.1 e)
    conv => lhs; rw [← Rat.num_divInt_den p, Rat.inv_divInt]
    exact divInt_RB hn hp.2 hp.1
theorem RB.div {p q : Rat} {i j k : Nat} (hp : RB p i) (hq : RB q j) (h1 : 1 ≤ j) (h : i + j ≤ k) : RB (p / q) k := by
  rw [Rat.div_def]; exact hp.mul (hq.inv h1) h
theorem RB.le {p : Rat} {i k : Nat} (hp : RB p i) (h : i ≤ k) : RB p k := ⟨Nat.le_trans hp.1 h, Nat.le_trans hp.2 h⟩
theorem RB.num {p : Rat} {i k : Nat} (hp : RB p i) (h : i ≤ k) : (bl p.num.natAbs).length ≤ k := Nat.le_trans hp.1 h
theorem RB.den {p : Rat} {i k : Nat} (hp : RB p i) (h : i ≤ k) : (if p.den = 1 then ([] : List UInt8) else bl p.den).length ≤ k := by
  split
  · simp
  · exact Nat.le_trans hp.2 h
theorem RB.raw {s : Bool} {n d : List UInt8} {k : Nat} (hn : n.length ≤ k) (hd : d.length ≤ k) : RB (rv s n d) (k + 1) := by
  unfold rv
  refine divInt_RB (by have := dv_pos d; omega) ?_ ?_
  · rw [sv_natAbs]; exact Nat.le_trans (bl_length_nl n) (by omega)
  · unfold dv; split
    · exact Nat.le_trans (bl_length_le (k := 1).2 (by decide)) (by omega)
    · rw [Int.natAbs_natCast]; exact Nat.le_trans (bl_length_nl d) (by omega)
theorem RB.int {z : Int} {k : Nat} (h : (bl z.natAbs).length ≤ k) (h1 : 1 ≤ k) : RB (z : Rat) k := by
  unfold RB; rw [Rat.num_intCast, Rat.den_intCast]
  exact ⟨h, Nat.le_trans (bl_length_le (k := 1).2 (by decide)) h1⟩
theorem divInt_one (z : Int) : Rat.divInt z 1 = (z : Rat) := by
  rw [Rat.divInt_eq_div]
  have : ((1 : Int) : Rat) = 1 := rfl
  rw [this, Rat.div_def]
  have e : (1 : Rat)⁻¹ = 1 := by grind
  rw [e, Rat.mul_one]
end Go.Eng
end
section
set_option linter.unusedVariables false
set_option linter.unusedSimpArgs false
set_option linter.unusedSectionVars false
namespace Go.Eng
end Go.Eng
end
section
set_option linter.unusedVariables false
set_option linter.unusedSimpArgs false
set_option linter.unusedSectionVars false
namespace Go.Eng
def dt3 (x1 x2 x3 y1 y2 y3 z1 z2 z3 : Int) : Int := x1 * (y2 * z3 - y3 * z2) - x2 * (y1 * z3 - y3 * z1) + x3 * (y1 * z2 - y2 * z1)
def flt (a1 a2 a3 a4 b1 b2 b3 b4 c1 c2 c3 c4 : Int) : Prop :=
  dt3 a2 a3 a4 b2 b3 b4 c2 c3 c4 = 0 ∧ dt3 a3 a1 a4 b3 b1 b4 c3 c1 c4 = 0 ∧ dt3 a1 a2 a4 b1 b2 b4 c1 c2 c4 = 0
instance {a1 a2 a3 a4 b1 b2 b3 b4 c1 c2 c3 c4 : Int} : Decidable (flt a1 a2 a3 a4 b1 b2 b3 b4 c1 c2 c3 c4) := by unfold flt; infer_instance
end Go.Eng
end
section
set_option linter.unusedVariables false
set_option linter.unusedSimpArgs false
set_option linter.unusedSectionVars false
namespace Go.Eng
theorem sign_pos_mul {k x : Int} (h : 0 < k) : (x * k).sign = x.sign := by
  rw [Int.sign_mul, Int.sign_eq_one_of_pos h, Int.mul_one]
end Go.Eng
end
section
set_option linter.unusedVariables false
set_option linter.unusedSimpArgs false
set_option linter.unusedSectionVars false
namespace Go.Eng
def lex3 (x y z : Int) : Int := if x.sign = 0 then (if y.sign = 0 then z.sign else y.sign) else x.sign
def cmp4 (a1 a2 a3 a4 b1 b2 b3 b4 : Int) : Int := lex3 (a1 * b4 - b1 * a4) (a2 * b4 - b2 * a4) (a3 * b4 - b3 * a4)
section
variable {x b a m n p : Int}
end
def btw (a1 a2 a3 a4 b1 b2 b3 b4 x1 x2 x3 x4 : Int) : Prop :=
  (¬ cmp4 a1 a2 a3 a4 x1 x2 x3 x4 = 0) ∧ cmp4 a1 a2 a3 a4 x1 x2 x3 x4 = cmp4 x1 x2 x3 x4 b1 b2 b3 b4 ∧ flt a1 a2 a3 a4 b1 b2 b3 b4 x1 x2 x3 x4
instance {a1 a2 a3 a4 b1 b2 b3 b4 x1 x2 x3 x4 : Int} : Decidable (btw a1 a2 a3 a4 b1 b2 b3 b4 x1 x2 x3 x4) := by unfold btw; infer_instance
theorem num_sign {q : Rat} {n d : Int} (h : q = Rat.divInt n d) (hd : 0 < d) : q.num.sign = n.sign := by
  have hq : 0 < (q.den : Int) := by have := q.den_pos; omega
  have e : q.num * d = n * q.den := (Rat.divInt_eq_divInt_iff (by omega) (by omega)).1 (by rw [← h]; exact Rat.num_divInt_den q)
  rw [← sign_pos_mul (x := q.num) hd, e, sign_pos_mul hq]
theorem sub_sign {a c : Int} {b d : Int} (hb : 0 < b) (hd : 0 < d) : (Rat.divInt a b - Rat.divInt c d).num.sign = (a * d - c * b).sign := by
  refine num_sign (d := b * d) ?_ (Int.mul_pos hb hd)
  have e1 : (b : Rat) ≠ 0 := fun e => by have : b = 0 := by exact_mod_cast e
                                         omega
  have e2 : (d : Rat) ≠ 0 := fun e => by have : d = 0 := by exact_mod_cast e
                                         omega
  simp only [Rat.divInt_eq_div, Rat.intCast_sub, Rat.intCast_mul]
  generalize (b : Rat) = B at *
  generalize (d : Rat) = D at *
  grind
end Go.Eng
end
section
set_option linter.unusedVariables false
set_option linter.unusedSimpArgs false
set_option linter.unusedSectionVars false
set_option maxRecDepth 8000
namespace Go.Eng
open Go Go.Proofs Go.IntWalk
theorem sv_zero' : sv false (bl 0) = 0 := by rw [sv_false, nl_bl]; rfl
theorem sv_one' : sv false (bl (Int.natAbs 1)) = 1 := by rw [sv_false, nl_bl]; rfl
def spQSign : List Value → Option Value
  | [.agg ⟨[.bool s, .string ⟨⟨n⟩⟩, .string ⟨⟨d⟩⟩]⟩] => if n.length ≤ 17179869184 ∧ d.length ≤ 17179869184 then some (.int .i64 (sv s n).sign) else none
  | _ => none
def c16 : ICode :=
  (.seq (.reg [qq 1 (.box 30 3 (.t 0)), qq 2 (.mv (ci 0))]) (.seq (.reg [qq 6 (.load true 3 (.t 1)), qq 7 (.call 44 [(.t 6)]), qq 5 (.mv (.t 7)), qq 8 (.ext (.t 5) 0), qq 9 (.ext (.t 5) 1), qq 3 (.alloc 53 2 [(.bool false), e0]), qq 4 (.alloc 53 2 [(.bool false), e0]), qn (.store 2 (.t 3) (.t 8)), qn (.store 2 (.t 4) (.t 9))]) (.seq (.reg [qq 10 (.load true 2 (.t 3)), qq 11 (.call 45 [(.t 10)]), qq 2 (.mv (.t 11))]) .ret)))
theorem tr16 : trFun Tryz.prog 16 = some ⟨12, [.t 2], c16⟩ := by kernel_rfl
theorem ok_qSign : SpecOK Tryz.prog 16 (flat spQSign) := by
  refine flat_run (env_cons ok_qParts (env_cons ok_iSign (env_nil _))) mixed tr16 ?_
  intro args v h N hG
  unfold spQSign at hG
  split at hG
  case h_2 => cases hG
  rename_i s n d
  split at hG
  case isFalse => cases hG
  rename_i hl
  obtain ⟨h1, h2⟩ := hl
  cases hG
  refine ⟨rfl, by simp, ?_⟩
  have n2 : n.length ≤ 1099511627776 := by omega
  have d2 : d.length ≤ 1099511627776 := by omega
  have n3 : (bl (sv s n).natAbs).length ≤ 1099511627776 := by rw [sv_natAbs]; exact Nat.le_trans (bl_length_nl n) (by omega)
  simp only [c16, G0, Nat.reduceAdd]
  simp only [↓R0, R1, simprocAttr, -Int.reduceAbs, spQParts, spISign, n2, d2, n3, iE, Fin, isEnd, resL, res1, iE, rE]
  exact ⟨_, rfl, rfl, fun k hk => by simp only [ne_nb hk, if_false]⟩
def spQNeg : List Value → Option Value
  | [.agg ⟨[.bool s, .string ⟨⟨n⟩⟩, .string ⟨⟨d⟩⟩]⟩] => if n.length ≤ 17179869184 ∧ d.length ≤ 17179869184 then some (.agg ⟨rE (- rv s n d)⟩) else none
  | _ => none
def c58 : ICode :=
  (.seq (.reg [qq 1 (.box 30 3 (.t 0)), qq 2 (.alloc 30 3 [(.bool false), e0, e0])]) (.seq (.reg [qq 6 (.load true 3 (.t 1)), qq 7 (.call 44 [(.t 6)]), qq 5 (.mv (.t 7)), qq 8 (.ext (.t 5) 0), qq 9 (.ext (.t 5) 1), qq 3 (.alloc 53 2 [(.bool false), e0]), qq 4 (.alloc 53 2 [(.bool false), e0]), qn (.store 2 (.t 3) (.t 8)), qn (.store 2 (.t 4) (.t 9))]) (.seq (.dreg [qu 10 (.load true 2 (.t 3)), qu 11 (.call 77 [(.t 10)]), qv 12 [1] (.load true 2 (.t 4)), qu 13 (.call 46 [(.t 11), (.t 12)]), qm (.store 3 (.t 2) (.t 13))]) .ret)))
theorem tr58 : trFun Tryz.prog 58 = some ⟨14, [.cell 2 true 3], c58⟩ := by kernel_rfl
theorem ok_qNeg : SpecOK Tryz.prog 58 (flat spQNeg) := by
  refine flat_run (env_cons ok_qParts (env_cons ok_iNeg (env_cons ok_qMade (env_nil _)))) mixed tr58 ?_
  intro args v h N hG
  unfold spQNeg at hG
  split at hG
  case h_2 => cases hG
  rename_i s n d
  split at hG
  case isFalse => cases hG
  rename_i hl
  obtain ⟨h1, h2⟩ := hl
  cases hG
  refine ⟨rfl, by simp, ?_⟩
  have n2 : n.length ≤ 1099511627776 := by omega
  have d2 : d.length ≤ 1099511627776 := by omega
  have n3 : (bl (sv s n).natAbs).length ≤ 1099511627776 := by rw [sv_natAbs]; exact Nat.le_trans (bl_length_nl n) (by omega)
  have n4 : (bl (-sv s n).natAbs).length ≤ 34359738368 := by rw [Int.natAbs_neg, sv_natAbs]; exact Nat.le_trans (bl_length_nl n) (by omega)
  have d3 : (bl (dv d).natAbs).length ≤ 34359738368 := Nat.le_trans (bl_dv d) (by omega)
  have d4 := dv_nl d
  unfold rv
  rw [Rat.neg_divInt]
  simp only [c58, G0, Nat.reduceAdd]
  simp only [↓R0, R1, simprocAttr, -Int.reduceAbs, spQParts, spINeg, spQMade, n2, d2, n3, n4, d3, d4, iE, nl_bl, Fin, isEnd, resL, res1, iE, rE]
  exact ⟨_, rfl, rfl, fun k hk => by simp only [ne_nb hk, if_false]⟩
def spQAdd : List Value → Option Value
  | [.agg ⟨[.bool s, .string ⟨⟨n⟩⟩, .string ⟨⟨d⟩⟩]⟩, .agg ⟨[.bool t, .string ⟨⟨m⟩⟩, .string ⟨⟨e⟩⟩]⟩] => if n.length ≤ 8589934592 ∧ d.length ≤ 8589934592 ∧ m.length ≤ 8589934592 ∧ e.length ≤ 8589934592 then some (.agg ⟨rE (rv s n d + rv t m e)⟩) else none
  | _ => none
def c30 : ICode :=
  (.seq (.reg [qq 2 (.box 30 3 (.t 0)), qq 3 (.box 30 3 (.t 1)), qq 4 (.alloc 30 3 [(.bool false), e0, e0])]) (.seq (.reg [qq 10 (.load true 3 (.t 2)), qq 11 (.call 44 [(.t 10)]), qq 9 (.mv (.t 11)), qq 12 (.ext (.t 9) 0), qq 13 (.ext (.t 9) 1), qq 5 (.alloc 53 2 [(.bool false), e0]), qq 6 (.alloc 53 2 [(.bool false), e0]), qn (.store 2 (.t 5) (.t 12)), qn (.store 2 (.t 6) (.t 13))]) (.seq (.reg [qq 15 (.load true 3 (.t 3)), qq 16 (.call 44 [(.t 15)]), qq 14 (.mv (.t 16)), qq 17 (.ext (.t 14) 0), qq 18 (.ext (.t 14) 1), qq 7 (.alloc 53 2 [(.bool false), e0]), qq 8 (.alloc 53 2 [(.bool false), e0]), qn (.store 2 (.t 7) (.t 17)), qn (.store 2 (.t 8) (.t 18))]) (.seq (.dreg [qu 19 (.load true 2 (.t 5)), qu 20 (.load true 2 (.t 8)), qu 21 (.call 57 [(.t 19), (.t 20)]), qv 22 [2] (.load true 2 (.t 7)), qv 23 [2] (.load true 2 (.t 6)), qu 24 (.call 57 [(.t 22), (.t 23)]), qu 25 (.call 56 [(.t 21), (.t 24)]), qv 26 [2, 5, 6] (.load true 2 (.t 6)), qv 27 [2, 5, 6] (.load true 2 (.t 8)), qu 28 (.call 57 [(.t 26), (.t 27)]), qu 29 (.call 46 [(.t 25), (.t 28)]), qm (.store 3 (.t 4) (.t 29))]) .ret))))
theorem tr30 : trFun Tryz.prog 30 = some ⟨30, [.cell 4 true 3], c30⟩ := by kernel_rfl
theorem ok_qAdd : SpecOK Tryz.prog 30 (flat spQAdd) := by
  refine flat_run (env_cons ok_qParts (env_cons ok_iMul (env_cons ok_iAdd (env_cons ok_qMade (env_nil _))))) mixed tr30 ?_
  intro args v h N hG
  unfold spQAdd at hG
  split at hG
  case h_2 => cases hG
  rename_i s n d t m e
  split at hG
  case isFalse => cases hG
  rename_i hl
  obtain ⟨h1, h2, h3, h4⟩ := hl
  have n2 : n.length ≤ 1099511627776 := by omega
  have d2 : d.length ≤ 1099511627776 := by omega
  have m2 : m.length ≤ 1099511627776 := by omega
  have e2 : e.length ≤ 1099511627776 := by omega
  have n3 := len_sv (s := s) h1
  have m3 := len_sv (s := t) h3
  have d3 : (bl (dv d).natAbs).length ≤ 8589934593 := len_dv (by omega)
  have e3 : (bl (dv e).natAbs).length ≤ 8589934593 := len_dv (by omega)
  have n4 := Nat.le_trans n3 (by omega : 8589934592 ≤ 34359738368)
  have m4 := Nat.le_trans m3 (by omega : 8589934592 ≤ 34359738368)
  have d4 := Nat.le_trans d3 (by omega : 8589934593 ≤ 34359738368)
  have e4 := Nat.le_trans e3 (by omega : 8589934593 ≤ 34359738368)
  have q1 := len_mul n3 e3
  have q2 := len_mul m3 d3
  have q3 : (bl (dv d * dv e).natAbs).length ≤ 34359738368 := Nat.le_trans (len_mul d3 e3) (by omega)
  have q4 : ¬ (dv d * dv e).natAbs = 0 := by have := Int.mul_pos (dv_pos d) (dv_pos e); omega
  have q5 : (bl (sv s n * dv e + sv t m * dv d).natAbs).length ≤ 34359738368 := Nat.le_trans (len_add q1 q2) (by omega)
  have q6 : (bl (sv s n * dv e).natAbs).length ≤ 68719476736 := Nat.le_trans q1 (by omega)
  have q7 : (bl (sv t m * dv d).natAbs).length ≤ 68719476736 := Nat.le_trans q2 (by omega)
  unfold rv at hG
  rw [Rat.divInt_add_divInt _ _ (by have := dv_pos d; omega) (by have := dv_pos e; omega)] at hG
  cases hG
  refine ⟨rfl, by simp, ?_⟩
  simp only [c30, G0, Nat.reduceAdd]
  simp only [↓R0, R1, simprocAttr, -Int.reduceAbs, spQParts, spIMul, spIAdd, spQMade, n2, d2, m2, e2, n4, m4, d4, e4, q3, q4, q5, q6, q7, nl_bl, Fin, isEnd, resL, res1, iE, rE]
  exact ⟨_, rfl, rfl, fun k hk => by simp only [ne_nb hk, if_false]⟩
def spQMul : List Value → Option Value
  | [.agg ⟨[.bool s, .string ⟨⟨n⟩⟩, .string ⟨⟨d⟩⟩]⟩, .agg ⟨[.bool t, .string ⟨⟨m⟩⟩, .string ⟨⟨e⟩⟩]⟩] => if n.length ≤ 8589934592 ∧ d.length ≤ 8589934592 ∧ m.length ≤ 8589934592 ∧ e.length ≤ 8589934592 then some (.agg ⟨rE (rv s n d * rv t m e)⟩) else none
  | _ => none
def c32 : ICode :=
  (.seq (.reg [qq 2 (.box 30 3 (.t 0)), qq 3 (.box 30 3 (.t 1)), qq 4 (.alloc 30 3 [(.bool false), e0, e0])]) (.seq (.reg [qq 10 (.load true 3 (.t 2)), qq 11 (.call 44 [(.t 10)]), qq 9 (.mv (.t 11)), qq 12 (.ext (.t 9) 0), qq 13 (.ext (.t 9) 1), qq 5 (.alloc 53 2 [(.bool false), e0]), qq 6 (.alloc 53 2 [(.bool false), e0]), qn (.store 2 (.t 5) (.t 12)), qn (.store 2 (.t 6) (.t 13))]) (.seq (.reg [qq 15 (.load true 3 (.t 3)), qq 16 (.call 44 [(.t 15)]), qq 14 (.mv (.t 16)), qq 17 (.ext (.t 14) 0), qq 18 (.ext (.t 14) 1), qq 7 (.alloc 53 2 [(.bool false), e0]), qq 8 (.alloc 53 2 [(.bool false), e0]), qn (.store 2 (.t 7) (.t 17)), qn (.store 2 (.t 8) (.t 18))]) (.seq (.dreg [qu 19 (.load true 2 (.t 5)), qu 20 (.load true 2 (.t 7)), qu 21 (.call 57 [(.t 19), (.t 20)]), qv 22 [2] (.load true 2 (.t 6)), qv 23 [2] (.load true 2 (.t 8)), qu 24 (.call 57 [(.t 22), (.t 23)]), qu 25 (.call 46 [(.t 21), (.t 24)]), qm (.store 3 (.t 4) (.t 25))]) .ret))))
theorem tr32 : trFun Tryz.prog 32 = some ⟨26, [.cell 4 true 3], c32⟩ := by kernel_rfl
theorem ok_qMul : SpecOK Tryz.prog 32 (flat spQMul) := by
  refine flat_run (env_cons ok_qParts (env_cons ok_iMul (env_cons ok_qMade (env_nil _)))) mixed tr32 ?_
  intro args v h N hG
  unfold spQMul at hG
  split at hG
  case h_2 => cases hG
  rename_i s n d t m e
  split at hG
  case isFalse => cases hG
  rename_i hl
  obtain ⟨h1, h2, h3, h4⟩ := hl
  have n2 : n.length ≤ 1099511627776 := by omega
  have d2 : d.length ≤ 1099511627776 := by omega
  have m2 : m.length ≤ 1099511627776 := by omega
  have e2 : e.length ≤ 1099511627776 := by omega
  have n3 := len_sv (s := s) h1
  have m3 := len_sv (s := t) h3
  have d3 : (bl (dv d).natAbs).length ≤ 8589934593 := len_dv (by omega)
  have e3 : (bl (dv e).natAbs).length ≤ 8589934593 := len_dv (by omega)
  have n4 := Nat.le_trans n3 (by omega : 8589934592 ≤ 34359738368)
  have m4 := Nat.le_trans m3 (by omega : 8589934592 ≤ 34359738368)
  have d4 := Nat.le_trans d3 (by omega : 8589934593 ≤ 34359738368)
  have e4 := Nat.le_trans e3 (by omega : 8589934593 ≤ 34359738368)
  have q1 : (bl (sv s n * sv t m).natAbs).length ≤ 34359738368 := Nat.le_trans (len_mul n3 m3) (by omega)
  have q3 : (bl (dv d * dv e).natAbs).length ≤ 34359738368 := Nat.le_trans (len_mul d3 e3) (by omega)
  have q4 : ¬ (dv d * dv e).natAbs = 0 := by have := Int.mul_pos (dv_pos d) (dv_pos e); omega
  unfold rv at hG
  rw [Rat.divInt_mul_divInt] at hG
  cases hG
  refine ⟨rfl, by simp, ?_⟩
  simp only [c32, G0, Nat.reduceAdd]
  simp only [↓R0, R1, simprocAttr, -Int.reduceAbs, spQParts, spIMul, spQMade, n2, d2, m2, e2, n4, m4, d4, e4, q1, q3, q4, nl_bl, Fin, isEnd, resL, res1, iE, rE]
  exact ⟨_, rfl, rfl, fun k hk => by simp only [ne_nb hk, if_false]⟩
def spQDiv : List Value → Option Value
  | [.agg ⟨[.bool s, .string ⟨⟨n⟩⟩, .string ⟨⟨d⟩⟩]⟩, .agg ⟨[.bool t, .string ⟨⟨m⟩⟩, .string ⟨⟨e⟩⟩]⟩] => if n.length ≤ 8589934592 ∧ d.length ≤ 8589934592 ∧ m.length ≤ 8589934592 ∧ e.length ≤ 8589934592 then
      (if nl m = 0 then some (.tuple ⟨[.agg ⟨[.bool false, .string ⟨⟨[]⟩⟩, .string ⟨⟨[]⟩⟩]⟩, .bool false]⟩) else some (.tuple ⟨[.agg ⟨rE (rv s n d / rv t m e)⟩, .bool true]⟩)) else none
  | _ => none
def c33 : ICode :=
  (.seq (.reg [qq 2 (.box 30 3 (.t 0)), qq 3 (.box 30 3 (.t 1)), qq 4 (.alloc 30 3 [(.bool false), e0, e0]), qq 5 (.mv (.c (.bool false)))]) (.seq (.reg [qq 11 (.load true 3 (.t 2)), qq 12 (.call 44 [(.t 11)]), qq 10 (.mv (.t 12)), qq 13 (.ext (.t 10) 0), qq 14 (.ext (.t 10) 1), qq 6 (.alloc 53 2 [(.bool false), e0]), qq 7 (.alloc 53 2 [(.bool false), e0]), qn (.store 2 (.t 6) (.t 13)), qn (.store 2 (.t 7) (.t 14))]) (.seq (.reg [qq 16 (.load true 3 (.t 3)), qq 17 (.call 44 [(.t 16)]), qq 15 (.mv (.t 17)), qq 18 (.ext (.t 15) 0), qq 19 (.ext (.t 15) 1), qq 8 (.alloc 53 2 [(.bool false), e0]), qq 9 (.alloc 53 2 [(.bool false), e0]), qn (.store 2 (.t 8) (.t 18)), qn (.store 2 (.t 9) (.t 19))]) (.seq (.dreg [qu 20 (.load true 2 (.t 6)), qu 21 (.load true 2 (.t 9)), qu 22 (.call 57 [(.t 20), (.t 21)]), qv 23 [2] (.load true 2 (.t 7)), qv 24 [2] (.load true 2 (.t 8)), qu 25 (.call 57 [(.t 23), (.t 24)]), qu 26 (.call 59 [(.t 22), (.t 25)]), qu 27 (.ext (.t 26) 0), qu 28 (.ext (.t 26) 1), qm (.store 3 (.t 4) (.t 27)), qu 5 (.mv (.t 28))]) .ret))))
theorem tr33 : trFun Tryz.prog 33 = some ⟨29, [.cell 4 true 3, .t 5], c33⟩ := by kernel_rfl
theorem ok_qDiv : SpecOK Tryz.prog 33 (flat spQDiv) := by
  refine flat_run (env_cons ok_qParts (env_cons ok_iMul (env_cons ok_qMake (env_nil _)))) mixed tr33 ?_
  intro args v h N hG
  unfold spQDiv at hG
  split at hG
  case h_2 => cases hG
  rename_i s n d t m e
  split at hG
  case isFalse => cases hG
  rename_i hl
  obtain ⟨h1, h2, h3, h4⟩ := hl
  have n2 : n.length ≤ 1099511627776 := by omega
  have d2 : d.length ≤ 1099511627776 := by omega
  have m2 : m.length ≤ 1099511627776 := by omega
  have e2 : e.length ≤ 1099511627776 := by omega
  have n3 := len_sv (s := s) h1
  have m3 := len_sv (s := t) h3
  have d3 : (bl (dv d).natAbs).length ≤ 8589934593 := len_dv (by omega)
  have e3 : (bl (dv e).natAbs).length ≤ 8589934593 := len_dv (by omega)
  have n4 := Nat.le_trans n3 (by omega : 8589934592 ≤ 34359738368)
  have m4 := Nat.le_trans m3 (by omega : 8589934592 ≤ 34359738368)
  have d4 := Nat.le_trans d3 (by omega : 8589934593 ≤ 34359738368)
  have e4 := Nat.le_trans e3 (by omega : 8589934593 ≤ 34359738368)
  have q1 : (bl (sv s n * dv e).natAbs).length ≤ 34359738368 := Nat.le_trans (len_mul n3 e3) (by omega)
  have q3 : (bl (dv d * sv t m).natAbs).length ≤ 34359738368 := Nat.le_trans (len_mul d3 m3) (by omega)
  split at hG
  · rename_i h0
    have z0 : sv t m = 0 := (sv_eq_zero t m).2 h0
    have q4 : (Int.natAbs 0) = 0 := rfl
    have z1 : (bl 0).length ≤ 34359738368 := by rw [bl_zero]; exact Nat.zero_le _
    rw [z0] at q3 m4
    simp only [Int.mul_zero] at q3
    cases hG
    refine ⟨rfl, by simp, ?_⟩
    simp only [c33, G0, Nat.reduceAdd]
    simp only [↓R0, R1, simprocAttr, -Int.reduceAbs, spQParts, spIMul, spQMake, n2, d2, m2, e2, n4, m4, d4, e4, z0, z1, sv_zero', Int.mul_zero, q1, q3, q4, nl_bl, Fin, isEnd, resL, res1, iE, rE]
    exact ⟨_, rfl, rfl, fun k hk => by simp only [ne_nb hk, if_false]⟩
  rename_i h0
  have z0 : sv t m ≠ 0 := fun e => h0 ((sv_eq_zero t m).1 e)
  have q4 : ((dv d * sv t m).natAbs = 0) = False := eq_false (by have := Int.mul_ne_zero (by have := dv_pos d; omega : dv d ≠ 0) z0; omega)
  rw [Rat.div_def] at hG
  unfold rv at hG
  rw [Rat.inv_divInt, Rat.divInt_mul_divInt] at hG
  cases hG
  refine ⟨rfl, by simp, ?_⟩
  simp only [c33, G0, Nat.reduceAdd]
  simp only [↓R0, R1, simprocAttr, -Int.reduceAbs, spQParts, spIMul, spQMake, n2, d2, m2, e2, n4, m4, d4, e4, q1, q3, q4, nl_bl, Fin, isEnd, resL, res1, iE, rE]
  exact ⟨_, rfl, rfl, fun k hk => by simp only [ne_nb hk, if_false]⟩
def spQSub : List Value → Option Value
  | [.agg ⟨[.bool s, .string ⟨⟨n⟩⟩, .string ⟨⟨d⟩⟩]⟩, .agg ⟨[.bool t, .string ⟨⟨m⟩⟩, .string ⟨⟨e⟩⟩]⟩] => if n.length ≤ 8589934592 ∧ d.length ≤ 8589934592 ∧ m.length ≤ 8589934592 ∧ e.length + 1 ≤ 8589934592 then some (.agg ⟨rE (rv s n d - rv t m e)⟩) else none
  | _ => none
def c31 : ICode :=
  (.seq (.reg [qq 2 (.box 30 3 (.t 0)), qq 3 (.box 30 3 (.t 1)), qq 4 (.alloc 30 3 [(.bool false), e0, e0])]) (.seq (.dreg [qu 5 (.load true 3 (.t 2)), qu 6 (.load true 3 (.t 3)), qu 7 (.call 58 [(.t 6)]), qu 8 (.call 30 [(.t 5), (.t 7)]), qm (.store 3 (.t 4) (.t 8))]) .ret))
theorem tr31 : trFun Tryz.prog 31 = some ⟨9, [.cell 4 true 3], c31⟩ := by kernel_rfl
theorem ok_qSub : SpecOK Tryz.prog 31 (flat spQSub) := by
  refine flat_run (env_cons ok_qNeg (env_cons ok_qAdd (env_nil _))) mixed tr31 ?_
  intro args v h N hG
  unfold spQSub at hG
  split at hG
  case h_2 => cases hG
  rename_i s n d t m e
  split at hG
  case isFalse => cases hG
  rename_i hl
  obtain ⟨h1, h2, h3, h4⟩ := hl
  cases hG
  refine ⟨rfl, by simp, ?_⟩
  have m2 : m.length ≤ 17179869184 := by omega
  have e2 : e.length ≤ 17179869184 := by omega
  obtain ⟨g1, g2⟩ := divInt_le (N := sv t m) (dv_pos e)
  have m3 : (bl (-rv t m e).num.natAbs).length ≤ 8589934592 := by
    rw [(len_rneg _).1]; exact Nat.le_trans (bl_length_mono g1) (len_sv h3)
  have e3 : (if (-rv t m e).den = 1 then ([] : List UInt8) else bl (-rv t m e).den).length ≤ 8589934592 := by
    refine len_den _ ?_
    rw [(len_rneg _).2]; exact Nat.le_trans (bl_length_mono g2) (Nat.le_trans (bl_dv e) h4)
  rw [Rat.sub_eq_add_neg]
  simp only [c31, G0, Nat.reduceAdd]
  simp only [↓R0, R1, simprocAttr, -Int.reduceAbs, spQNeg, spQAdd, h1, h2, m2, e2, m3, e3, rE, rv_can, Fin, isEnd, resL, res1, iE, rE]
  exact ⟨_, rfl, rfl, fun k hk => by simp only [ne_nb hk, if_false]⟩
def spQCmp : List Value → Option Value
  | [.agg ⟨[.bool s, .string ⟨⟨n⟩⟩, .string ⟨⟨d⟩⟩]⟩, .agg ⟨[.bool t, .string ⟨⟨m⟩⟩, .string ⟨⟨e⟩⟩]⟩] => if n.length ≤ 8589934592 ∧ d.length ≤ 8589934592 ∧ m.length ≤ 8589934592 ∧ e.length ≤ 8589934592 then some (.int .i64 (rv s n d - rv t m e).num.sign) else none
  | _ => none
def c42 : ICode :=
  (.seq (.reg [qq 2 (.box 30 3 (.t 0)), qq 3 (.box 30 3 (.t 1)), qq 4 (.mv (ci 0))]) (.seq (.reg [qq 10 (.load true 3 (.t 2)), qq 11 (.call 44 [(.t 10)]), qq 9 (.mv (.t 11)), qq 12 (.ext (.t 9) 0), qq 13 (.ext (.t 9) 1), qq 5 (.alloc 53 2 [(.bool false), e0]), qq 6 (.alloc 53 2 [(.bool false), e0]), qn (.store 2 (.t 5) (.t 12)), qn (.store 2 (.t 6) (.t 13))]) (.seq (.reg [qq 15 (.load true 3 (.t 3)), qq 16 (.call 44 [(.t 15)]), qq 14 (.mv (.t 16)), qq 17 (.ext (.t 14) 0), qq 18 (.ext (.t 14) 1), qq 7 (.alloc 53 2 [(.bool false), e0]), qq 8 (.alloc 53 2 [(.bool false), e0]), qn (.store 2 (.t 7) (.t 17)), qn (.store 2 (.t 8) (.t 18))]) (.seq (.dreg [qu 19 (.load true 2 (.t 5)), qu 20 (.load true 2 (.t 8)), qu 21 (.call 57 [(.t 19), (.t 20)]), qv 22 [2] (.load true 2 (.t 7)), qv 23 [2] (.load true 2 (.t 6)), qu 24 (.call 57 [(.t 22), (.t 23)]), qu 25 (.call 65 [(.t 21), (.t 24)]), qu 4 (.mv (.t 25))]) .ret))))
theorem tr42 : trFun Tryz.prog 42 = some ⟨26, [.t 4], c42⟩ := by kernel_rfl
theorem ok_qCmp : SpecOK Tryz.prog 42 (flat spQCmp) := by
  refine flat_run (env_cons ok_qParts (env_cons ok_iMul (env_cons ok_iCmp (env_nil _)))) mixed tr42 ?_
  intro args v h N hG
  unfold spQCmp at hG
  split at hG
  case h_2 => cases hG
  rename_i s n d t m e
  split at hG
  case isFalse => cases hG
  rename_i hl
  obtain ⟨h1, h2, h3, h4⟩ := hl
  have n2 : n.length ≤ 1099511627776 := by omega
  have d2 : d.length ≤ 1099511627776 := by omega
  have m2 : m.length ≤ 1099511627776 := by omega
  have e2 : e.length ≤ 1099511627776 := by omega
  have n3 := len_sv (s := s) h1
  have m3 := len_sv (s := t) h3
  have d3 : (bl (dv d).natAbs).length ≤ 8589934593 := len_dv (by omega)
  have e3 : (bl (dv e).natAbs).length ≤ 8589934593 := len_dv (by omega)
  have n4 := Nat.le_trans n3 (by omega : 8589934592 ≤ 34359738368)
  have m4 := Nat.le_trans m3 (by omega : 8589934592 ≤ 34359738368)
  have d4 := Nat.le_trans d3 (by omega : 8589934593 ≤ 34359738368)
  have e4 := Nat.le_trans e3 (by omega : 8589934593 ≤ 34359738368)
  have q1 : (bl (sv s n * dv e).natAbs).length ≤ 68719476736 := Nat.le_trans (len_mul n3 e3) (by omega)
  have q2 : (bl (sv t m * dv d).natAbs).length ≤ 68719476736 := Nat.le_trans (len_mul m3 d3) (by omega)
  have q3 := sub_sign (a := sv s n) (c := sv t m) (dv_pos d) (dv_pos e)
  unfold rv at hG
  rw [q3] at hG
  cases hG
  refine ⟨rfl, by simp, ?_⟩
  simp only [c42, G0, Nat.reduceAdd]
  simp only [↓R0, R1, simprocAttr, -Int.reduceAbs, spQParts, spIMul, spICmp, n2, d2, m2, e2, n4, m4, d4, e4, q1, q2, nl_bl, Fin, isEnd, resL, res1, iE, rE]
  exact ⟨_, rfl, rfl, fun k hk => by simp only [ne_nb hk, if_false]⟩
def spQFrom : List Value → Option Value
  | [.int .i64 n] => if -9223372036854775808 ≤ n ∧ n ≤ 9223372036854775807 then some (.agg ⟨rE (n : Rat)⟩) else none
  | _ => none
def c19 : ICode :=
  (.seq (.reg [qq 2 (.alloc 30 3 [(.bool false), e0, e0])]) (.seq (.reg [qq 3 (.mv (.t 0)), qq 4 (.call 47 [(.t 3)]), qq 5 (.call 47 [(ci 1)]), qq 6 (.call 46 [(.t 4), (.t 5)]), qn (.store 3 (.t 2) (.t 6))]) .ret))
theorem tr19 : trFun Tryz.prog 19 = some ⟨7, [.cell 2 true 3], c19⟩ := by kernel_rfl
theorem len8 {n : Int} (h1 : -9223372036854775808 ≤ n) (h2 : n ≤ 9223372036854775807) : (bl n.natAbs).length ≤ 8 :=
  bl_length_le.2 (Nat.lt_of_le_of_lt (by omega : n.natAbs ≤ 9223372036854775808) (by decide))
theorem ok_qFrom : SpecOK Tryz.prog 19 (flat spQFrom) := by
  refine flat_run (env_cons ok_iFrom (env_cons ok_qMade (env_nil _))) mixed tr19 ?_
  intro args v h N hG
  unfold spQFrom at hG
  split at hG
  case h_2 => cases hG
  rename_i n
  split at hG
  case isFalse => cases hG
  rename_i hl
  obtain ⟨h1, h2⟩ := hl
  have n1 := Nat.le_trans (len8 h1 h2) (by omega : 8 ≤ 34359738368)
  have o1 : (bl (Int.natAbs 1)).length ≤ 34359738368 := Nat.le_trans (bl_length_le (k := 1).2 (by decide)) (by omega)
  have o2 : (Int.natAbs 1 = 0) = False := eq_false (by decide)
  rw [← divInt_one] at hG
  cases hG
  refine ⟨rfl, by simp, ?_⟩
  simp only [c19, G0, Nat.reduceAdd]
  simp only [↓R0, R1, simprocAttr, -Int.reduceAbs, spIFrom, h1, h2, spQMade, n1, o1, o2, sv_one', nl_bl, Fin, isEnd, resL, res1, iE, rE]
  exact ⟨_, rfl, rfl, fun k hk => by simp only [ne_nb hk, if_false]⟩
end Go.Eng
end
section
set_option linter.unusedVariables false
set_option linter.unusedSimpArgs false
set_option linter.unusedSectionVars false
namespace Go.Eng
abbrev P2 := Rat × Rat
def cr (a b x : P2) : Rat := (b.1 - a.1) * (x.2 - a.2) - (b.2 - a.2) * (x.1 - a.1)
theorem cr_swap (a b x : P2) : cr b a x = - cr a b x := by unfold cr; grind
theorem cr_rot (a b x : P2) : cr b x a = cr a b x := by unfold cr; grind
theorem cr_flip (a b x : P2) : cr a x b = - cr a b x := by unfold cr; grind
theorem cr_a (a b : P2) : cr a b a = 0 := by unfold cr; grind
theorem cr_b (a b : P2) : cr a b b = 0 := by unfold cr; grind
def at2 (a b : P2) (t : Rat) : P2 := (a.1 + t * (b.1 - a.1), a.2 + t * (b.2 - a.2))
theorem at2_0 (a b : P2) : at2 a b 0 = a := by unfold at2; ext <;> simp <;> grind
theorem at2_1 (a b : P2) : at2 a b 1 = b := by unfold at2; ext <;> simp <;> grind
theorem at2_swap (a b : P2) (t : Rat) : at2 a b t = at2 b a (1 - t) := by unfold at2; ext <;> simp <;> grind
theorem at2_at2l (a b : P2) (t s : Rat) : at2 a (at2 a b t) s = at2 a b (s * t) := by unfold at2; ext <;> simp <;> grind
theorem at2_at2r (a b : P2) (t s : Rat) : at2 (at2 a b t) b s = at2 a b (t + s * (1 - t)) := by unfold at2; ext <;> simp <;> grind
theorem at2_inj {a b : P2} (h : a ≠ b) {t s : Rat} (e : at2 a b t = at2 a b s) : t = s := by
  unfold at2 at e
  injection e with e1 e2
  by_cases c1 : b.1 - a.1 = 0
  · by_cases c2 : b.2 - a.2 = 0
    · exact absurd (Prod.ext (by grind) (by grind)) h
    · have : (t - s) * (b.2 - a.2) = 0 := by grind
      rcases Rat.mul_eq_zero.1 this with x | x
      · grind
      · exact absurd x c2
  · have : (t - s) * (b.1 - a.1) = 0 := by grind
    rcases Rat.mul_eq_zero.1 this with x | x
    · grind
    · exact absurd x c1
theorem cr_at2 (a b : P2) (t : Rat) : cr a b (at2 a b t) = 0 := by unfold cr at2; grind
theorem cr_at2l (a b x : P2) (t : Rat) : cr a (at2 a b t) x = t * cr a b x := by unfold cr at2; grind
theorem cr_at2r (a b x : P2) (t : Rat) : cr (at2 a b t) b x = (1 - t) * cr a b x := by unfold cr at2; grind
theorem cr_lin (a b c d : P2) (t : Rat) : cr a b (at2 c d t) = (1 - t) * cr a b c + t * cr a b d := by unfold cr at2; grind
theorem col_at2 {a b x : P2} (h : a ≠ b) (hc : cr a b x = 0) : ∃ t, x = at2 a b t := by
  unfold cr at hc
  by_cases c1 : b.1 - a.1 = 0
  · have c2 : b.2 - a.2 ≠ 0 := fun c2 => h (Prod.ext (by grind) (by grind))
    refine ⟨(x.2 - a.2) / (b.2 - a.2), ?_⟩
    have e := Rat.div_mul_cancel (a := x.2 - a.2) c2
    unfold at2
    refine Prod.ext ?_ ?_
    · show x.1 = _
      have : (b.2 - a.2) * (x.1 - a.1) = 0 := by rw [c1] at hc; grind
      rcases Rat.mul_eq_zero.1 this with y | y
      · exact absurd y c2
      · rw [c1]; grind
    · show x.2 = _
      rw [e]; grind
  · refine ⟨(x.1 - a.1) / (b.1 - a.1), ?_⟩
    have e := Rat.div_mul_cancel (a := x.1 - a.1) c1
    unfold at2
    refine Prod.ext ?_ ?_
    · show x.1 = _
      rw [e]; grind
    · show x.2 = _
      have : (b.1 - a.1) * (x.2 - (a.2 + (x.1 - a.1) / (b.1 - a.1) * (b.2 - a.2))) = 0 := by
        generalize (x.1 - a.1) / (b.1 - a.1) = q at *
        grind
      rcases Rat.mul_eq_zero.1 this with y | y
      · exact absurd y c1
      · grind
def opn (a b x : P2) : Prop := ∃ t : Rat, 0 < t ∧ t < 1 ∧ x = at2 a b t
theorem opn_swap {a b x : P2} : opn a b x ↔ opn b a x := by
  constructor <;> rintro ⟨t, h1, h2, rfl⟩ <;> exact ⟨1 - t, by grind, by grind, at2_swap _ _ _⟩
theorem opn_cr {a b x : P2} (h : opn a b x) : cr a b x = 0 := by obtain ⟨t, _, _, rfl⟩ := h; exact cr_at2 a b t
theorem opn_a {a b : P2} (h : a ≠ b) : ¬ opn a b a := fun ⟨t, h1, _, e⟩ => by
  rw [show at2 a b t = at2 a b t from rfl] at e
  have := at2_inj h ((at2_0 a b).trans e)
  grind
theorem opn_b {a b : P2} (h : a ≠ b) : ¬ opn a b b := fun x => opn_a (fun e => h e.symm) (opn_swap.1 x)
theorem rat_mul_lt {s t : Rat} (h0 : 0 < t) (h1 : s < 1) : s * t < t := by
  have := Rat.mul_lt_mul_of_pos_right h1 h0
  rw [Rat.one_mul] at this; exact this
theorem opn_split {u v d x : P2} (hd : opn u v d) : opn u v x ↔ opn u d x ∨ x = d ∨ opn d v x := by
  obtain ⟨t, t0, t1, rfl⟩ := hd
  have nt : t ≠ 0 := by grind
  have nt1 : 1 - t ≠ 0 := by grind
  constructor
  · rintro ⟨s, s0, s1, rfl⟩
    rcases Rat.le_total (a := s) (b := t) with h | h
    · by_cases e : s = t
      · exact .inr (.inl (by rw [e]))
      · refine .inl ⟨s / t, ?_, ?_, ?_⟩
        · rw [Rat.lt_div_iff t0]; grind
        · rw [Rat.div_lt_iff t0]; grind
        · rw [at2_at2l, Rat.div_mul_cancel nt]
    · by_cases e : s = t
      · exact .inr (.inl (by rw [e]))
      · refine .inr (.inr ⟨(s - t) / (1 - t), ?_, ?_, ?_⟩)
        · rw [Rat.lt_div_iff (by grind)]; grind
        · rw [Rat.div_lt_iff (by grind)]; grind
        · rw [at2_at2r, Rat.div_mul_cancel nt1]; congr 1; grind
  · rintro (⟨s, s0, s1, rfl⟩ | rfl | ⟨s, s0, s1, rfl⟩)
    · rw [at2_at2l]
      have := rat_mul_lt t0 s1
      exact ⟨s * t, Rat.mul_pos s0 t0, by grind, rfl⟩
    · exact ⟨t, t0, t1, rfl⟩
    · rw [at2_at2r]
      have h1 : 0 < 1 - t := by grind
      have := rat_mul_lt h1 s1
      have := Rat.mul_pos s0 h1
      exact ⟨_, by grind, by grind, rfl⟩
theorem col_cases {a b x : P2} (h : a ≠ b) (hc : cr a b x = 0) (ha : x ≠ a) (hb : x ≠ b) : opn a b x ∨ opn a x b ∨ opn x b a := by
  obtain ⟨t, rfl⟩ := col_at2 h hc
  have n0 : t ≠ 0 := fun e => ha (by rw [e, at2_0])
  have n1 : t ≠ 1 := fun e => hb (by rw [e, at2_1])
  rcases Rat.le_total (a := t) (b := 0) with c | c
  · refine .inr (.inr ?_)
    refine ⟨(-t) / (1 - t), ?_, ?_, ?_⟩
    · rw [Rat.lt_div_iff (by grind)]; grind
    · rw [Rat.div_lt_iff (by grind)]; grind
    · rw [at2_at2r, Rat.div_mul_cancel (by grind)]
      have : t + -t = 0 := by grind
      rw [this, at2_0]
  · rcases Rat.le_total (a := t) (b := 1) with c' | c'
    · exact .inl ⟨t, by grind, by grind, rfl⟩
    · refine .inr (.inl ⟨1 / t, ?_, ?_, ?_⟩)
      · rw [Rat.lt_div_iff (by grind)]; grind
      · rw [Rat.div_lt_iff (by grind)]; grind
      · rw [at2_at2l, Rat.div_mul_cancel n0, at2_1]
theorem opn_par {u v d : P2} (hd : opn u v d) : ∃ t : Rat, 0 < t ∧ t < 1 ∧ (∀ x, cr u d x = t * cr u v x) ∧ ∀ x, cr d v x = (1 - t) * cr u v x := by
  obtain ⟨t, t0, t1, rfl⟩ := hd
  exact ⟨t, t0, t1, fun x => cr_at2l _ _ _ _, fun x => cr_at2r _ _ _ _⟩
theorem cross_pt {a b c d : P2} (h1 : 0 < cr a b c ∧ cr a b d < 0 ∨ cr a b c < 0 ∧ 0 < cr a b d) (h2 : 0 < cr c d a ∧ cr c d b < 0 ∨ cr c d a < 0 ∧ 0 < cr c d b) : ∃ x, opn a b x ∧ opn c d x := by
  have e : cr c d a - cr c d b = -(cr a b c - cr a b d) := by unfold cr; grind
  have i1 : a.1 * (cr a b c - cr a b d) - cr c d a * (b.1 - a.1) = c.1 * (cr a b c - cr a b d) + cr a b c * (d.1 - c.1) := by unfold cr; grind
  have i2 : a.2 * (cr a b c - cr a b d) - cr c d a * (b.2 - a.2) = c.2 * (cr a b c - cr a b d) + cr a b c * (d.2 - c.2) := by unfold cr; grind
  generalize cr a b c = P at *
  generalize cr a b d = Q at *
  generalize cr c d a = R at *
  generalize cr c d b = S at *
  have nD : P - Q ≠ 0 := by grind
  have frac : ∀ {p q : Rat}, (0 < p ∧ q < 0 ∨ p < 0 ∧ 0 < q) → 0 < p / (p - q) ∧ p / (p - q) < 1 := by
    intro p q h
    rcases h with ⟨x, y⟩ | ⟨x, y⟩
    · exact ⟨by rw [Rat.lt_div_iff (by grind)]; grind, by rw [Rat.div_lt_iff (by grind)]; grind⟩
    · have e : p / (p - q) = (-p) / (q - p) := by
        have n1 : p - q ≠ 0 := by grind
        have n2 : q - p ≠ 0 := by grind
        have a1 := Rat.div_mul_cancel (a := p) n1
        have a2 := Rat.div_mul_cancel (a := -p) n2
        generalize p / (p - q) = X at *
        generalize -p / (q - p) = Y at *
        have : (X - Y) * (p - q) = 0 := by grind
        rcases Rat.mul_eq_zero.1 this with z | z
        · grind
        · exact absurd z n1
      rw [e]
      exact ⟨by rw [Rat.lt_div_iff (by grind)]; grind, by rw [Rat.div_lt_iff (by grind)]; grind⟩
  obtain ⟨s0, s1⟩ := frac h1
  obtain ⟨t0, t1⟩ := frac h2
  have es := Rat.div_mul_cancel (a := P) nD
  have et := Rat.div_mul_cancel (a := R) (b := R - S) (by grind)
  refine ⟨at2 a b (R / (R - S)), ⟨_, t0, t1, rfl⟩, ⟨_, s0, s1, ?_⟩⟩
  generalize P / (P - Q) = s at *
  generalize R / (R - S) = t at *
  have cancel : ∀ {x : Rat}, x * (P - Q) = 0 → x = 0 := fun {x} h => by
    rcases Rat.mul_eq_zero.1 h with z | z
    · exact z
    · exact absurd z nD
  unfold at2
  refine Prod.ext ?_ ?_
  · show a.1 + t * (b.1 - a.1) = c.1 + s * (d.1 - c.1)
    have : (a.1 + t * (b.1 - a.1) - (c.1 + s * (d.1 - c.1))) * (P - Q) = 0 := by grind
    have := cancel this
    grind
  · show a.2 + t * (b.2 - a.2) = c.2 + s * (d.2 - c.2)
    have : (a.2 + t * (b.2 - a.2) - (c.2 + s * (d.2 - c.2))) * (P - Q) = 0 := by grind
    have := cancel this
    grind
end Go.Eng
end
section
set_option linter.unusedVariables false
set_option linter.unusedSimpArgs false
set_option linter.unusedSectionVars false
namespace Go.Eng
def trp (z : P2) : P2 → P2 → List P2 → List (P2 × P2 × P2)
  | p, a, [] => [(p, a, z)]
  | p, a, b :: t => (p, a, b) :: trp z a b t
def lst : P2 → List P2 → P2
  | a, [] => a
  | _, b :: t => lst b t
def cor : List P2 → List (P2 × P2 × P2)
  | [] => []
  | a :: t => trp a (lst a t) a t
theorem lst_snoc (c : P2) : ∀ (a : P2) (t : List P2), lst a (t ++ [c]) = c
  | _, [] => rfl
  | _, b :: t => lst_snoc c b t
theorem tri_snoc (z c : P2) : ∀ (p a : P2) (t : List P2), trp z p a (t ++ [c]) = trp c p a t ++ [(lst a t, c, z)]
  | _, _, [] => rfl
  | p, a, b :: t => by
    show (p, a, b) :: trp z a b (t ++ [c]) = (p, a, b) :: (trp c a b t ++ [(lst b t, c, z)])
    rw [tri_snoc z c a b t]
theorem tri_len (z : P2) : ∀ (p a : P2) (t : List P2), (trp z p a t).length = t.length + 1
  | _, _, [] => rfl
  | p, a, b :: t => by
    show (trp z a b t).length + 1 = _
    rw [tri_len z a b t]; rfl
theorem cor_len (l : List P2) : (cor l).length = l.length := by
  cases l with
  | nil => rfl
  | cons a t => exact tri_len _ _ _ _
theorem tri_cur (z : P2) : ∀ (p a : P2) (t : List P2), (trp z p a t).map (fun c => c.2.1) = a :: t
  | _, _, [] => rfl
  | p, a, b :: t => by
    show a :: (trp z a b t).map _ = _
    rw [tri_cur z a b t]
theorem cor_cur (l : List P2) : (cor l).map (fun c => c.2.1) = l := by
  cases l with
  | nil => rfl
  | cons a t => exact tri_cur _ _ _ _
theorem cor_step (a : P2) (t : List P2) : ∃ R h, cor (a :: t) = h :: R ∧ cor (t ++ [a]) = R ++ [h] := by
  cases t with
  | nil => exact ⟨[], _, rfl, rfl⟩
  | cons b t =>
    refine ⟨trp a a b t, (lst b t, a, b), rfl, ?_⟩
    show trp b (lst b (t ++ [a])) b (t ++ [a]) = _
    rw [lst_snoc, tri_snoc]
theorem cor_rot : ∀ (A B : List P2), ∃ X Y, cor (A ++ B) = X ++ Y ∧ cor (B ++ A) = Y ++ X ∧ X.length = A.length
  | [], B => ⟨[], cor B, rfl, by rw [List.append_nil, List.append_nil], rfl⟩
  | a :: A, B => by
    obtain ⟨R, h, h1, h2⟩ := cor_step a (A ++ B)
    obtain ⟨X, Y, e1, e2, e3⟩ := cor_rot A (B ++ [a])
    rw [List.append_assoc] at h2
    rw [h2] at e1
    rw [List.append_assoc] at e2
    have hy : Y ≠ [] := fun e => by
      subst e
      have l1 := congrArg List.length e2
      rw [cor_len] at l1
      simp at l1
      omega
    obtain ⟨Y', y, rfl⟩ : ∃ Y' y, Y = Y' ++ [y] := ⟨Y.dropLast, Y.getLast hy, (List.dropLast_concat_getLast hy).symm⟩
    rw [← List.append_assoc] at e1
    have e4 := List.append_inj' e1 rfl
    have e5 : h = y := by have := e4.2; simpa using this
    subst e5
    refine ⟨h :: X, Y', ?_, ?_, by simp [e3]⟩
    · rw [List.cons_append, h1, e4.1]; rfl
    · show cor (B ++ ([a] ++ A)) = _
      rw [e2]; simp
theorem cor_get : ∀ (z p a : P2) (t : List P2) (i : Nat), i < (a :: t).length → (trp z p a t)[i]? = some ((if i = 0 then p else ((a :: t)[i - 1]?).getD z), ((a :: t)[i]?).getD z, ((a :: t)[i + 1]?).getD z)
  | z, p, a, [], 0, _ => rfl
  | z, p, a, [], i + 1, h => absurd h (by simp)
  | z, p, a, b :: t, 0, _ => by rfl
  | z, p, a, b :: t, i + 1, h => by
    show (trp z a b t)[i]? = _
    rw [cor_get z a b t i (by simpa using h)]
    rw [if_neg (show ¬ i + 1 = 0 by omega)]
    cases i with
    | zero => rfl
    | succ i => rw [if_neg (show ¬ i + 1 = 0 by omega)]; rfl
def swp (c : P2 × P2 × P2) : P2 × P2 × P2 := (c.2.2, c.2.1, c.1)
theorem rev_lst (a : P2) (t : List P2) : ∃ r, (a :: t).reverse = lst a t :: r ∧ lst (lst a t) r = a ∧ ∀ z p, trp p z (lst a t) r = ((trp z p a t).map swp).reverse := by
  induction t generalizing a with
  | nil => exact ⟨[], rfl, rfl, fun _ _ => rfl⟩
  | cons b t ih =>
    obtain ⟨r, h1, h2, h3⟩ := ih b
    refine ⟨r ++ [a], ?_, lst_snoc _ _ _, fun z p => ?_⟩
    · rw [List.reverse_cons, h1]; rfl
    · show trp p z (lst b t) (r ++ [a]) = (((p, a, b) :: trp z a b t).map swp).reverse
      rw [tri_snoc, h2, h3 z a]
      simp [swp]
theorem cor_rev (l : List P2) : cor l.reverse = ((cor l).map swp).reverse := by
  cases l with
  | nil => rfl
  | cons a t =>
    obtain ⟨r, h1, h2, h3⟩ := rev_lst a t
    rw [h1]
    show trp (lst a t) (lst (lst a t) r) (lst a t) r = _
    rw [h2, h3]; rfl
def edg (l : List P2) : List (P2 × P2) := (cor l).map fun c => c.2
def pth : P2 → List P2 → List (P2 × P2)
  | _, [] => []
  | a, b :: t => (a, b) :: pth b t
theorem tri_edg (z : P2) : ∀ (p a : P2) (t : List P2), (trp z p a t).map (fun c => c.2) = pth a t ++ [(lst a t, z)]
  | _, _, [] => rfl
  | p, a, b :: t => by
    show (a, b) :: (trp z a b t).map _ = _
    rw [tri_edg z a b t]; rfl
theorem edg_cons (a : P2) (t : List P2) : edg (a :: t) = pth a t ++ [(lst a t, a)] := tri_edg _ _ _ _
theorem pth_snoc (c : P2) : ∀ (a : P2) (t : List P2), pth a (t ++ [c]) = pth a t ++ [(lst a t, c)]
  | _, [] => rfl
  | a, b :: t => by
    show (a, b) :: pth b (t ++ [c]) = (a, b) :: (pth b t ++ _)
    rw [pth_snoc c b t]; rfl
theorem edg_snoc (a : P2) (t : List P2) (d : P2) : edg (a :: (t ++ [d])) = pth a t ++ [(lst a t, d), (d, a)] := by
  rw [edg_cons, pth_snoc, lst_snoc, List.append_assoc]; rfl
theorem lst_mem : ∀ (a : P2) (t : List P2), lst a t ∈ a :: t
  | a, [] => by simp [lst]
  | a, b :: t => List.mem_cons_of_mem _ (lst_mem b t)
theorem edg_perm (A B : List P2) : (edg (A ++ B)).Perm (edg (B ++ A)) := by
  obtain ⟨X, Y, h1, h2, _⟩ := cor_rot A B
  unfold edg
  rw [h1, h2]
  exact (List.perm_append_comm).map _
structure Simp (l : List P2) : Prop where
  n3 : 3 ≤ l.length
  nd : l.Nodup
  vo : ∀ v ∈ l, ∀ e ∈ edg l, ¬ opn e.1 e.2 v
  oo : (edg l).Pairwise fun e f => ∀ x, ¬ (opn e.1 e.2 x ∧ opn f.1 f.2 x)
theorem Simp.perm {l l' : List P2} (h : Simp l) (p : l.Perm l') (q : (edg l).Perm (edg l')) : Simp l' :=
  ⟨by rw [← p.length_eq]; exact h.n3, p.nodup_iff.1 h.nd, fun v hv e he => h.vo v (p.mem_iff.2 hv) e (q.mem_iff.2 he),
    q.pairwise h.oo fun {x y} H z hz => H z ⟨hz.2, hz.1⟩⟩
theorem Simp.rot {A B : List P2} (h : Simp (A ++ B)) : Simp (B ++ A) := h.perm List.perm_append_comm (edg_perm A B)
theorem edg_rev (l : List P2) : (edg l.reverse).Perm ((edg l).map fun e => (e.2, e.1)) := by
  have h1 : edg l.reverse = (((cor l).map fun c => (c.2.1, c.1))).reverse := by
    unfold edg
    rw [cor_rev, List.map_reverse, List.map_map]; rfl
  rw [h1]
  refine (List.reverse_perm _).trans ?_
  cases l with
  | nil => exact .refl _
  | cons a t =>
    have key : ∀ (z p a : P2) (t : List P2), (trp z p a t).map (fun c => (c.2.1, c.1)) = (a, p) :: (pth a t).map fun e => (e.2, e.1) := by
      intro z p a t
      induction t generalizing p a with
      | nil => rfl
      | cons b t ih =>
        show (a, p) :: (trp z a b t).map _ = _
        rw [ih]; rfl
    show ((trp a (lst a t) a t).map _).Perm _
    rw [key, edg_cons, List.map_append]
    exact (List.perm_append_comm (l₁ := [(a, lst a t)]) (l₂ := (pth a t).map fun e => (e.2, e.1)))
theorem Simp.rev {l : List P2} (h : Simp l) : Simp l.reverse where
  n3 := by rw [List.length_reverse]; exact h.n3
  nd := (List.reverse_perm l).nodup_iff.2 h.nd
  vo := fun v hv e he => by
    have := (edg_rev l).mem_iff.1 he
    obtain ⟨f, hf, rfl⟩ := List.mem_map.1 this
    exact fun x => h.vo v (List.mem_reverse.1 hv) f hf (opn_swap.1 x)
  oo := by
    refine (edg_rev l).symm.pairwise ?_ fun {x y} H z hz => H z ⟨hz.2, hz.1⟩
    rw [List.pairwise_map]
    exact h.oo.imp fun H x hx => H x ⟨opn_swap.1 hx.1, opn_swap.1 hx.2⟩
theorem Simp.del {a : P2} {t : List P2} {d : P2} (h : Simp (a :: (t ++ [d]))) (n3 : 3 ≤ (a :: t).length) (hd : opn (lst a t) a d) : Simp (a :: t) := by
  have e0 : (a :: (t ++ [d])) = (a :: t) ++ [d] := rfl
  have sub : ∀ v ∈ a :: t, v ∈ a :: (t ++ [d]) := fun v hv => by rw [e0]; exact List.mem_append_left _ hv
  have hdm : d ∈ a :: (t ++ [d]) := by simp
  have hp : ∀ e ∈ pth a t, e ∈ edg (a :: (t ++ [d])) := fun e he => by rw [edg_snoc]; exact List.mem_append_left _ he
  have m1 : (lst a t, d) ∈ edg (a :: (t ++ [d])) := by rw [edg_snoc]; simp
  have m2 : (d, a) ∈ edg (a :: (t ++ [d])) := by rw [edg_snoc]; simp
  have nd := h.nd
  rw [e0, List.nodup_append] at nd
  have oo := h.oo
  rw [edg_snoc, List.pairwise_append] at oo
  refine ⟨n3, nd.1, ?_, ?_⟩
  · intro v hv e he
    rw [edg_cons, List.mem_append] at he
    rcases he with he | he
    · exact h.vo v (sub v hv) e (hp e he)
    · have he : e = (lst a t, a) := by simpa using he
      subst he
      intro hx
      rcases (opn_split hd).1 hx with x | x | x
      · exact h.vo v (sub v hv) _ m1 x
      · exact nd.2.2 v hv d (by simp) x
      · exact h.vo v (sub v hv) _ m2 x
  · rw [edg_cons, List.pairwise_append]
    refine ⟨oo.1, by simp, ?_⟩
    intro e he f hf x hx
    have hf : f = (lst a t, a) := by simpa using hf
    subst hf
    rcases (opn_split hd).1 hx.2 with y | y | y
    · exact oo.2.2 e he (lst a t, d) (by simp) x ⟨hx.1, y⟩
    · exact h.vo d hdm e (hp e he) (y ▸ hx.1)
    · exact oo.2.2 e he (d, a) (by simp) x ⟨hx.1, y⟩
theorem Simp.str {a : P2} {t : List P2} {d : P2} (h : Simp (a :: (t ++ [d]))) (hc : cr (lst a t) d a = 0) : opn (lst a t) a d := by
  have m1 : (lst a t, d) ∈ edg (a :: (t ++ [d])) := by rw [edg_snoc]; simp
  have m2 : (d, a) ∈ edg (a :: (t ++ [d])) := by rw [edg_snoc]; simp
  have nd := h.nd
  have e0 : (a :: (t ++ [d])) = (a :: t) ++ [d] := rfl
  have hn3 := h.n3
  rw [e0, List.nodup_append] at nd
  have nu : lst a t ≠ a := by
    have nd1 := nd.1
    cases t with
    | nil => simp at hn3
    | cons b t => exact fun e => (List.nodup_cons.1 nd1).1 (by rw [← e]; exact lst_mem b t)
  have n1 : d ≠ lst a t := fun e => nd.2.2 _ (lst_mem a t) d (by simp) e.symm
  have n2 : d ≠ a := fun e => nd.2.2 a (by simp) d (by simp) e.symm
  have hu : lst a t ∈ a :: (t ++ [d]) := by rw [e0]; exact List.mem_append_left _ (lst_mem a t)
  have ha : a ∈ a :: (t ++ [d]) := by simp
  rcases col_cases (a := lst a t) (b := a) (x := d) nu (by rw [cr_flip, hc]; rfl) n1 n2 with x | x | x
  · exact x
  · exact absurd x (h.vo a ha _ m1)
  · exact absurd x (h.vo _ hu _ m2)
end Go.Eng
end
section
set_option linter.unusedVariables false
set_option linter.unusedSimpArgs false
set_option linter.unusedSectionVars false
namespace Go.Eng
def sg (q : Rat) : Int := q.num.sign
theorem sg_zero {q : Rat} : sg q = 0 ↔ q = 0 := by
  unfold sg
  rw [Int.sign_eq_zero_iff_zero]
  exact Rat.num_eq_zero
theorem rnum_pos {q : Rat} : 0 < q.num ↔ 0 < q := by
  have a := Rat.num_nonneg (q := q)
  have b := Rat.num_eq_zero (q := q)
  constructor
  · intro h
    have h1 := a.1 (by omega)
    have h2 : q ≠ 0 := fun e => by have := b.2 e; omega
    exact Rat.lt_of_le_of_ne h1 (fun e => h2 e.symm)
  · intro h
    have h1 := a.2 (Rat.le_of_lt h)
    have h2 : q.num ≠ 0 := fun e => by have := b.1 e; subst this; exact Rat.lt_irrefl h
    omega
theorem rnum_neg {q : Rat} : q.num < 0 ↔ q < 0 := by
  have a := Rat.num_nonneg (q := q)
  constructor
  · intro h; rw [← Rat.not_le]; exact fun x => by have := a.2 x; omega
  · intro h
    have : ¬ 0 ≤ q.num := fun x => absurd (a.1 x) (by rw [Rat.not_le]; exact h)
    omega
theorem sg_pos {q : Rat} : sg q = 1 ↔ 0 < q := by unfold sg; rw [Int.sign_eq_one_iff_pos]; exact rnum_pos
theorem sg_neg {q : Rat} : sg q = -1 ↔ q < 0 := by unfold sg; rw [Int.sign_eq_neg_one_iff_neg]; exact rnum_neg
theorem sg3 (q : Rat) : (0 < q ∧ sg q = 1) ∨ (q = 0 ∧ sg q = 0) ∨ (q < 0 ∧ sg q = -1) := by
  by_cases h : 0 < q
  · exact .inl ⟨h, sg_pos.2 h⟩
  · by_cases h2 : q = 0
    · exact .inr (.inl ⟨h2, sg_zero.2 h2⟩)
    · have : q < 0 := by grind
      exact .inr (.inr ⟨this, sg_neg.2 this⟩)
theorem sg_lt {q : Rat} : sg q < 0 ↔ q < 0 := by rcases sg3 q with ⟨a, b⟩ | ⟨a, b⟩ | ⟨a, b⟩ <;> rw [b] <;> constructor <;> intro h <;> first | grind | (exfalso; grind) | omega
theorem sg_gt {q : Rat} : 0 < sg q ↔ 0 < q := by rcases sg3 q with ⟨a, b⟩ | ⟨a, b⟩ | ⟨a, b⟩ <;> rw [b] <;> constructor <;> intro h <;> first | grind | (exfalso; grind) | omega
theorem sg_mulp {t q : Rat} (h : 0 < t) : sg (t * q) = sg q := by
  rcases sg3 q with ⟨a, b⟩ | ⟨a, b⟩ | ⟨a, b⟩ <;> rw [b]
  · exact sg_pos.2 (Rat.mul_pos h a)
  · rw [a, Rat.mul_zero]; exact sg_zero.2 rfl
  · exact sg_neg.2 ((Rat.mul_neg_iff_of_pos_left h).2 a)
theorem sg_opp (q : Rat) : sg (-q) = - sg q := by unfold sg; rw [Rat.neg_num, Int.sign_neg]
def cmpP (a b : P2) : Int := if sg (a.1 - b.1) ≠ 0 then sg (a.1 - b.1) else sg (a.2 - b.2)
theorem cmpP_zero {a b : P2} : cmpP a b = 0 ↔ a = b := by
  unfold cmpP
  constructor
  · intro h
    split at h
    · rename_i x; exact absurd h x
    · rename_i x
      have x := Decidable.of_not_not x
      exact Prod.ext (by have := sg_zero.1 x; grind) (by have := sg_zero.1 h; grind)
  · rintro rfl
    rw [Rat.sub_self, Rat.sub_self]; rfl
def lexlt (a b : P2) : Prop := a.1 < b.1 ∨ (a.1 = b.1 ∧ a.2 < b.2)
theorem cmpP_lt {a b : P2} : cmpP a b < 0 ↔ lexlt a b := by
  unfold cmpP lexlt
  rcases sg3 (a.1 - b.1) with ⟨x, y⟩ | ⟨x, y⟩ | ⟨x, y⟩
  · rw [y]; simp; constructor <;> intro h <;> grind
  · rw [y]; simp only [ne_eq, not_true_eq_false, if_false]
    rw [sg_lt]; constructor <;> intro h <;> grind
  · rw [y]; simp; grind
theorem cmpP_at2 {a b : P2} (t : Rat) : cmpP a (at2 a b t) = sg t * cmpP a b ∧ cmpP (at2 a b t) b = sg (1 - t) * cmpP a b := by
  have e1 : a.1 - (at2 a b t).1 = t * (a.1 - b.1) := by unfold at2; grind
  have e2 : a.2 - (at2 a b t).2 = t * (a.2 - b.2) := by unfold at2; grind
  have e3 : (at2 a b t).1 - b.1 = (1 - t) * (a.1 - b.1) := by unfold at2; grind
  have e4 : (at2 a b t).2 - b.2 = (1 - t) * (a.2 - b.2) := by unfold at2; grind
  unfold cmpP
  rw [e1, e2, e3, e4]
  have key : ∀ (t p q : Rat), (if sg (t * p) ≠ 0 then sg (t * p) else sg (t * q)) = sg t * (if sg p ≠ 0 then sg p else sg q) := by
    intro t p q
    rcases sg3 t with ⟨x, y⟩ | ⟨x, y⟩ | ⟨x, y⟩
    · rw [sg_mulp x, sg_mulp x, y, Int.one_mul]
    · rw [x, Rat.zero_mul, Rat.zero_mul, show sg 0 = 0 from rfl]; simp
    · have f : ∀ z, sg (t * z) = - sg z := fun z => by
        have : t * z = -((-t) * z) := by grind
        rw [this, sg_opp, sg_mulp (by grind)]
      rw [f, f, y]
      split <;> split <;> first | omega | (exfalso; omega)
  exact ⟨key _ _ _, key _ _ _⟩
def onB (a b x : P2) : Bool := decide (sg (cr a b x) = 0) && (decide (0 ≤ cmpP a x * cmpP x b) && (decide (cmpP a b ≠ 0) || decide (cmpP a x = 0)))
theorem onB_iff {a b x : P2} : onB a b x = true ↔ x = a ∨ x = b ∨ opn a b x := by
  unfold onB
  simp only [Bool.and_eq_true, Bool.or_eq_true, decide_eq_true_eq]
  by_cases h : a = b
  · subst h
    constructor
    · rintro ⟨_, _, h | h⟩
      · exact absurd (cmpP_zero.2 rfl) h
      · exact .inl (cmpP_zero.1 h).symm
    · intro h
      have : x = a := by
        rcases h with h | h | ⟨t, _, _, h⟩
        · exact h
        · exact h
        · rw [h]; unfold at2; ext <;> simp <;> grind
      subst this
      have := cmpP_zero (a := x) (b := x)
      rw [this.2 rfl, cr_a]
      exact ⟨rfl, by omega, .inr rfl⟩
  · have n0 : cmpP a b ≠ 0 := fun e => h (cmpP_zero.1 e)
    constructor
    · rintro ⟨h1, h2, _⟩
      obtain ⟨t, rfl⟩ := col_at2 h (sg_zero.1 h1)
      obtain ⟨c1, c2⟩ := cmpP_at2 (a := a) (b := b) t
      rw [c1, c2] at h2
      have sq : 0 < cmpP a b * cmpP a b := by
        rcases Int.lt_or_gt_of_ne n0 with x | x
        · exact Int.mul_pos_of_neg_of_neg x x
        · exact Int.mul_pos x x
      have h3 : 0 ≤ sg t * sg (1 - t) := by
        have e : sg t * cmpP a b * (sg (1 - t) * cmpP a b) = sg t * sg (1 - t) * (cmpP a b * cmpP a b) := by grind
        rw [e] at h2
        refine Int.not_lt.1 fun x => ?_
        have := Int.mul_neg_of_neg_of_pos x sq
        omega
      rcases sg3 t with ⟨x, y⟩ | ⟨x, y⟩ | ⟨x, y⟩
      · rcases sg3 (1 - t) with ⟨x', y'⟩ | ⟨x', y'⟩ | ⟨x', y'⟩
        · exact .inr (.inr ⟨t, x, by grind, rfl⟩)
        · exact .inr (.inl (by rw [show t = 1 by grind, at2_1]))
        · rw [y, y'] at h3; omega
      · exact .inl (by rw [x, at2_0])
      · rcases sg3 (1 - t) with ⟨x', y'⟩ | ⟨x', y'⟩ | ⟨x', y'⟩
        · rw [y, y'] at h3; omega
        · grind
        · grind
    · intro hx
      have hx : ∃ t, 0 ≤ t ∧ t ≤ 1 ∧ x = at2 a b t := by
        rcases hx with rfl | rfl | ⟨t, t0, t1, rfl⟩
        · exact ⟨0, by grind, by grind, (at2_0 _ _).symm⟩
        · exact ⟨1, by grind, by grind, (at2_1 _ _).symm⟩
        · exact ⟨t, by grind, by grind, rfl⟩
      obtain ⟨t, t0, t1, rfl⟩ := hx
      obtain ⟨c1, c2⟩ := cmpP_at2 (a := a) (b := b) t
      refine ⟨sg_zero.2 (cr_at2 _ _ _), ?_, .inl n0⟩
      rw [c1, c2]
      have sq : 0 ≤ cmpP a b * cmpP a b := by
        rcases Int.lt_or_gt_of_ne n0 with x | x
        · exact Int.le_of_lt (Int.mul_pos_of_neg_of_neg x x)
        · exact Int.le_of_lt (Int.mul_pos x x)
      have e : sg t * cmpP a b * (sg (1 - t) * cmpP a b) = sg t * sg (1 - t) * (cmpP a b * cmpP a b) := by grind
      rw [e]
      refine Int.mul_nonneg ?_ sq
      rcases sg3 t with ⟨x, y⟩ | ⟨x, y⟩ | ⟨x, y⟩ <;> rcases sg3 (1 - t) with ⟨x', y'⟩ | ⟨x', y'⟩ | ⟨x', y'⟩ <;> rw [y, y'] <;> first | omega | (exfalso; grind)
theorem onB_swap (a b x : P2) : onB b a x = onB a b x := by
  rw [Bool.eq_iff_iff, onB_iff, onB_iff, opn_swap]
  constructor <;> rintro (h | h | h) <;> simp [h]
def crs (e : P2 × P2) : Rat := e.1.1 * e.2.2 - e.2.1 * e.1.2
def sumE (f : P2 × P2 → Rat) : List (P2 × P2) → Rat
  | [] => 0
  | e :: l => f e + sumE f l
theorem sumE_app (f : P2 × P2 → Rat) : ∀ l l', sumE f (l ++ l') = sumE f l + sumE f l'
  | [], l' => by rw [List.nil_append, sumE, Rat.zero_add]
  | e :: l, l' => by rw [List.cons_append, sumE, sumE, sumE_app f l l']; grind
theorem sumE_perm {f : P2 × P2 → Rat} {l l' : List (P2 × P2)} (h : l.Perm l') : sumE f l = sumE f l' := by
  induction h with
  | nil => rfl
  | cons x _ ih => rw [sumE, sumE, ih]
  | swap x y l => simp only [sumE]; grind
  | trans _ _ a b => exact a.trans b
theorem sumE_neg {f g : P2 × P2 → Rat} (s : P2 × P2 → P2 × P2) (h : ∀ e, f (s e) = - g e) : ∀ l, sumE f (l.map s) = - sumE g l
  | [] => rfl
  | e :: l => by rw [List.map_cons, sumE, sumE, sumE_neg s h l, h]; grind
def ar2 (l : List P2) : Rat := sumE crs (edg l)
theorem ar2_rot (A B : List P2) : ar2 (A ++ B) = ar2 (B ++ A) := sumE_perm (edg_perm A B)
theorem ar2_rev (l : List P2) : ar2 l.reverse = - ar2 l := by
  unfold ar2
  rw [sumE_perm (edg_rev l)]
  exact sumE_neg (fun e => (e.2, e.1)) (fun e => by unfold crs; grind) _
def xg (x : P2) (e : P2 × P2) : Bool :=
  if decide (x.2 < e.2.2) = decide (x.2 < e.1.2) then false else if x.2 < e.2.2 then decide (0 < cr e.1 e.2 x) else decide (cr e.1 e.2 x < 0)
theorem xg_swap (x : P2) (e : P2 × P2) : xg x (e.2, e.1) = xg x e := by
  unfold xg
  simp only
  rw [cr_swap]
  by_cases h1 : x.2 < e.2.2 <;> by_cases h2 : x.2 < e.1.2 <;> simp [h1, h2] <;> constructor <;> intro h <;> grind
def xs (x : P2) (l : List P2) : Nat := (edg l).countP (xg x)
def onL (l : List P2) (x : P2) : Bool := (edg l).any fun e => onB e.1 e.2 x
theorem any_perm {α : Type} {p : α → Bool} {l l' : List α} (h : l.Perm l') : l.any p = l'.any p := by
  rw [Bool.eq_iff_iff, List.any_eq_true, List.any_eq_true]
  exact ⟨fun ⟨x, a, b⟩ => ⟨x, h.mem_iff.1 a, b⟩, fun ⟨x, a, b⟩ => ⟨x, h.mem_iff.2 a, b⟩⟩
theorem xs_rot (x : P2) (A B : List P2) : xs x (A ++ B) = xs x (B ++ A) := (edg_perm A B).countP_eq _
theorem onL_rot (x : P2) (A B : List P2) : onL (A ++ B) x = onL (B ++ A) x := any_perm (edg_perm A B)
theorem xs_rev (x : P2) (l : List P2) : xs x l.reverse = xs x l := by
  unfold xs
  rw [(edg_rev l).countP_eq, List.countP_map]
  exact List.countP_congr fun e _ => by rw [Function.comp, xg_swap]
theorem onL_rev (x : P2) (l : List P2) : onL l.reverse x = onL l x := by
  unfold onL
  rw [any_perm (edg_rev l), List.any_map]
  congr 1
  funext e
  exact onB_swap _ _ _
def bnd (c : P2 × P2 × P2) : Bool := decide (cr c.1 c.2.1 c.2.2 ≠ 0)
def bflt (l : List (P2 × P2 × P2)) : List P2 := (l.filter bnd).map fun c => c.2.1
def bent (l : List P2) : List P2 := bflt (cor l)
theorem flt_app (l l' : List (P2 × P2 × P2)) : bflt (l ++ l') = bflt l ++ bflt l' := by unfold bflt; rw [List.filter_append, List.map_append]
theorem flt_z {z z' : P2} : ∀ {p a : P2} {t : List P2}, (∀ y, cr y (lst a t) z = 0 ↔ cr y (lst a t) z' = 0) → bflt (trp z p a t) = bflt (trp z' p a t)
  | p, a, [], h => by
    have e : bnd (p, a, z) = bnd (p, a, z') := decide_eq_decide.2 (not_congr (h p))
    unfold bflt trp
    rw [List.filter_cons, List.filter_cons, e]
    split <;> rfl
  | p, a, b :: t, h => by
    have ih := flt_z (p := a) (a := b) (t := t) h
    show bflt ([(p, a, b)] ++ trp z a b t) = bflt ([(p, a, b)] ++ trp z' a b t)
    rw [flt_app, flt_app, ih]
theorem flt_p {z p p' a : P2} {t : List P2} (h : ∀ x, cr p a x = 0 ↔ cr p' a x = 0) : bflt (trp z p a t) = bflt (trp z p' a t) := by
  have key : ∀ x, bflt [(p, a, x)] = bflt [(p', a, x)] := fun x => by
    have e : bnd (p, a, x) = bnd (p', a, x) := decide_eq_decide.2 (not_congr (h x))
    unfold bflt
    rw [List.filter_cons, List.filter_cons, e]
    split <;> rfl
  cases t with
  | nil => exact key z
  | cons b t =>
    show bflt ([(p, a, b)] ++ trp z a b t) = bflt ([(p', a, b)] ++ trp z a b t)
    rw [flt_app, flt_app, key]
theorem bent_rot (A B : List P2) : ∃ X Y, bent (A ++ B) = X ++ Y ∧ bent (B ++ A) = Y ++ X := by
  obtain ⟨X, Y, h1, h2, _⟩ := cor_rot A B
  exact ⟨bflt X, bflt Y, by unfold bent; rw [h1, flt_app], by unfold bent; rw [h2, flt_app]⟩
def AllB (l : List P2) : Prop := ∀ c ∈ cor l, cr c.1 c.2.1 c.2.2 ≠ 0
theorem AllB.bent {l : List P2} (h : AllB l) : bent l = l := by
  unfold Go.Eng.bent bflt
  rw [show (cor l).filter bnd = cor l from List.filter_eq_self.2 fun c hc => decide_eq_true (h c hc)]
  exact cor_cur l
theorem AllB.rot {A B : List P2} (h : AllB (A ++ B)) : AllB (B ++ A) := by
  obtain ⟨X, Y, h1, h2, _⟩ := cor_rot A B
  intro c hc
  refine h c ?_
  rw [h1]; rw [h2] at hc
  exact List.perm_append_comm.mem_iff.1 hc
theorem AllB.rev {l : List P2} (h : AllB l) : AllB l.reverse := by
  intro c hc
  rw [cor_rev] at hc
  obtain ⟨d, hd, rfl⟩ := List.mem_map.1 (List.mem_reverse.1 hc)
  have := h d hd
  unfold swp
  simp only
  rw [← cr_rot, cr_swap] at this
  intro e
  rw [← cr_rot, ← cr_rot] at this
  apply this
  rw [← cr_rot, ← cr_rot] at e
  unfold cr at e ⊢
  grind
section
variable {a : P2} {t : List P2} {d : P2}
theorem ins_bent (hd : opn (lst a t) a d) : bent (a :: (t ++ [d])) = bent (a :: t) := by
  have h0 := opn_cr hd
  obtain ⟨r, r0, r1, h1, h2⟩ := opn_par hd
  have z1 : bnd (lst a t, d, a) = false := by
    refine decide_eq_false (not_not_intro ?_)
    show cr (lst a t) d a = 0
    rw [h1, cr_b]; grind
  show bflt (trp a (lst a (t ++ [d])) a (t ++ [d])) = bflt (trp a (lst a t) a t)
  rw [lst_snoc, tri_snoc, flt_app]
  have e1 : bflt [(lst a t, d, a)] = [] := by unfold bflt; rw [List.filter_cons, z1]; rfl
  rw [e1, List.append_nil, flt_p (p := d) (p' := lst a t), flt_z (z := d) (z' := a)]
  · intro y
    have e1 : cr y (lst a t) d = r * cr (lst a t) a y := by rw [← cr_rot y (lst a t) d, h1]
    have e2 : cr y (lst a t) a = cr (lst a t) a y := (cr_rot y (lst a t) a).symm
    rw [e1, e2]
    constructor
    · intro h
      rcases Rat.mul_eq_zero.1 h with x | x
      · grind
      · exact x
    · intro h; rw [h, Rat.mul_zero]
  · intro x
    rw [h2]
    constructor
    · intro h
      rcases Rat.mul_eq_zero.1 h with x | x
      · grind
      · exact x
    · intro h; rw [h, Rat.mul_zero]
theorem ins_ar2 (hd : opn (lst a t) a d) : ar2 (a :: (t ++ [d])) = ar2 (a :: t) := by
  have h0 := opn_cr hd
  unfold ar2
  rw [edg_snoc, edg_cons, sumE_app, sumE_app]
  simp only [sumE]
  unfold crs
  unfold cr at h0
  grind
theorem ins_on (hd : opn (lst a t) a d) (x : P2) : onL (a :: (t ++ [d])) x = onL (a :: t) x := by
  have key : (onB (lst a t) d x || onB d a x) = onB (lst a t) a x := by
    rw [Bool.eq_iff_iff, Bool.or_eq_true, onB_iff, onB_iff, onB_iff, opn_split (x := x) hd]
    constructor
    · rintro ((h | h | h) | (h | h | h)) <;> simp [h, hd]
    · rintro (h | h | h | h | h) <;> simp [h]
  unfold onL
  rw [edg_snoc, edg_cons, List.any_append, List.any_append]
  simp only [List.any_cons, List.any_nil, Bool.or_false]
  rw [key]
theorem ins_xs (hd : opn (lst a t) a d) (x : P2) : xs x (a :: (t ++ [d])) = xs x (a :: t) := by
  obtain ⟨r, r0, r1, h1, h2⟩ := opn_par hd
  have hy : ∃ s : Rat, 0 < s ∧ s < 1 ∧ d.2 = (lst a t).2 + s * (a.2 - (lst a t).2) := by
    obtain ⟨s, s0, s1, e⟩ := hd
    exact ⟨s, s0, s1, by rw [e]; rfl⟩
  obtain ⟨s, s0, s1, ey⟩ := hy
  have between : ∀ {p q : Rat}, (p ≤ q → p ≤ p + s * (q - p) ∧ p + s * (q - p) ≤ q) ∧ (q ≤ p → q ≤ p + s * (q - p) ∧ p + s * (q - p) ≤ p) := by
    intro p q
    constructor
    · intro h
      have g1 := Rat.mul_nonneg (a := s) (b := q - p) (by grind) (by grind)
      have g2 := Rat.mul_nonneg (a := 1 - s) (b := q - p) (by grind) (by grind)
      exact ⟨by grind, by grind⟩
    · intro h
      have g1 := Rat.mul_nonneg (a := s) (b := p - q) (by grind) (by grind)
      have g2 := Rat.mul_nonneg (a := 1 - s) (b := p - q) (by grind) (by grind)
      exact ⟨by grind, by grind⟩
  have bt := between (p := (lst a t).2) (q := a.2)
  rw [← ey] at bt
  have q0 : 0 < 1 - r := by grind
  have c1 : (0 < cr (lst a t) d x) = (0 < cr (lst a t) a x) := by rw [h1]; exact propext (Rat.mul_pos_iff_of_pos_left r0)
  have c2 : (cr (lst a t) d x < 0) = (cr (lst a t) a x < 0) := by rw [h1]; exact propext (Rat.mul_neg_iff_of_pos_left r0)
  have c3 : (0 < cr d a x) = (0 < cr (lst a t) a x) := by rw [h2]; exact propext (Rat.mul_pos_iff_of_pos_left q0)
  have c4 : (cr d a x < 0) = (cr (lst a t) a x < 0) := by rw [h2]; exact propext (Rat.mul_neg_iff_of_pos_left q0)
  unfold xs
  rw [edg_snoc, edg_cons, List.countP_append, List.countP_append]
  congr 1
  simp only [List.countP_cons, List.countP_nil]
  unfold xg
  simp only [c1, c2, c3, c4]
  by_cases y1 : x.2 < (lst a t).2 <;> by_cases y2 : x.2 < a.2 <;> by_cases y3 : x.2 < d.2 <;> simp [y1, y2, y3] <;> first | done | (exfalso; rcases Rat.le_total (a := (lst a t).2) (b := a.2) with z | z <;> grind)
end
structure Same2 (l b : List P2) : Prop where
  simp : Simp b
  ar : ar2 b = ar2 l
  on : ∀ x, onL b x = onL l x
  xs : ∀ x, xs x b = xs x l
theorem Same2.refl {l : List P2} (h : Simp l) : Same2 l l := ⟨h, rfl, fun _ => rfl, fun _ => rfl⟩
theorem Same2.trans {l b c : List P2} (h : Same2 l b) (k : Same2 b c) : Same2 l c := ⟨k.simp, k.ar.trans h.ar, fun x => (k.on x).trans (h.on x), fun x => (k.xs x).trans (h.xs x)⟩
theorem Same2.rot {A B : List P2} (h : Simp (A ++ B)) : Same2 (A ++ B) (B ++ A) := ⟨h.rot, (ar2_rot A B).symm, fun x => (onL_rot x A B).symm, fun x => (xs_rot x A B).symm⟩
theorem Simp.three {l : List P2} (h : Simp l) (n : l.length = 3) : AllB l := by
  obtain ⟨a, b, c, rfl⟩ : ∃ a b c, l = [a, b, c] := by
    match l, n with
    | [a, b, c], _ => exact ⟨a, b, c, rfl⟩
  have m1 : (a, b) ∈ edg [a, b, c] := by simp [edg, cor, trp, lst]
  have m2 : (b, c) ∈ edg [a, b, c] := by simp [edg, cor, trp, lst]
  have m3 : (c, a) ∈ edg [a, b, c] := by simp [edg, cor, trp, lst]
  have nd := h.nd
  simp only [List.nodup_cons, List.mem_cons, List.not_mem_nil, or_false, not_or] at nd
  have key : cr a b c ≠ 0 := by
    intro e
    rcases col_cases nd.1.1 e (fun e => nd.1.2 e.symm) (fun e => nd.2.1 e.symm) with x | x | x
    · exact h.vo c (by simp) _ m1 x
    · exact h.vo b (by simp) _ m3 (opn_swap.1 x)
    · exact h.vo a (by simp) _ m2 (opn_swap.1 x)
  intro d hd
  have hd : d = (c, a, b) ∨ d = (a, b, c) ∨ d = (b, c, a) := by simpa [cor, trp, lst] using hd
  rcases hd with rfl | rfl | rfl
  · show cr c a b ≠ 0
    rw [← cr_rot]; exact key
  · exact key
  · show cr b c a ≠ 0
    rw [cr_rot]; exact key
theorem Simp.chain : ∀ (n : Nat) {l : List P2}, l.length = n → Simp l → Same2 l (bent l) ∧ AllB (bent l) := by
  intro n
  induction n using Nat.strongRecOn with
  | _ n ih =>
    intro l hl h
    by_cases c : AllB l
    · rw [c.bent]; exact ⟨Same2.refl h, c⟩
    have c : ∃ k, k ∈ cor l ∧ cr k.1 k.2.1 k.2.2 = 0 := Classical.byContradiction fun x => c fun k hk e => x ⟨k, hk, e⟩
    obtain ⟨k, hk, ek⟩ := c
    obtain ⟨i, hi⟩ := List.getElem?_of_mem hk
    have hil : i < l.length := by rw [← cor_len]; exact (List.getElem?_eq_some_iff.1 hi).1
    have sp : l = l.take (i + 1) ++ l.drop (i + 1) := (List.take_append_drop _ _).symm
    obtain ⟨X, Y, h1, h2, h3⟩ := cor_rot (l.take (i + 1)) (l.drop (i + 1))
    rw [← sp] at h1
    have hX : X.length = i + 1 := by rw [h3, List.length_take]; omega
    obtain ⟨X', k', rfl⟩ : ∃ X' k', X = X' ++ [k'] := ⟨X.dropLast, X.getLast (fun e => by rw [e] at hX; simp at hX), (List.dropLast_concat_getLast _).symm⟩
    have ek' : k' = k := by
      rw [h1, List.append_assoc, List.getElem?_append_right (by simp at hX; omega)] at hi
      simp at hX
      rw [hX, Nat.sub_self] at hi
      simpa using hi
    subst ek'
    obtain ⟨r, er⟩ : ∃ r, l.drop (i + 1) ++ l.take (i + 1) = r := ⟨_, rfl⟩
    rw [er] at h2
    have hr : Simp r := by rw [← er]; exact (sp ▸ h : Simp (l.take (i + 1) ++ l.drop (i + 1))).rot
    have S1 : Same2 l r := by
      have := Same2.rot (sp ▸ h : Simp (l.take (i + 1) ++ l.drop (i + 1)))
      rw [← sp, er] at this; exact this
    have rl : r.length = n := by rw [← er, List.length_append, Nat.add_comm, ← List.length_append, ← sp]; exact hl
    obtain ⟨a, t, d, ert⟩ : ∃ a t d, r = a :: (t ++ [d]) := by
      have := hr.n3
      match r, this with
      | a :: b :: t, _ => exact ⟨a, (b :: t).dropLast, (b :: t).getLast (by simp), by rw [List.dropLast_concat_getLast]⟩
    rw [ert] at h2 hr S1 rl
    have e2 : cor (a :: (t ++ [d])) = trp d d a t ++ [(lst a t, d, a)] := by
      show trp a (lst a (t ++ [d])) a (t ++ [d]) = _
      rw [lst_snoc, tri_snoc]
    rw [e2, ← List.append_assoc] at h2
    have ekk : k' = (lst a t, d, a) := by
      have := (List.append_inj' h2 rfl).2
      simpa using this.symm
    rw [ekk] at ek
    have n4 : 3 ≤ (a :: t).length := by
      refine Nat.le_of_not_lt fun x => ?_
      have h3 : (a :: (t ++ [d])).length = 3 := by have := hr.n3; simp at this x ⊢; omega
      exact hr.three h3 _ (by rw [e2]; simp) ek
    have hd := hr.str ek
    have hq := hr.del n4 hd
    have S2 : Same2 (a :: (t ++ [d])) (a :: t) := ⟨hq, (ins_ar2 hd).symm, fun x => (ins_on hd x).symm, fun x => (ins_xs hd x).symm⟩
    obtain ⟨S3, al⟩ := ih (a :: t).length (by simp at rl ⊢; omega) rfl hq
    rw [← ins_bent hd] at S3 al
    have S := (S1.trans S2).trans S3
    obtain ⟨U, V, b1, b2⟩ := bent_rot (l.take (i + 1)) (l.drop (i + 1))
    rw [← sp] at b1
    rw [er, ert] at b2
    rw [b2] at S al
    rw [b1]
    exact ⟨S.trans (Same2.rot S.simp), al.rot⟩
end Go.Eng
end
